import Derived.Test.YtiinnfhjpaeffaaGreatW1
import Derived.Test.YtiinnfhjpaeffaaGreatW28
namespace Go.Proofs.YtiinnfhjpaeffaaGreat
set_option maxHeartbeats 64000000
set_option maxRecDepth 100000
set_option linter.unusedVariables false
section
open Go.RowKit Go.Maps Go.ChangeMaps
def aW(n:Nat)(t:Tr):Nat->Tr
 | 0=>t
 | k+1=>(aW n t k).kid (n / 4 ^ (2-k) % 4)
theorem iR{S:Kor}{n:Nat}{t:Tr}(h:Tr.Ok S 3 t):∀k,k≤3->Tr.Ok S (3-k) (aW n t k)
 | 0,_=>h
 | 1,_=>(iR h 0 (by omega)).kid (gB _ _)
 | 2,_=>(iR h 1 (by omega)).kid (gB _ _)
 | 3,_=>(iR h 2 (by omega)).kid (gB _ _)
 | k+4,hk=>by omega
theorem Bh(n:Nat)(t:Tr){j:Nat}(h:aW n t j=.hole):∀i,aW n t (j+i)=.hole
 | 0=>h
 | i+1=>by
   show (aW n t (j+i)).kid _=.hole;rw[Bh n t h i];rfl
theorem Do{S:Kor}{n:Nat}{t:Tr}(h:Tr.Ok S 3 t):t.blk 3 n=(aW n t 3).blk 0 n:=by
 rw[h.blk_succ,(h.kid (gB n 2)).blk_succ,((h.kid (gB n 2)).kid (gB n 1)).blk_succ];rfl
def eR(n:Nat)(t:Tr)(k:Nat)(pv:Value)(vs:Nat->Value):List Value:=
 aE pv (aW n t k).ptr++(cE ((3-k:Nat):Int) vs (fun i=>((aW n t k).kid i).ptr)++[.int .i64 ((n / 4 ^ (2-k) % 4:Nat):Int)])
def lF(n:Nat)(t:Tr)(k:Nat)(pvs:Nat->Value)(vss:Nat->Nat->Value):List Value:=(List.range k).flatMap fun j=>eR n t j (pvs j) (vss j)
def Apt(sv v:Value):Prop:=∀i,sv.ownBlock=some i->v.ownBlock≠some i
def AA(M:Nat)(v:Value):Prop:=∀i,v.ownBlock=some i->M≤i
structure cG(w0 w:World)(B:Nat->Prop)(M:Nat)(pv0:Value)(n:Nat)(t:Tr)(k:Nat)(sv:Value)(pvs:Nat->Value)(vss:Nat->Nat->Value):Prop where
 row:w.ownsRow w0.heap.size 166 177 sv k (lF n t k pvs vss)
 pvs:∀j,j<k->bA w B (pvs j) (aW n t j).ptr/\Apt sv (pvs j)/\(pvs j=pv0\/AA M (pvs j))
 vss:∀j,j<k->cF w B (vss j) (fun i=>((aW n t j).kid i).ptr)/\∀q,q<4->Apt sv (vss j q)/\AA M (vss j q)
theorem rM{sv v2 v:Value}{w:World}{B:Nat->Prop}{p:Pt}(h:Apt sv v)(h2:v2.ownBlock=sv.ownBlock\/v2.ownBlock=some w.heap.size)(hp:bA w B v p):Apt v2 v:=fun i hi e=>by
 rcases h2 with h2|h2
 ·rw[h2] at hi;exact h i hi e
 ·rw[h2] at hi
  have:=(hp.off i e).2.lt;injection hi with hi
  omega
section
variable {w0 w w' wE:World}{B:Nat->Prop}{M:Nat}{pv0:Value}{n:Nat}{t:Tr}{k:Nat}{sv v2:Value}{pvs:Nat->Value}{vss:Nat->Nat->Value}
theorem cG.keepT{T:Nat->Prop}(h:cG w0 w B M pv0 n t k sv pvs vss)(kp:aA T w w')(h1:∀i,sv.ownBlock=some i->¬T i)(h2:∀i,pv0.ownBlock=some i->¬T i)(h3:∀i,M≤i->¬T i):cG w0 w' B M pv0 n t k sv pvs vss:=
 ⟨kp.owns h.row h1,fun j hj=>⟨(h.pvs j hj).1.keepT kp fun i hi=>((h.pvs j hj).2.2).elim (fun e=>h2 i (e▸hi)) fun e=>h3 i (e i hi),(h.pvs j hj).2⟩,fun j hj=>⟨fun q hq=>((h.vss j hj).1 q hq).keepT kp fun i hi=>h3 i (((h.vss j hj).2 q hq).2 i hi),(h.vss j hj).2⟩⟩
theorem cG.keep0(h:cG w0 w B M pv0 n t k sv pvs vss)(kp:aA aB w w'):cG w0 w' B M pv0 n t k sv pvs vss:=h.keepT kp (fun _ _=>id) (fun _ _=>id) fun _ _=>id
theorem cG.next(h:cG w0 w B M pv0 n t k sv pvs vss)(kE:aA aB w wE){pv:Value}{vs:Nat->Value}(hp:bA w B pv (aW n t k).ptr)(ap:Apt sv pv)(fp:pv=pv0\/AA M pv)(hv:cF w B vs (fun i=>((aW n t k).kid i).ptr))(av:∀q,q<4->Apt sv (vs q)/\AA M (vs q))
 (ho:w'.ownsRow w0.heap.size 166 177 v2 (k+1) (lF n t k pvs vss++eR n t k pv vs)) (kr:aA (fun i=>sv.ownBlock=some i) wE w') (h2:v2.ownBlock=sv.ownBlock\/v2.ownBlock=some wE.heap.size):cG w0 w' B M pv0 n t (k+1) v2 (fun j=>if j=k then pv else pvs j) (fun j=>if j=k then vs else vss j):=by
 have e:lF n t (k+1) (fun j=>if j=k then pv else pvs j) (fun j=>if j=k then vs else vss j)=lF n t k pvs vss++eR n t k pv vs:=by
  unfold lF;rw[List.range_succ,List.flatMap_append,List.flatMap_cons,List.flatMap_nil,List.append_nil]
  congr 1
  ·rw[List.flatMap_def,List.flatMap_def]
   congr 1
   refine List.map_congr_left fun j hj=>?_
   have:=List.mem_range.1 hj;show eR n t j (if j=k then pv else pvs j) (if j=k then vs else vss j)=_;rw[if_neg (by omega),if_neg (by omega)]
  ·show eR n t k (if k=k then pv else pvs k) (if k=k then vs else vss k)=_
   rw[if_pos rfl,if_pos rfl]
 refine⟨by rw[e];exact ho,fun j hj=>?_,fun j hj=>?_⟩
 ·by_cases ej:j=k
  ·subst ej
   rw[if_pos rfl];exact⟨(hp.keep0 kE).keepT kr fun i hi e=>ap i e hi,rM ap h2 (hp.keep0 kE),fp⟩
  ·rw[if_neg ej]
   obtain⟨h3,h4,h5⟩:=h.pvs j (by omega);exact⟨(h3.keep0 kE).keepT kr fun i hi e=>h4 i e hi,rM h4 h2 (h3.keep0 kE),h5⟩
 ·by_cases ej:j=k
  ·subst ej
   rw[if_pos rfl];exact⟨fun q hq=>((hv q hq).keep0 kE).keepT kr fun i hi e=>(av q hq).1 i e hi,fun q hq=>⟨rM (av q hq).1 h2 ((hv q hq).keep0 kE),(av q hq).2⟩⟩
  ·rw[if_neg ej]
   obtain⟨h3,h4⟩:=h.vss j (by omega);exact⟨fun q hq=>((h3 q hq).keep0 kE).keepT kr fun i hi e=>(h4 q hq).1 i e hi,fun q hq=>⟨rM (h4 q hq).1 h2 ((h3 q hq).keep0 kE),(h4 q hq).2⟩⟩
theorem cG.nil(w0 w:World)(B:Nat->Prop)(M:Nat)(pv0:Value)(n:Nat)(t:Tr):cG w0 w B M pv0 n t 0 (.slice none 0 0) (fun _=>.slice none 0 0) (fun _ _=>.slice none 0 0):=⟨World.ownsRow_nil _ _ _ _,fun j hj=>by omega,fun j hj=>by omega⟩
end
structure eO(w:World)(B:Nat->Prop)(M:Nat)(pv0 sv pv:Value)(p:Pt):Prop where
 val:bA w B pv p
 apt:Apt sv pv
 far:pv=pv0\/AA M pv
theorem eO.keepT{T:Nat->Prop}{w w':World}{B:Nat->Prop}{M:Nat}{pv0 sv pv:Value}{p:Pt}(h:eO w B M pv0 sv pv p)(k:aA T w w')(h2:∀i,pv0.ownBlock=some i->¬T i)(h3:∀i,M≤i->¬T i):eO w' B M pv0 sv pv p:=
 ⟨h.val.keepT k fun i hi=>h.far.elim (fun e=>h2 i (e▸hi)) fun e=>h3 i (e i hi),h.apt,h.far⟩
theorem eO.keep0{w w':World}{B:Nat->Prop}{M:Nat}{pv0 sv pv:Value}{p:Pt}(h:eO w B M pv0 sv pv p)(k:aA aB w w'):eO w' B M pv0 sv pv p:=h.keepT k (fun _ _=>id) fun _ _=>id
theorem B8{w:World}{a b:Nat}{c1 c2:Array Value}{T1 T2:TypeId}{f1 f2:Nat×Nat}(h1:w.heap[a]?=some (.cells c1 T1 f1))(h2:w.heap[b]?=some (.cells c2 T2 f2))(hT:T1≠T2):a≠b:=fun e=>by
 rw[e,h2] at h1;injection h1 with h1
 injection h1 with h1 h3
 exact hT h3.symm
def AB(w:World)(B:Nat->Prop)(pv0:Value)(n:Nat)(t:Tr)(short:Bool)(e:Ending)(w':World):Prop:=
 ∃sv pvf k pvs vss M,e=.returned (.tuple #[sv,.agg (aE pvf (aW n t 3).ptr).toArray,.int .i64 0])/\(short=false->k=3)/\w.heap.size≤M/\cG w w' B M pv0 n t k sv pvs vss/\eO w' B M pv0 sv pvf (aW n t 3).ptr/\aA aB w w'
theorem Er{P:Program}{fn:Func}{a p q:Tmp}{ty:TypeId}(h:fn.results=#[.tmp a,.cell p ty,.tmp q])(tmps:Array Value)(w:World)(g:Nat)(t:TypeId)(cs:Array Value)(fr:Nat×Nat)(d:TypeDesc)
 (hp:tmps.getD p undef=.pointer (some ⟨g,0,none⟩)) (hg:w.heap[g]?=some (.cells cs t fr)) (hu:P.underlying ty=some d) (hd:(match d with|.struct _|.array _ _=>true|_=>false)=true) (hi:(P.info? ty).map (·.size)=some cs.size):(results fn tmps).run P w=.ok (.tuple #[tmps.getD a undef,.agg cs,tmps.getD q undef]) w:=by
 simp only[Array.getD_eq_getD_getElem?] at hp;simp[results,h,hp,asAddr,Result.andThen,run_loadVar_row w g t ty cs fr d hg hu hd hi]
def iN:List Value:=aH++(dC++[.int .i64 0])
theorem gN:iN.length=177:=rfl
theorem zD:Hid (∀w,(zeroValue 166).run Tryz.prog w=.ok (.agg iN.toArray) w):=O fun w=>by kernel_rfl
theorem rN:(Tryz.prog.info? 166).map (·.size)=some 177:=by kernel_rfl
theorem I2:(Tryz.prog.info? 166).map (fun i=>(i.zero,i.size,i.bytes))=some (some (.agg iN.toArray),177,376):=by kernel_rfl
theorem I3(N:Nat)(uc:List Value)(h:uc.length=N):uc=(List.range N).map fun i=>uc.getD i undef:=by
 apply List.ext_getElem?;intro i;rw[List.getElem?_map]
 by_cases hi:i<N
 ·rw[List.getElem?_range hi,List.getElem?_eq_getElem (by omega)]
  simp[List.getD,List.getElem?_eq_getElem (show i<uc.length by omega)]
 ·rw[List.getElem?_eq_none (by omega),List.getElem?_eq_none (by simp;omega)];rfl
theorem Gq(f g:Nat->Value)(d:Int):Tryz.prog.built 166 [(0,.agg ((List.range 35).map f).toArray),(1,.agg ((List.range 141).map g).toArray),(2,.int .i64 d)]=some ((List.range 35).map f++((List.range 141).map g++([.int .i64 d]:List Value))).toArray:=by kernel_rfl
theorem I4(pc nn:List Value)(d:Int)(h1:pc.length=35)(h2:nn.length=141)(w:World):(Instr.build 166 #[(0,.agg pc.toArray),(1,.agg nn.toArray),(2,.int .i64 d)]).run Tryz.prog w=.ok (.agg (pc++(nn++([.int .i64 d]:List Value))).toArray) w:=by
 refine run_build w 166 _ _ ?_;rw[I3 35 pc h1,I3 141 nn h2];exact Gq _ _ _
def Oo(l:Nat)(sh ho:Bool)(w:World)(vs:List Value)(w':World):Prop:=aA aB w w'/\∃s1 s2 s3 s4 s5 s6 s7 s8 s9 b,vs=[s1,s2,s3,s4,s5,s6,s7,s8,s9,.bool b]/\(b=true->0<l/\(sh=true->ho=false))/\(b=false->l=0\/(sh=true/\ho=true))
theorem Dp{w:World}{c:Nat}{S:Kor}{B:Nat->Prop}(hK:KI w c S B)(pv:Value)(t:Tr)(ht:Tr.Ok S 3 t)(hp:bA w B pv t.ptr)(n:Nat)(hn:n<64)(sh:Bool):Calls Tryz.prog 90 #[.pointer (some ⟨c,0,none⟩),.agg (aE pv t.ptr).toArray,.int .i64 (n:Int),.bool sh] w (AB w B pv n t sh):=by
 have HT:=O ht;have HN:=O hn;have HPT:=O hp;have HK:=O hK;obtain⟨p,hpe⟩:∃p,t.ptr=p:=⟨_,rfl⟩
 have HPE:=O hpe;rw[hpe] at HPT hp ⊢;obtain⟨pc,HPC,hpc,HOP⟩:=nmPt hp.pt;rw[HPC.out];have HL:=lN w;clear hp ht hK hpe;have HPT0:=HPT;have HK0:=HK;go_in
 go_wp2_with ((with_reducible show WL _ _);refine bxL HL 27 (.tmp 1) (pc.toArray) ?_)
 intro b5 w1 hk HL;replace HPT:=pK HPT hk;replace HK:=O (HK.out.keep0 hk);clear hk
 go_wp2_with ((with_reducible show WL _ _);refine alL HL 27 (.agg aH.toArray) (aH.toArray) bG ?_)
 intro b9 w2 hk HL;replace HPT:=pK HPT hk;replace HK:=O (HK.out.keep0 hk);clear hk
 go_wp2_with ((with_reducible show WL _ _);first
  | refine wpList_load_mid rfl 27 (.tmp 5) rfl b5 0 rfl pc _ (aD (HL.out.b 1)) aF rfl (szP9 hpc) ?_
  | refine al 27 (.agg aH.toArray) (aH.toArray) bG ?_)
 intro b12 w3 hbs hk0 hb0_
 go_wp2_with ((with_reducible show WL _ _);refine sta 27 (.tmp 12) (.tmp 17) b12 0 pc hb0_ (by first|decide|(rw[List.size_toArray,hpc];exact Nat.le_refl _)|simp[hpc,aG]) (szP9 hpc) HOP.out ?_)
 intro w4 hk hb;rw[aI _ _ (by first|rfl|(rw[List.size_toArray,hpc];rfl)|simp[hpc,aG])] at hb;replace hk:=tX hk0 hk (fun i hi e=>by omega);replace HL:=lW HL hbs hk hb;replace HPT:=pK HPT hk;replace HK:=O (HK.out.keep0 hk);clear hbs hk hb hk0 hb0_;go_wp2_with fail;have HB9:=O (HL.out.b 1);have HB12:=O (HL.out.b 0);have HGE:=O (And.intro (HL.out.lt 1) (HL.out.lt 0));have HNE:Hid (b9≠b12):=O (fun e=>bF (i:=0) HL.out.nd rfl 1 (by decide) rfl e);have HKW:=O HL.out.keep;obtain⟨M,hM⟩:∃M,w4.heap.size=M:=⟨_,rfl⟩
 rw[hM] at HGE;have HM:=O (show w.heap.size≤M from by have:=HKW.out.size;omega);have HMW:=O (Nat.le_of_eq hM.symm);obtain⟨Wh,hWh⟩:∃W,w4=W:=⟨_,rfl⟩
 rw[hWh] at HPT HK HB9 HB12 HKW HMW ⊢;have HP0:=O (fun i (hi:pv.ownBlock=some i)=>(HPT0.out.off i hi).2.lt);clear HL hWh hM
 go_loopw [11,13] (fun s i wr=>∃(l:Nat) (sa:Option Addr) (sn sc:Nat),sn+l=3/\i=.int .i64 (l:Int)/\s=.slice sa sn sc/\Hid (aA aB w wr/\M≤wr.heap.size)/\Hid (∃pvs vss,cG w wr B M pv n t sn (.slice sa sn sc) pvs vss)/\Hid (∃pvc,eO wr B M pv (.slice sa sn sc) pvc (aW n t sn).ptr/\wr.heap[b12]?=some (.cells (aE pvc (aW n t sn).ptr).toArray 27 (0,0)))/\Hid (wr.heap[b9]?=some (.cells aH.toArray 27 (0,0)))) (fun _ i _=>(intOf i).toNat)
 case atStart=>exact⟨3,none,0,0,by omega,rfl,rfl,O ⟨HKW.out,HMW.out⟩,O ⟨_,_,cG.nil _ _ _ _ _ _ _⟩,O ⟨pv,⟨by show bA _ B pv t.ptr;rw[HPE.out];exact HPT.out,(fun i hi=>by cases hi),.inl rfl⟩,by have h:=HB12.out;rw[←HPC.out,←HPE.out] at h;exact h⟩,HB9⟩
 case round =>
  obtain⟨l,sa,sn,sc_,hsn,rfl,rfl,HK8,HWR,HPV,HB9⟩:=hrel;obtain⟨pvs,vss,hwr⟩:=HWR.out;obtain⟨pvc,hpv1,hpv3⟩:=HPV.out;obtain⟨q,hq⟩:∃q,(aW n t sn).ptr=q:=⟨_,rfl⟩
  have HQ:=O hq;rw[hq] at hpv1 hpv3;have hqc:=aJ (v:=pvc) hpv1.val.pt.sum;have HOQ0:=aU hpv1.val.pt;obtain⟨qc,hqce⟩:∃x,aE pvc q=x:=⟨_,rfl⟩
  have HOQ:Hid (∀u∈qc,u.oneCell'=true):=O (by rw[←hqce];exact HOQ0);have HQC:=O hqce;rw[hqce] at hqc hpv3;have HR:=O hwr;have HWP:=O hpv1;have HB12:=O hpv3;have HKi:=O (HK0.out.keep0 HK8.out.1);clear hwr hpv1 hpv3 HWR HPV hq hqce HOQ0;have HL:=lN wr;obtain⟨ho,hh9⟩:∃b,q.hole=b:=⟨_,rfl⟩
  have HH9:=O hh9;clear hh9;refine wp_seq_k fun K1 hK1=>?_
  refine wp_seq_k fun K2 hK2=>?_
  refine KT [18,19,20,21,22,23,24,25,26,27] (Oo l sh ho wr) ?_ ?_
  ·rcases Nat.eq_zero_or_pos l with hl0|hl0
   ·have hi:¬(0:Int)<(l:Int):=by omega
    have d0:decide ((0:Int)<(l:Int))=false:=decide_eq_false hi;have HL0:=O hl0;clear hl0;go_wp2_with fail;exact⟨rfl,[.int .i64 (l:Int),.bool false,.bool false,undef,undef,undef,undef,undef,undef,.bool false],(by simp only[qL,Act.put,List.setIfInBounds_toArray,List.set_cons_zero,List.set_cons_succ]),aA.refl _ _,_,_,_,_,_,_,_,_,_,_,rfl,(fun h=>by cases h),fun _=>.inl HL0.out⟩
   ·have hi:(0:Int)<(l:Int):=by omega
    have d0:decide ((0:Int)<(l:Int))=true:=decide_eq_true hi;cases sh with
    | false =>
      go_wp2_with fail;exact⟨rfl,[.int .i64 (l:Int),.bool true,.bool true,.bool false,.bool false,undef,undef,.bool false,.bool true,.bool true],(by simp only[qL,Act.put,List.setIfInBounds_toArray,List.set_cons_zero,List.set_cons_succ]),aA.refl _ _,_,_,_,_,_,_,_,_,_,_,rfl,(fun _=>⟨hl0,fun e=>by cases e⟩),fun e=>by cases e⟩
    | true =>
      cases ho with
      | false =>
        go_wp2_with ((with_reducible show WL _ _);refine aM (by rfl) 27 (.tmp 12) rfl b12 0 rfl qc _ (aD HB12.out) aF rfl (szP9 hqc) ?_)
        refine((by rw[←HQC.out];have h:=cJ wr pvc q HWP.out.val.pt;rw[HH9.out] at h;exact h:Calls _ _ _ wr (aX wr false))).mono ?_;rintro e w9 ⟨rfl,hk9⟩;have HK9:=O hk9;clear hk9;go_wp2_with fail;exact⟨rfl,[.int .i64 (l:Int),.bool true,.bool true,.bool true,.bool true,.agg qc.toArray,.bool false,.bool false,.bool true,.bool true],(by simp only[qL,Act.put,List.setIfInBounds_toArray,List.set_cons_zero,List.set_cons_succ]),HK9.out,_,_,_,_,_,_,_,_,_,_,rfl,(fun _=>⟨hl0,fun _=>rfl⟩),fun e=>by cases e⟩
      | true =>
        go_wp2_with ((with_reducible show WL _ _);refine aM (by rfl) 27 (.tmp 12) rfl b12 0 rfl qc _ (aD HB12.out) aF rfl (szP9 hqc) ?_)
        refine((by rw[←HQC.out];have h:=cJ wr pvc q HWP.out.val.pt;rw[HH9.out] at h;exact h:Calls _ _ _ wr (aX wr true))).mono ?_;rintro e w9 ⟨rfl,hk9⟩;have HK9:=O hk9;clear hk9;go_wp2_with fail;exact⟨rfl,[.int .i64 (l:Int),.bool true,.bool true,.bool true,.bool true,.agg qc.toArray,.bool true,.bool true,.bool false,.bool false],(by simp only[qL,Act.put,List.setIfInBounds_toArray,List.set_cons_zero,List.set_cons_succ]),HK9.out,_,_,_,_,_,_,_,_,_,_,rfl,(fun e=>by cases e),fun _=>.inr ⟨rfl,rfl⟩⟩
  rintro _ wr ⟨hk9,s1,s2,s3,s4,s5,s6,s7,s8,s9,bb,rfl,hb1,hb0⟩;have HB1:=O hb1;have HB0:=O hb0;replace HR:=O (cG.keep0 HR.out hk9);replace HWP:=O (eO.keep0 HWP.out hk9);replace HKi:=O (HKi.out.keep0 hk9);replace HB12:=O (hk9.blk HB12.out id);replace HB9:=O (hk9.blk HB9.out id);replace HK8:Hid (aA aB w wr/\M≤wr.heap.size):=O ⟨HK8.out.1.trans hk9,Nat.le_trans HK8.out.2 hk9.size⟩;replace HL:=O (Loc.nil aB aB wr);have HRr:=HR;have HWB:=O HK8.out.1.size;have HKWR:=O (Nat.le_refl wr.heap.size);clear hk9 hb1 hb0;refine hK2 _ _ ?_;simp only[qL,Act.put,List.setIfInBounds_toArray,List.set_cons_zero,List.set_cons_succ];cases bb with
  | false =>
    have HHE:Hid ((aW n t 3).ptr=q):=O (by
     rcases HB0.out (by simp) with e|⟨e,hh⟩
     ·have e3:sn=3:=by omega
      rw[←e3];exact HQ.out
     ·have h1:aW n t sn=.hole:=gL (by rw[←(iR (n:=n) HT.out sn (by omega)).hole_eq,HQ.out,HH9.out,hh])
      have h2:=Bh n t h1 (3-sn);rw[show sn+(3-sn)=3 by omega] at h2;rw[h2,←HQ.out,h1])
    go_wp2_with fail;have HQ3:Hid ((aW n t 3).ptr=q):=O HHE.out;have HKR:=O HL.out.keep;clear HL;obtain⟨S',hS0⟩:∃S:World->Prop,S=fun w'=>cG w w' B M pv n t sn (.slice sa sn sc_) pvs vss/\eO w' B M pv (.slice sa sn sc_) pvc q/\w'.heap[b12]?=some (.cells qc.toArray 27 (0,0))/\aA aB w w':=⟨_,rfl⟩
    have HSE:=O (show ∀w',S' w'->_ from fun w' h=>by rw[hS0] at h;exact h);have HSI:=O (show ∀w',_->S' w' from fun w' h=>by rw[hS0];exact h);have hkd:=(aA.refl aB wr).drew;have hS:S' wr.drew:=HSI.out _ ⟨HR.out.keep0 hkd,HWP.out.keep0 hkd,hkd.blk HB12.out id,(HK8.out.1.trans HKR.out).trans hkd⟩;have HB9d:=O (hkd.blk HB9.out id);clear hS0 hkd;refine wp_region_held (S:=S') (by kernel_rfl) ?_;change wpAnyH _ _ _ _ _ _ _ _ wr.drew;generalize wr.drew=wy at hS HB9d ⊢;refine tna 0 (.slice sa sn sc_) rfl hS ?_;refine tnd 1 (.agg qc.toArray) rfl (yieldsIf_load_mid (by rfl) 27 (.tmp 12) rfl b12 0 rfl qc _ (fun w' h=>aD (HSE.out w' h).2.2.1) aF rfl (szP9 hqc)) hS ?_;refine tna 2 (.slice sa sn sc_) rfl hS ?_;refine wA9 3 ?_;refine sta 27 (.tmp 9) (.tmp 57) b9 0 qc HB9d.out (by rw[List.size_toArray,aG,hqc];omega) (szP9 hqc) HOQ.out ?_;intro wz hk hb;rw[aI _ _ (by rw[List.size_toArray,aG,hqc])] at hb;have HB9z:=O hb
    have hS1:S' wz:=HSI.out _ (by
     obtain⟨h1,h2,h3,h4⟩:=HSE.out _ hS;have g0:=HGE.out.1;refine⟨h1.keepT hk (fun i hi e=>?_) (fun i hi e=>?_) (fun i hi e=>by omega),h2.keepT hk (fun i hi e=>?_) (fun i hi e=>by omega),hk.blk h3 HNE.out.symm,h4.trans' hk (fun _ _ h=>h) (fun i hi e=>by omega)⟩
     ·obtain⟨cur,hc⟩:=aL h1.row hi
      exact B8 hc HB9d.out (by decide) e
     ·have:=HP0.out i hi;omega
     ·have:=HP0.out i hi;omega)
    clear hS hk hb;refine wpList_nil ?_;refine⟨hS1,?_⟩;refine tna 4 (.int .i64 0) rfl hS1 ?_;refine wpAnyH_done (by kernel_rfl) ?_ _;have HF:=O (HSE.out _ hS1);clear hS1 HSE HSI HR HWP HB12 HB9 HB9d;go_wp2_with fail;refine bodyPost_ret (Er rfl _ _ b9 _ _ _ _ rfl HB9z.out aF rfl (by rw[List.size_toArray,hqc];exact dF)) rfl ?_;exact⟨_,pvc,sn,pvs,vss,M,by rw[HQ3.out,HQC.out];rfl,(fun hs=>(HB0.out (by simp)).elim (fun e=>by omega) fun e=>by rw[hs] at e;cases e.1),HM.out,HF.out.1,by rw[HQ3.out];exact HF.out.2.1,HF.out.2.2.2⟩
  | true =>
    have hl0:=(HB1.out (by simp)).1;obtain⟨l2,rfl⟩:∃l2,l=l2+1:=⟨l-1,by omega⟩
    have hl2:l2≤2:=by omega
    have HOKP:=O (iR (n:=n) HT.out sn (by omega));have e4:3-sn=l2+1:=by omega
    rw[e4] at HOKP;clear e4 hl0;have hl20:(0:Int)≤(l2:Int):=by omega
    go_wp2_with ((with_reducible show WL _ _);refine wpList_load_mid rfl 27 (.tmp 12) rfl b12 0 rfl qc _ (aD HB12.out) aF rfl (szP9 hqc) ?_)
    refine((by rw[←HQC.out,←HQ.out];exact IY HKi.out hl2 pvc (aW n t sn) HOKP.out (by rw[HQ.out];exact HWP.out.val.pt):Calls _ _ _ wr (fG wr B l2 (aW n t sn)))).mono ?_;rintro e w6 ⟨vs,rfl,hvs,hnew,hk⟩;have HNN:=O hvs;have HNW:=O hnew;have HWS:=O HL.out.keep.size;have hnn:=dY ((l2+1:Nat):Int) vs hvs.nv;have HOF0:=dI ((l2+1:Nat):Int) hvs.nv;obtain⟨nn,hnne⟩:∃x,cE ((l2+1:Nat):Int) vs (fun i=>((aW n t sn).kid i).ptr)=x:=⟨_,rfl⟩
    have HOF:Hid (∀u∈nn,u.oneCell'=true):=O (by rw[←hnne];exact HOF0);have HNF:=O hnne;rw[hnne] at hnn ⊢;clear HOF0 hnne hvs hnew;replace HL:=kL HL hk;replace HR:=O (cG.keep0 HR.out hk);replace HWP:=O (eO.keep0 HWP.out hk);replace HKi:=O (HKi.out.keep0 hk);replace HB12:=O (hk.blk HB12.out id);replace HB9:=O (hk.blk HB9.out id);clear hk;have HKR:=O HL.out.keep;replace HL:=O (Loc.nil aB aB w6);have HR1:=HR;have HWP1:=HWP;have HKi1:=HKi;have HB121:=HB12;have HB91:=HB9;have HNN1:=HNN
    go_wp2_with ((with_reducible show WL _ _);refine al 98 (.agg dC.toArray) (dC.toArray) jK ?_)
    intro b14 w7 hbs hk0 hb0_
    go_wp2_with ((with_reducible show WL _ _);refine sta 98 (.tmp 14) (.tmp 35) b14 0 nn hb0_ (by first|decide|(rw[List.size_toArray,hnn];exact Nat.le_refl _)|simp[hnn,bT]) (by rw[hnn];exact dG) HOF.out ?_)
    intro w8 hk hb;rw[aI _ _ (by first|rfl|(rw[List.size_toArray,hnn];rfl)|simp[hnn,bT])] at hb;replace hk:=tX hk0 hk (fun i hi e=>by omega);replace HL:=lW HL hbs hk hb;replace HR:=O (cG.keep0 HR.out hk);replace HWP:=O (eO.keep0 HWP.out hk);replace HKi:=O (HKi.out.keep0 hk);replace HB12:=O (hk.blk HB12.out id);replace HB9:=O (hk.blk HB9.out id);replace HNN:=O (cF.keep0 HNN.out hk);clear hbs hk hb hk0 hb0_;obtain⟨d,hde⟩:∃d,n / 4 ^ l2 % 4=d:=⟨_,rfl⟩
    have HDE:=O hde;have hd4:d<4:=by rw[←hde];exact gB n l2
    have hbs:=I4 qc nn ((d:Nat):Int) hqc hnn;have hsc:(qc++(nn++([.int .i64 ((d:Nat):Int)]:List Value))).length=177:=by simp[hqc,hnn]
    obtain⟨sc,hsce⟩:∃x,qc++(nn++([.int .i64 ((d:Nat):Int)]:List Value))=x:=⟨_,rfl⟩
    have HOSC:Hid (∀u∈sc,u.oneCell'=true):=O (by
     intro u hu;rw[←hsce] at hu;rcases List.mem_append.1 hu with hu|hu
     ·exact HOQ.out u hu
     rcases List.mem_append.1 hu with hu|hu
     ·exact HOF.out u hu
     ·rcases List.mem_singleton.1 hu with rfl;rfl)
    have HSC:=O hsce;rw[hsce] at hbs hsc;have HBS:=O hbs;clear hde hbs hsce;go_wp2_with fail;apply Ep (R:=fun(b16:Nat) w'=>Hid (cG w w' B M pv n t sn (.slice sa sn sc_) pvs vss/\eO w' B M pv (.slice sa sn sc_) pvc q/\KI w' c S B/\w'.heap[b12]?=some (.cells qc.toArray 27 (0,0))/\w'.heap[b9]?=some (.cells aH.toArray 27 (0,0))/\cF w' B vs (fun i=>((aW n t sn).kid i).ptr)/\Loc aB aB w6 w' [(b16,sc.toArray,166),(b14,nn.toArray,98)]))
    case h =>
     go_wp2_with fail;refine dwB aB (by kernel_rfl) ?_;intro w9 S HSE HSI hS hkd;replace HL:=kL HL hkd;replace HR:=O (cG.keep0 HR.out hkd);replace HWP:=O (eO.keep0 HWP.out hkd);replace HKi:=O (HKi.out.keep0 hkd);replace HB12:=O (hkd.blk HB12.out id);replace HB9:=O (hkd.blk HB9.out id);replace HNN:=O (cF.keep0 HNN.out hkd);clear hkd;have HLs:=HL;have HRs:=HR;have HWPs:=HWP;have HKis:=HKi;have HB12s:=HB12;have HB9s:=HB9;have HNNs:=HNN;refine tnd 0 (.agg qc.toArray) rfl (yieldsIf_load_mid (by rfl) 27 (.tmp 12) rfl b12 0 rfl qc _ (fun w' h=>(HSE.out w' h).rangeAt (aD HB12s.out)) aF rfl (szP9 hqc)) hS ?_;refine tnd 1 (.agg nn.toArray) rfl (yieldsIf_load_mid (by rfl) 98 (.tmp 14) rfl b14 0 rfl nn _ (fun w' h=>aD ((HSE.out w' h).blk (HLs.out.b 0) id)) Tryz.underlying98 rfl (by rw[hnn];exact dG)) hS ?_;refine tna 2 (.int .i64 (n:Int)) rfl hS ?_;refine tna 3 (.int .i64 ((l2+1:Nat):Int)) rfl hS ?_;refine gH (k:=4) (l:=6) rfl rfl (by kernel_rfl) ?_ ?_
     ·go_wp2_with fail
      refine(Bg w9 n l2 HN.out (by omega)).mono ?_;rintro e wa ⟨rfl,hk⟩;have hS1:=HSI.out _ ((HSE.out _ hS).trans hk);replace HL:=kL HL hk;replace HR:=O (cG.keep0 HR.out hk);replace HWP:=O (eO.keep0 HWP.out hk);replace HKi:=O (HKi.out.keep0 hk);replace HB12:=O (hk.blk HB12.out id);replace HB9:=O (hk.blk HB9.out id);replace HNN:=O (cF.keep0 HNN.out hk);clear hS hk;rw[HDE.out];go_wp2_with fail;refine⟨hS1,?_⟩;refine tnd 5 (.agg sc.toArray) rfl (fA 166 #[(0,.tmp 41),(1,.tmp 42),(2,.tmp 45)] [(0,.agg qc.toArray),(1,.agg nn.toArray),(2,.int .i64 ((d:Nat):Int))] (.agg sc.toArray) HBS.out) hS1 ?_;refine wA9 6 ?_;refine al 166 (.agg iN.toArray) (iN.toArray) zD ?_;intro b16 wb hbs hk hb;have HNb16:=O (show w9.heap.size≤b16 from by have:=(HSE.out _ hS1).size;omega);have hS2:=HSI.out _ ((HSE.out _ hS1).trans hk);clear hS1;replace HL:=lW HL hbs hk hb;replace HR:=O (cG.keep0 HR.out hk);replace HWP:=O (eO.keep0 HWP.out hk);replace HKi:=O (HKi.out.keep0 hk);replace HB12:=O (hk.blk HB12.out id);replace HB9:=O (hk.blk HB9.out id);replace HNN:=O (cF.keep0 HNN.out hk);clear hbs hk hb;refine wpList_nil ?_;refine⟨hS2,?_⟩;refine wA9 7 ?_;refine sta 166 (.tmp 16) (.tmp 46) b16 0 sc (HL.out.b 0) (by first|decide|(rw[hsc];exact Nat.le_refl _)|simp[hsc,gN]) (by rw[hsc];exact rN) HOSC.out ?_;intro wc hk hb;rw[aI _ _ (by first|rfl|simp[hsc,gN])] at hb;have hS3:=HSI.out _ ((HSE.out _ hS2).trans' hk (fun _ _ h=>h) (fun i hi e=>by have:=HNb16.out;omega));clear hS2;replace HL:=O (HL.out.set 0 hk hb);replace HR:=O (cG.keep0 HR1.out HL.out.keep);replace HWP:=O (eO.keep0 HWP1.out HL.out.keep);replace HKi:=O (HKi1.out.keep0 HL.out.keep);replace HB12:=O (HL.out.keep.blk HB121.out id);replace HB9:=O (HL.out.keep.blk HB91.out id);replace HNN:=O (cF.keep0 HNN1.out HL.out.keep);clear hk hb;refine wpList_nil ?_;refine⟨hS3,?_⟩;refine wpAnyH_done (by kernel_rfl) ?_ _;clear hS3 HSE HSI HLs HRs HWPs HKis HB12s HB9s HNNs;refine noP ?_;exact⟨rfl,b16,rfl,O ⟨HR.out,HWP.out,HKi.out,HB12.out,HB9.out,HNN.out,HL.out⟩⟩
     ·refine al 166 (.agg iN.toArray) (iN.toArray) zD ?_
      intro b16 wa hbs hk hb;have HNb16:=O (show w9.heap.size≤b16 from by have:=(HSE.out _ hS).size;omega);have hS1:=HSI.out _ ((HSE.out _ hS).trans hk);clear hS;replace HL:=lW HL hbs hk hb;replace HR:=O (cG.keep0 HR.out hk);replace HWP:=O (eO.keep0 HWP.out hk);replace HKi:=O (HKi.out.keep0 hk);replace HB12:=O (hk.blk HB12.out id);replace HB9:=O (hk.blk HB9.out id);replace HNN:=O (cF.keep0 HNN.out hk);clear hbs hk hb;refine wpList_nil ?_;refine⟨hS1,?_⟩;refine wA9 4 ?_;go_wp2_with fail;refine(Bg wa n l2 HN.out (by omega)).mono ?_;rintro e wb ⟨rfl,hk⟩;have hS2:=HSI.out _ ((HSE.out _ hS1).trans hk);replace HL:=kL HL hk;replace HR:=O (cG.keep0 HR.out hk);replace HWP:=O (eO.keep0 HWP.out hk);replace HKi:=O (HKi.out.keep0 hk);replace HB12:=O (hk.blk HB12.out id);replace HB9:=O (hk.blk HB9.out id);replace HNN:=O (cF.keep0 HNN.out hk);clear hS1 hk;rw[HDE.out];go_wp2_with fail;refine⟨hS2,?_⟩;refine tnd 5 (.agg sc.toArray) rfl (fA 166 #[(0,.tmp 41),(1,.tmp 42),(2,.tmp 45)] [(0,.agg qc.toArray),(1,.agg nn.toArray),(2,.int .i64 ((d:Nat):Int))] (.agg sc.toArray) HBS.out) hS2 ?_;refine wA9 7 ?_;refine sta 166 (.tmp 16) (.tmp 46) b16 0 sc (HL.out.b 0) (by first|decide|(rw[hsc];exact Nat.le_refl _)|simp[hsc,gN]) (by rw[hsc];exact rN) HOSC.out ?_;intro wc hk hb;rw[aI _ _ (by first|rfl|simp[hsc,gN])] at hb;have hS3:=HSI.out _ ((HSE.out _ hS2).trans' hk (fun _ _ h=>h) (fun i hi e=>by have:=HNb16.out;omega));clear hS2;replace HL:=O (HL.out.set 0 hk hb);replace HR:=O (cG.keep0 HR1.out HL.out.keep);replace HWP:=O (eO.keep0 HWP1.out HL.out.keep);replace HKi:=O (HKi1.out.keep0 HL.out.keep);replace HB12:=O (HL.out.keep.blk HB121.out id);replace HB9:=O (HL.out.keep.blk HB91.out id);replace HNN:=O (cF.keep0 HNN1.out HL.out.keep);clear hk hb;refine wpList_nil ?_;refine⟨hS3,?_⟩;refine wpAnyH_done (by kernel_rfl) ?_ _;clear hS3 HSE HSI HLs HRs HWPs HKis HB12s HB9s HNNs;refine noP ?_;exact⟨rfl,b16,rfl,O ⟨HR.out,HWP.out,HKi.out,HB12.out,HB9.out,HNN.out,HL.out⟩⟩
    case hR =>
     rintro b16 wd HF;replace HR:=O HF.out.1;replace HWP:=O HF.out.2.1;replace HKi:=O HF.out.2.2.1;replace HB12:=O HF.out.2.2.2.1;replace HB9:=O HF.out.2.2.2.2.1;replace HNN:=O HF.out.2.2.2.2.2.1;replace HL:=O HF.out.2.2.2.2.2.2;clear HF;have HOR:=O HR.out.row;have HSL:=O (fun i (hi:(Value.slice sa sn sc_).ownBlock=some i)=>show i<wr.heap.size from by obtain⟨cur,hc⟩:=aL HRr.out.row hi;exact lt_of_block hc);have HKB:=O HL.out.keep;have HB16:=O (HL.out.b 0);have HB14:=O (HL.out.b 1);have hGB:=And.intro (HL.out.lt 0).1 (HL.out.lt 1).1;have HGB:=O hGB;have HMWR:=O HK8.out.2;obtain⟨wE,hwe,hke,hbe,-⟩:=aT wd sc.toArray 166;obtain⟨bx,hbx⟩:∃x,wd.heap.size=x:=⟨_,rfl⟩
     rw[hbx] at hbe;have HRN:Hid (Rd wE 177 (.slice (some ⟨bx,0,none⟩) 1 1) 1 sc):=O (eE (n:=1) (size:=177) hbe (by rw[hsc]) (by unfold maxLen;omega));have HO_:=O (hke.owns HOR.out fun _ _=>id);have HSE_:=O hke.size;have HBW_:=O HL.out.keep.size;have HKE:=O hke;have HBX:=O hbx;have hsn2:sn≤2:=by omega
     clear hbe hke hGB HL
     go_wp2_with (first
      | ((with_reducible show WL (some 48) (.load 166 _));refine wpList_load_mid rfl 166 (.tmp 16) rfl b16 0 rfl sc _ (aD HB16.out) Tryz.underlying166 rfl (by rw[hsc];exact rN) ?_)
      | ((with_reducible show WL _ (.buildSlice _ 1 _));refine cC rfl 156 166 (.tmp 48) rfl Tryz.underlying156 I2 (by decide) sc hsc (by decide) rfl ?_;rw[hwe,hbx])
      | (at_builtin;refine aN rfl (.tmp 47) (.tmp 49) 156 rfl w.heap.size 166 (.agg iN.toArray) 177 376 Tryz.underlying156 I2 rfl (by decide) (.slice sa sn sc_) sn (lF n t sn pvs vss) rfl HO_.out (.slice (some ⟨bx,0,none⟩) 1 1) 1 sc rfl HRN.out HOSC.out (by unfold maxLen;omega) (by omega) (by have h1:=HSE_.out;have h2:=HBW_.out;have h3:=HWB.out;have h4:=HKR.out.size;omega) ?_))
     intro v2 w8 ho5 hk5 hn5 hb5;obtain⟨g5,c5,rfl⟩:=ownsRow_succ ho5;clear hwe hbx hn5 HRN HO_;have HAV:Hid (∀q,q<4->Apt (.slice sa sn sc_) (vs q)/\AA M (vs q)):=O (fun q hq=>⟨fun i hi e=>by have h1:=HSL.out i hi;have h2:=HNW.out q hq i e;have h3:=HWS.out;omega,fun i hi=>by have h2:=HNW.out q hq i hi;have h3:=HWS.out;have h4:=HMWR.out;omega⟩)
     have HR8:Hid (cG w w8 B M pv n t (sn+1) (.slice (some ⟨g5,0,none⟩) (sn+1) c5) (fun j=>if j=sn then pvc else pvs j) (fun j=>if j=sn then vs else vss j)):=O (HR.out.next HKE.out (by rw[HQ.out];exact HWP.out.val) HWP.out.apt HWP.out.far HNN.out HAV.out (by
      have e:eR n t sn pvc vs=sc:=by
       unfold eR;rw[HQ.out,HQC.out,←HSC.out,←HNF.out,←HDE.out,show 3-sn=l2+1 by omega,show 2-sn=l2 by omega]
      rw[e];exact ho5) hk5 hb5)
     have HO8:Hid (∀i,(Value.slice sa sn sc_).ownBlock=some i->i≠b9/\i≠b12/\i≠b14/\i≠b16):=O (fun i hi=>by
      have h1:=HSL.out i hi;obtain⟨cur,hc⟩:=aL HOR.out hi;exact⟨B8 hc HB9.out (by decide),B8 hc HB12.out (by decide),by have:=HGB.out.2;have:=HKR.out.size;omega,by have:=HGB.out.1;have:=HKR.out.size;omega⟩)
     have HB9e:=O (hk5.blk (HKE.out.blk HB9.out id) (fun e=>(HO8.out _ e).1 rfl));have HB12e:=O (hk5.blk (HKE.out.blk HB12.out id) (fun e=>(HO8.out _ e).2.1 rfl));have HB14e:=O (hk5.blk (HKE.out.blk HB14.out id) (fun e=>(HO8.out _ e).2.2.1 rfl));have HB16e:=O (hk5.blk (HKE.out.blk HB16.out id) (fun e=>(HO8.out _ e).2.2.2 rfl));have HOWB:=O (fun i (hi:(Value.slice sa sn sc_).ownBlock=some i)=>show w.heap.size≤i from aS HOR.out hi);have HK9:Hid (aA aB w w8):=O ((((HK8.out.1.trans HKR.out).trans HKB.out).trans HKE.out).trans' hk5 (fun _ _ h=>h) (fun i hi e=>by have:=HOWB.out i e;omega));have HMS:=O (show M≤w8.heap.size from by have h1:=HMWR.out;have h2:=HKR.out.size;have h3:=HKB.out.size;have h4:=HKE.out.size;have h5:=hk5.size;omega);have HVD:Hid (eO w8 B M pv (.slice (some ⟨g5,0,none⟩) (sn+1) c5) (vs d) ((aW n t sn).kid d).ptr):=O ⟨(((HNN.out d hd4).keep0 HKE.out).keepT hk5 (fun i hi e=>(HAV.out d hd4).1 i e hi)),rM (HAV.out d hd4).1 hb5 ((HNN.out d hd4).keep0 HKE.out),.inr (HAV.out d hd4).2⟩;have hkc:=aJ (v:=vs d) HVD.out.val.pt.sum;have HOKC0:=aU HVD.out.val.pt;have HKA0:=pT HNN.out.nv (by rw[HNF.out];exact aD HB14e.out) hd4;obtain⟨kc,hkce⟩:∃x,aE (vs d) ((aW n t sn).kid d).ptr=x:=⟨_,rfl⟩
     have HOKC:Hid (∀u∈kc,u.oneCell'=true):=O (by rw[←hkce];exact HOKC0);have HKC:=O hkce;rw[hkce] at hkc HKA0;have HKA:=O HKA0;have hdi0:(0:Int)≤(d:Int):=by omega
     have hdi1:(d:Int)<4:=by omega
     have hcd:w8.cell? ⟨b16,176,none⟩=some (.int .i64 (d:Int)):=aC (i:=176) HB16e.out (by
      rw[←HSC.out,List.getElem?_toArray,List.getElem?_append_right (by omega),List.getElem?_append_right (by omega),hqc,hnn];rfl)
     clear ho5 hk5 hb5 HKA0 HOKC0 hkce HR HWP HKi HB12 HB9 HNN HB14 HB16 HOR
     go_wp2_with ((with_reducible show WL _ _);first
      | refine wpList_load_mid rfl 27 (.tmp 54) rfl b14 (1+d*35) rfl kc _ HKA.out aF rfl (szP9 hkc) ?_
      | refine sta 27 (.tmp 12) (.tmp 55) b12 0 kc HB12e.out (by rw[List.size_toArray,hqc,hkc];omega) (szP9 hkc) HOKC.out ?_)
     intro w9 hk hb;rw[aI _ _ (by rw[List.size_toArray,hqc,hkc])] at hb;have HG12:=HGE.out.2;have HX12:Hid (∀i,i=b12->w.heap.size≤i/\i<M):=O (fun i e=>by rw[e];exact HG12);have HR9:=O (HR8.out.keepT hk (fun i hi e=>by obtain⟨cur,hc⟩:=aL HR8.out.row hi;exact B8 hc HB12e.out (by decide) e) (fun i hi e=>by have:=HP0.out i hi;have:=(HX12.out i e).1;omega) (fun i hi e=>by have:=(HX12.out i e).2;omega));have HP9:=O (HVD.out.keepT hk (fun i hi e=>by have:=HP0.out i hi;have:=(HX12.out i e).1;omega) (fun i hi e=>by have:=(HX12.out i e).2;omega));have HK99:=O (And.intro (HK9.out.trans' hk (fun _ _ h=>h) (fun i hi e=>by have:=(HX12.out i e).1;omega):aA aB w w9) (show M≤w9.heap.size from by have h1:=HMS.out;have h2:=hk.size;omega));have HB99:=O (hk.blk HB9e.out HNE.out);have HNX:Hid (aW n t (sn+1)=(aW n t sn).kid d):=O (by show (aW n t sn).kid (n / 4 ^ (2-sn) % 4)=_;rw[show 2-sn=l2 by omega,HDE.out]);have HB129:Hid (w9.heap[b12]?=some (.cells (aE (vs d) (aW n t (sn+1)).ptr).toArray 27 (0,0))):=O (by rw[hb,HNX.out,HKC.out]);rw[←HNX.out] at HP9;clear hk hb hcd HR8 HVD HB9e HB12e HB14e HB16e HKA;go_wp2
     go_roundw
     case rel=>exact⟨l2,some ⟨g5,0,none⟩,sn+1,c5,by omega,by first|rfl|go_num,rfl,HK99,O ⟨_,_,HR9.out⟩,O ⟨_,HP9.out,HB129.out⟩,HB99⟩
     case measure=>simp[intOf]
theorem Tr.Ok.root{S:Kor}{t:Tr}(h:Tr.Ok S 3 t):t.ptr.root=true:=by
 unfold Pt.root;cases t with
 | hole=>rw[show Tr.hole.ptr.hole=true from iI];rfl
 | leaf p b=>exact h.elim
 | node p k =>
   have h1:p.may=true:=h.1.may;have h2:p.level=3:=h.1.lev;show (p.hole || (p.may && decide (p.level=3)))=true;rw[h1,h2];simp
theorem zE{w:World}{c:Nat}{S:Kor}{B:Nat->Prop}(hK:KI w c S B)(pv:Value)(t:Tr)(ht:Tr.Ok S 0 t)(hp:PtV w pv t.ptr)(i:Nat):Calls Tryz.prog 91 #[.pointer (some ⟨c,0,none⟩),.agg (aE pv t.ptr).toArray] w (fK w (t.blk 0 i)):=by
 cases t with
 | hole=>exact Eo pv zPt hp iI
 | leaf p b=>exact Gm hK pv p hp ht.1
 | node p k=>exact ht.elim
def B9(sc:Nat->List Value)(k:Nat):Array Value:=#[.int .i64 ((2-k:Nat):Int),.agg (sc (2-k)).toArray]
theorem Gs(n:Nat){w:World}{Res:Nat->Prop}{B1 g cap:Nat}(sc:Nat->List Value)(hsc:∀x,x<3->(sc x).length=177)(hcap:3≤cap)(hB:w.heap[B1]?=some (.cells #[.slice (some ⟨g,0,none⟩) 3 cap] 156 (0,0)))(hx:∀x,x<3->w.rangeAt g (x*177) (sc x)){cur:Array Value}(hg:w.heap[g]?=some (.cells cur 166 (0,0)))(hR1:¬Res B1)(hRg:¬Res g) :
 ∀(l:Nat) (J:Nat->World->Prop) (Jx:World->Prop) (W:World),aA aB w W->J 0 W ->
  (∀k W1,k<3->J k W1->YieldAt Fence.wide (n-1) Tryz.prog l (B9 sc k) W1 fun e W'=>(e=.returned (.bool true)/\J (k+1) W'/\KpC Res W1 W')\/(e=.returned (.bool false)/\Jx W')) ->
  CallsIn Fence.wide n Tryz.prog 126 (#[.func (.yield l) #[] #[]]++#[.pointer (some ⟨B1,0,none⟩)]) W fun e W'=>(∃v,e=.returned v)/\(J 3 W'\/Jx W'):=by
 intro l J Jx W hkW hJ0 hY;have HS:=O (And.intro (hkW.blk hB id) (hkW.blk hg id))
 have HXR:Hid (∀W':World,W'.heap[g]?=some (.cells cur 166 (0,0))->∀x,x<3->W'.rangeAt g (x*177) (sc x)):=O fun W' h x hx3 j v hj =>
  (World.cell?_of_block (w:=w) (w':=W') (a:=⟨g,x*177+j,none⟩) (h.trans hg.symm)).trans (hx x hx3 j v hj)
 have HSC:=O hsc;have HYY:=O hY;have c0:=cell_of_one HS.out.1;clear hB hx hg hsc hY hkW;refine callsIn_of_wp Tryz.func126 rfl trivial ?_ rfl;simp only[Tryz.ntmps126,List.size_toArray,List.length_cons,List.length_nil,Nat.reduceAdd,Nat.reduceSub,Array.replicate_succ,Array.replicate_zero,List.push_toArray,List.append_toArray,List.nil_append,List.cons_append]
 gi_wp2
 clear c0
 gi_loopw [3] (fun i wr=>∃k:Nat,((k=3/\i=.int .i64 (-1))\/∃y:Nat,k+y=2/\i=.int .i64 (y:Int))/\J k wr/\Hid (wr.heap[B1]?=some (.cells #[.slice (some ⟨g,0,none⟩) 3 cap] 156 (0,0))/\wr.heap[g]?=some (.cells cur 166 (0,0)))) (fun i _=>(intOf i+1).toNat)
 case atStart=>exact⟨0,.inr ⟨2,rfl,rfl⟩,hJ0,HS⟩
 case round =>
  obtain⟨k,(⟨rfl,rfl⟩|⟨y,hky,rfl⟩),hJ,hH⟩:=hrel
  ·gi_wp2
   go_end0
   exact⟨⟨_,rfl⟩,.inl hJ⟩
  ·have e1:(y:Int)<3:=by omega
   have hb0:(0:Int)≤(y:Int):=by omega
   have hcy:(y:Int)<(cap:Int):=by omega
   have e2:2-k=y:=by omega
   have hYk:=HYY.out k wr (by omega) hJ;unfold B9 at hYk;rw[e2] at hYk;have hxy:=HXR.out wr hH.out.2 y (by omega);have hsy:=HSC.out y (by omega);have ck:=cell_of_one hH.out.1;obtain⟨sy,hsye⟩:∃l,sc y=l:=⟨_,rfl⟩
   rw[hsye] at hYk hxy hsy;obtain⟨fn,tmps,assign,body,hy,hR⟩:=hYk;clear e2 hsye
   gi_wp2_with (first
    | (refine kD rfl 166 (.tmp 15) rfl g (y*177) rfl sy _ hxy Tryz.underlying166 rfl (by rw[hsy];exact rN) ?_)
    | gi_in)
   refine⟨fun h=>by simp[Fence.wide] at h,hR.mono ?_⟩;rintro e W3 (⟨rfl,hJ3,hk3⟩|⟨rfl,hJx3⟩)
   ·have hH3:Hid (W3.heap[B1]?=some (.cells #[.slice (some ⟨g,0,none⟩) 3 cap] 156 (0,0))/\W3.heap[g]?=some (.cells cur 166 (0,0))):=O ⟨hk3 _ _ _ _ hR1 hH.out.1,hk3 _ _ _ _ hRg hH.out.2⟩
    have hJ4:=O hJ3;clear hJ3 hk3 hJ hR hy hH ck hxy
    gi_wp2
    rcases y with _|y
    ·go_roundw
     case rel=>exact⟨k+1,.inl ⟨by omega,rfl⟩,hJ4.out,hH3⟩
     case measure=>simp[intOf]
    ·go_roundw
     case rel=>exact⟨k+1,.inr ⟨y,by omega,by first|rfl|go_num|(congr 1;omega)⟩,hJ4.out,hH3⟩
     case measure=>simp[intOf];omega
   ·gi_wp2
    refine bodyPost_ret (results_none rfl _ _ _) rfl ?_;exact⟨⟨_,rfl⟩,.inr hJx3⟩
theorem KU(v:Value)(w:World)(hv:∃a n c,v=.slice a n c) :
 Calls Tryz.prog 94 #[v] w fun e w'=>∃B1,e=.returned (.func (.func 126) #[] #[.pointer (some ⟨B1,0,none⟩)])/\w'.heap[B1]?=some (.cells #[v] 156 (0,0))/\w.heap.size=B1/\aA aB w w':=by
 obtain⟨a,n,c,rfl⟩:=hv;go_in
 go_wp2_with ((with_reducible show WL (some 1) (.box 156 _));refine bx 156 (.tmp 0) #[.slice a n c] ?_)
 intro B1 w1 hbs hk hb;have HP:=O (And.intro hb (And.intro hbs hk));clear hbs hk hb;go_wp2;go_ret;exact⟨B1,rfl,HP.out.1,HP.out.2.1,HP.out.2.2⟩
def sV(S:Kor)(t:Tr)(n:Nat)(bs:List UInt8):Option Tr×Kor:=if t.blk 3 n=bs then (some t,S) else eG 3 S t n bs
theorem Dq(S:Kor)(t:Tr)(n:Nat)(bs:List UInt8){k y:Nat}(h:k+y=2):eG (k+1) S (aW n t y) n bs=match eG k S (aW n t (y+1)) n bs with
 | (none,T)=>(none,T)
 | (some u,T)=>T.lay (k+1) (eX (aW n t y).kid (n / 4 ^ k % 4) u):=by
 have e:aW n t (y+1)=(aW n t y).kid (n / 4 ^ k % 4):=by
  show (aW n t y).kid (n / 4 ^ (2-y) % 4)=_;rw[show 2-y=k by omega]
 rw[e];rfl
theorem Bi{S:Kor}{t:Tr}{n:Nat}{bs:List UInt8}{T:Kor}:∀{y k:Nat},k+y=3->eG k S (aW n t y) n bs=(none,T)->eG 3 S t n bs=(none,T)
 | 0,k,h,e=>by
   have hk:k=3:=by omega
   subst hk;exact e
 | y+1,k,h,e=>Bi (y:=y) (k:=k+1) (by omega) (by rw[Dq S t n bs (k:=k) (y:=y) (by omega),e])
theorem EZ{S:Kor}(hb:S.Bd){t:Tr}(ht:Tr.Ok S 3 t){n:Nat}{bs:List UInt8}(hbl:bs.length=256)(hne:¬t.blk 3 n=bs){k y:Nat}(h:k+y=3){u:Tr}{T:Kor}(e:eG k S (aW n t y) n bs=(some u,T)) :
 Beh S T/\Tr.Ok T k u/\u.ptr.eqB (aW n t y).ptr=false:=by
 have hO:Tr.Ok S k (aW n t y):=by
  have:=iR (n:=n) ht y (by omega)
  rwa [show 3-y=k by omega] at this
 obtain⟨h1,h2⟩:=oZ hbl n (by omega) hb hO e;obtain⟨h3,h4,h5⟩:=h2 u rfl;have hu:u.blk k n=bs:=by rw[h4,if_pos rfl]
 have hp:∀x j,x+j=3->t.blk 3 n=(aW n t x).blk j n:=by
  intro x
  induction x with
  | zero =>
     intro j hj;obtain rfl:j=3:=by omega
     rfl
  | succ x ih =>
    intro j hj;have hx:=iR (n:=n) ht x (by omega);rw[show 3-x=j+1 by omega] at hx;rw[ih (j+1) (by omega),hx.blk_succ];show _=((aW n t x).kid (n / 4 ^ (2-x) % 4)).blk j n;rw[show 2-x=j by omega]
 have hq:=hp y k (by omega);refine⟨h1,h3,?_⟩;cases hh:(aW n t y).isHole with
 | false=>exact Fr.ne hO hh h5
 | true =>
   have ey:=gL hh;rw[ey,Tr.blk_hole] at hq;rw[ey];refine Fr.ne_hole (S:=S) h3 ?_;cases hu2:u.isHole with
   | false=>rfl
   | true =>
     rw[gL hu2,Tr.blk_hole] at hu;rw[←hu] at hne;exact absurd hq hne
theorem KV(k:Nat->Tr)(d:Nat)(u:Tr):gQ (fun i=>(k i).ptr) d u.ptr=fun i=>(eX k d u i).ptr:=by
 funext i
 unfold gQ eX
 by_cases e:i=d
 ·rw[if_pos e,if_pos e]
 ·rw[if_neg e,if_neg e]
theorem MC{S T:Kor}{l:Nat}{k:Nat->Tr}{d:Nat}{u:Tr}(hk:∀i,i<4->Tr.Ok S l (k i))(e:Ext S T)(hu:Tr.Ok T l u):∀i,i<4->Tr.Ok T l (eX k d u i):=fun i hi=>by
 by_cases h:i=d
 ·rw[h,hE];exact hu
 ·rw[iA _ _ h];exact(hk i hi).ext e
abbrev Gt:TypeId:=49
abbrev Gu:TypeId:=27
def sW(W0:World)(b8 b9 b10 b12 c:Nat)(S:Kor)(B0:Nat->Prop)(n:Nat)(t:Tr)(bs:List UInt8)(k:Nat)(W:World):Prop:=
 ∃y v B',k+y=3/\W.heap[b12]?=some (.cells (aE v (gD (eG k S (aW n t y) n bs).1)).toArray Gu (0,0)) /\
  W.heap[b10]?=some (.cells #[.int .i64 (kZ (eG k S (aW n t y) n bs).1)] Gt (0,0)) /\
  bA W B' v (gD (eG k S (aW n t y) n bs).1)/\(∀i,v.ownBlock=some i->i≠b8/\i≠b9/\i≠b10/\i≠b12) /\
  KI W c (eG k S (aW n t y) n bs).2 B'/\(∀i,B' i->B0 i\/W0.heap.size≤i)/\(∀i,B' i->IsC W i\/i<W0.heap.size/\B0 i/\¬IsC W0 i) /\
  aA (fun i=>B0 i\/i=b10\/i=b12) W0 W
def Dr(W0:World)(b8 b9 b10 b12 c:Nat)(S:Kor)(B0:Nat->Prop)(n:Nat)(t:Tr)(bs:List UInt8)(W:World):Prop:=
 ∃T B',eG 3 S t n bs=(none,T)/\W.heap[b8]?=some (.cells aH.toArray Gu (0,0))/\W.heap[b9]?=some (.cells #[.int .i64 15] Gt (0,0)) /\
  KI W c T B'/\(∀i,B' i->B0 i\/W0.heap.size≤i)/\(∀i,B' i->IsC W i\/i<W0.heap.size/\B0 i/\¬IsC W0 i)/\aA (fun i=>B0 i\/i=b8\/i=b9\/i=b10\/i=b12) W0 W
theorem nI{W:World}{l:Nat}{o:Obj}(ho:W.heap[l]?=some o)(hc:o.isCells=false){i:Nat}(h:IsC W i):¬(some l=some i):=fun e=>by
 obtain⟨cs,t,h⟩:=h;injection e with e
 rw[←e,ho] at h;injection h with h
 rw[h] at hc;cases hc
theorem sW.put{W0 W:World}{b8 b9 b10 b12 c:Nat}{S:Kor}{B0:Nat->Prop}{n:Nat}{t:Tr}{bs:List UInt8}{k l:Nat}{o:Obj}(h:sW W0 b8 b9 b10 b12 c S B0 n t bs k W)(hl:W0.heap.size≤l)(ho:W.heap[l]?=some o)(hc:o.isCells=false)(o':Obj):sW W0 b8 b9 b10 b12 c S B0 n t bs k (W.putObj l o'):=by
 obtain⟨y,v,B',h1,h2,h3,h4,h5,h6,h7,h8,h9⟩:=h;have kd:=aA.of_grown (grownBy_putObj' W l o');have no:=fun {i:Nat}(h:IsC W i)=>nI ho hc h
 refine⟨y,v,B',h1,kd.blk h2 (no ⟨_,_,h2⟩),kd.blk h3 (no ⟨_,_,h3⟩),h4.keepT kd (fun i hi=>no (h4.off i hi).2),h5,h6.keepT kd (fun i e hb=>?_),h7,fun i hb=>?_,h9.trans' kd (fun _ _ h=>h) (fun i hi e=>by injection e with e;omega)⟩
 ·rcases h8 i hb with h|h
  ·exact no h e
  ·have:=h.1;injection e with e;omega
 ·rcases h8 i hb with h|h
  ·exact .inl (h.keep kd (no h))
  ·exact .inr h
theorem Dr.put{W0 W:World}{b8 b9 b10 b12 c:Nat}{S:Kor}{B0:Nat->Prop}{n:Nat}{t:Tr}{bs:List UInt8}{l:Nat}{o:Obj}(h:Dr W0 b8 b9 b10 b12 c S B0 n t bs W)(hl:W0.heap.size≤l)(ho:W.heap[l]?=some o)(hc:o.isCells=false)(o':Obj):Dr W0 b8 b9 b10 b12 c S B0 n t bs (W.putObj l o'):=by
 obtain⟨T,B',h1,h2,h3,h6,h7,h8,h9⟩:=h;have kd:=aA.of_grown (grownBy_putObj' W l o');have no:=fun {i:Nat}(h:IsC W i)=>nI ho hc h
 refine⟨T,B',h1,kd.blk h2 (no ⟨_,_,h2⟩),kd.blk h3 (no ⟨_,_,h3⟩),h6.keepT kd (fun i e hb=>?_),h7,fun i hb=>?_,h9.trans' kd (fun _ _ h=>h) (fun i hi e=>by injection e with e;omega)⟩
 ·rcases h8 i hb with h|h
  ·exact no h e
  ·have:=h.1;injection e with e;omega
 ·rcases h8 i hb with h|h
  ·exact .inl (h.keep kd (no h))
  ·exact .inr h
theorem sW.keep0{W0 W W':World}{b8 b9 b10 b12 c:Nat}{S:Kor}{B0:Nat->Prop}{n:Nat}{t:Tr}{bs:List UInt8}{k:Nat}(h:sW W0 b8 b9 b10 b12 c S B0 n t bs k W)(kp:aA aB W W'):sW W0 b8 b9 b10 b12 c S B0 n t bs k W':=by
 obtain⟨y,v,B',h1,h2,h3,h4,h5,h6,h7,h8,h9⟩:=h;exact⟨y,v,B',h1,kp.blk h2 id,kp.blk h3 id,h4.keep0 kp,h5,h6.keep0 kp,h7,fun i hb=>(h8 i hb).imp (fun h=>h.keep kp id) id,h9.trans kp.any⟩
open Go.RowKit Go.Maps Go.ChangeMaps
set_option maxRecDepth 100000
theorem Tr.Ok.blk_len{S:Kor}:∀{l:Nat}{t:Tr},Tr.Ok S l t->∀(i:Nat),(t.blk l i).length=256
 | l,.hole,h,i=>by rw[Tr.blk_hole];exact IZ
 | 0,.leaf p b,h,i=>h.1.len
 | 0,.node p k,h,i=>h.elim
 | l+1,.leaf p b,h,i=>h.elim
 | l+1,.node p k,h,i=>(h.2.1 _ (gB i l)).blk_len i
theorem Loc.wide{S B:Nat->Prop}{w0 w:World}{l:List (Nat×Array Value×TypeId)}(h:Loc aB aB w0 w l)(hB:∀k,B k->k<w0.heap.size):Loc S B w0 w l:=
 ⟨h.keep.any,h.ge,h.nd,h.at_,fun x hx e=>by have:=h.ge x hx;have:=hB _ e;omega⟩
structure Nz(a b N:Nat)(k:Nat)(sv:Value)(pvs:Nat->Value)(vss:Nat->Nat->Value):Prop where
 sv:∀i,sv.ownBlock=some i->(i<a\/b≤i)/\i<N
 pvs:∀j,j<k->∀i,(pvs j).ownBlock=some i->(i<a\/b≤i)/\i<N
 vss:∀j,j<k->∀q,q<4->∀i,(vss j q).ownBlock=some i->(i<a\/b≤i)/\i<N
theorem cG.zone{w w0 w':World}{B:Nat->Prop}{M:Nat}{pv0:Value}{n:Nat}{t:Tr}{k:Nat}{sv:Value}{pvs:Nat->Value}{vss:Nat->Nat->Value}(h:cG w0 w' B M pv0 n t k sv pvs vss)(hM:w0.heap.size≤M)(h0:∀i,pv0.ownBlock=some i->i<w.heap.size):Nz w.heap.size w0.heap.size w'.heap.size k sv pvs vss:=by
 refine⟨fun i hi=>⟨.inr (aS h.row hi),?_⟩,fun j hj i hi=>⟨?_,((h.pvs j hj).1.off i hi).2.lt⟩,fun j hj q hq i hi=>⟨.inr (Nat.le_trans hM (((h.vss j hj).2 q hq).2 i hi)),(((h.vss j hj).1 q hq).off i hi).2.lt⟩⟩
 ·obtain⟨cur,hc⟩:=aL h.row hi
  exact lt_of_block hc
 ·rcases (h.pvs j hj).2.2 with e|e
  ·exact .inl (h0 i (e▸hi))
  ·exact .inr (Nat.le_trans hM (e i hi))
theorem cG.keepZ{T:Nat->Prop}{a b N:Nat}{w w0 w':World}{B:Nat->Prop}{M:Nat}{pv0:Value}{n:Nat}{t:Tr}{k:Nat}{sv:Value}{pvs:Nat->Value}{vss:Nat->Nat->Value}(h:cG w0 w B M pv0 n t k sv pvs vss)(z:Nz a b N k sv pvs vss)(kp:aA T w w')(hT:∀i,T i->(a≤i/\i<b)\/N≤i):cG w0 w' B M pv0 n t k sv pvs vss:=by
 have no:∀i,(i<a\/b≤i)/\i<N->¬T i:=fun i h e=>by rcases hT i e with h2|h2<;>omega
 exact⟨kp.owns h.row fun i hi=>no i (z.sv i hi),fun j hj=>⟨(h.pvs j hj).1.keepT kp fun i hi=>no i (z.pvs j hj i hi),(h.pvs j hj).2⟩,fun j hj=>⟨fun q hq=>((h.vss j hj).1 q hq).keepT kp fun i hi=>no i (z.vss j hj q hq i hi),(h.vss j hj).2⟩⟩
theorem cG.toB{w w0 w':World}{B B':Nat->Prop}{M:Nat}{pv0:Value}{n:Nat}{t:Tr}{k:Nat}{sv:Value}{pvs:Nat->Value}{vss:Nat->Nat->Value}(h:cG w0 w B M pv0 n t k sv pvs vss)(kp:aA B w w')(hB:∀i,B' i->B i\/w.heap.size≤i)(hs:∀i,sv.ownBlock=some i->¬B i):cG w0 w' B' M pv0 n t k sv pvs vss:=
 ⟨kp.owns h.row hs,fun j hj=>⟨(h.pvs j hj).1.keep kp hB,(h.pvs j hj).2⟩,fun j hj=>⟨fun q hq=>((h.vss j hj).1 q hq).keep kp hB,(h.vss j hj).2⟩⟩
theorem bA.grow{W0 W:World}{B0 B' T:Nat->Prop}{v:Value}{p:Pt}(h:bA W0 B0 v p)(k:aA (fun i=>B0 i\/T i) W0 W)(hb:∀i,v.ownBlock=some i->¬T i)(hB:∀i,B' i->B0 i\/W0.heap.size≤i):bA W B' v p:=
 ⟨h.pt.keep k fun i hi e=>e.elim (h.off i hi).1 (hb i hi),fun i hi=>⟨fun e=>(hB i e).elim (h.off i hi).1 fun e=>by have:=(h.off i hi).2.lt;omega,(h.off i hi).2.keep k fun e=>e.elim (h.off i hi).1 (hb i hi)⟩⟩
theorem E0{n:Nat}{t:Tr}{w0 w:World}{B:Nat->Prop}{M:Nat}{pv0:Value}{k:Nat}{sv:Value}{pvs:Nat->Value}{vss:Nat->Nat->Value}(h:cG w0 w B M pv0 n t k sv pvs vss){x:Nat}(hx:x<k):(eR n t x (pvs x) (vss x)).length=177:=by
 unfold eR;rw[List.length_append,List.length_append,aJ (h.pvs x hx).1.pt.sum,dY _ _ (h.vss x hx).1.nv];rfl
theorem I5{n:Nat}{t:Tr}{w0 w:World}{B:Nat->Prop}{M:Nat}{pv0:Value}{k:Nat}{sv:Value}{pvs:Nat->Value}{vss:Nat->Nat->Value}(h:cG w0 w B M pv0 n t k sv pvs vss)(hk:0<k):∃g cap cur,sv=.slice (some ⟨g,0,none⟩) k cap/\k≤cap/\w.heap[g]?=some (.cells cur 166 (0,0))/\∀x,x<k->w.rangeAt g (x*177) (eR n t x (pvs x) (vss x)):=by
 rcases h.row.2 with⟨-,h0⟩|⟨g,cap,cur,hv,hge,hc,h1,h2,h3,h4⟩
 ·omega
 ·refine⟨g,cap,cur,hv,h1,hc,fun x hx j v hj=>?_⟩
  obtain⟨hl,a',c',he,-,-,-,h5⟩:=Rd.of_owns h.row;rw[hv] at he;cases he
  obtain⟨g',o',he,hcl⟩:=h5 (by rw[hl];omega);cases he
  have:=hcl (x*177+j) v (fT (c:=fun j=>eR n t j (pvs j) (vss j)) (n:=177) (fun y hy=>E0 h (List.mem_range.1 hy)) (iG hx) hj)
  rwa [Nat.zero_add] at this
theorem I6{w:World}{vs:Nat->Value}{ps:Nat->Pt}(hv:dE w vs ps)(lv:Int){k:Nat}(hk:k<4):∃P R,cE lv vs ps=P++(aE (vs k) (ps k)++R)/\P.length=1+k*35/\∀v p,cE lv (gQ vs k v) (gQ ps k p)=P++(aE v p++R):=by
 have l0:=aJ (v:=vs 0) (hv 0 (by omega)).sum;have l1:=aJ (v:=vs 1) (hv 1 (by omega)).sum;have l2:=aJ (v:=vs 2) (hv 2 (by omega)).sum;rcases k with _|_|_|_|k
 ·exact⟨[.int .i64 lv],aE (vs 1) (ps 1)++(aE (vs 2) (ps 2)++aE (vs 3) (ps 3)),rfl,rfl,fun _ _=>rfl⟩
 ·exact⟨.int .i64 lv::aE (vs 0) (ps 0),aE (vs 2) (ps 2)++aE (vs 3) (ps 3),rfl,by rw[List.length_cons,l0],fun _ _=>rfl⟩
 ·refine⟨.int .i64 lv::(aE (vs 0) (ps 0)++aE (vs 1) (ps 1)),aE (vs 3) (ps 3),?_,by rw[List.length_cons,List.length_append,l0,l1],fun v p=>?_⟩
  ·show Value.int .i64 lv::(aE (vs 0) (ps 0)++(aE (vs 1) (ps 1)++(aE (vs 2) (ps 2)++aE (vs 3) (ps 3))))=_
   rw[List.cons_append,List.append_assoc]
  ·show Value.int .i64 lv::(aE (vs 0) (ps 0)++(aE (vs 1) (ps 1)++(aE v p++aE (vs 3) (ps 3))))=_
   rw[List.cons_append,List.append_assoc]
 ·refine⟨.int .i64 lv::(aE (vs 0) (ps 0)++(aE (vs 1) (ps 1)++aE (vs 2) (ps 2))),[],?_,by rw[List.length_cons,List.length_append,List.length_append,l0,l1,l2],fun v p=>?_⟩
  ·show Value.int .i64 lv::(aE (vs 0) (ps 0)++(aE (vs 1) (ps 1)++(aE (vs 2) (ps 2)++aE (vs 3) (ps 3))))=_
   rw[List.cons_append,List.append_assoc,List.append_assoc,List.append_nil]
  ·show Value.int .i64 lv::(aE (vs 0) (ps 0)++(aE (vs 1) (ps 1)++(aE (vs 2) (ps 2)++aE v p)))=_
   rw[List.cons_append,List.append_assoc,List.append_assoc,List.append_nil]
 ·omega
theorem wK{w:World}{b o:Nat}{P A R:List Value}{t:TypeId}{fr:Nat×Nat}(hb:w.heap[b]?=some (.cells (P++(A++R)).toArray t fr))(h:P.length=o):w.rangeAt b o A:=fun j v hj=>by
 refine aC hb ?_;rw[List.getElem?_toArray,List.getElem?_append_right (by omega),show o+j-P.length=j by omega,List.getElem?_append_left (List.getElem?_eq_some_iff.1 hj).1];exact hj
theorem MD{w W:World}{A:List Value}{lv:Int}{vs:Nat->Value}{ps:Nat->Pt}{dv:Value}{b:Nat}{t:TypeId}(hA:A.length=35)(hv:dE w vs ps){q:Nat}(hq:q<4)(hb:W.heap[b]?=some (.cells (A++(cE lv vs ps++[dv])).toArray t (0,0))):W.rangeAt b (36+q*35) (aE (vs q) (ps q)):=by
 obtain⟨P,R,h1,h2,-⟩:=I6 hv lv hq;rw[h1,List.append_assoc,List.append_assoc,←List.append_assoc A] at hb;exact wK hb (by rw[List.length_append,hA,h2];omega)
theorem KW{W:World}{A N:List Value}{dv:Value}{b:Nat}{t:TypeId}(hA:A.length=35)(hb:W.heap[b]?=some (.cells (A++(N++[dv])).toArray t (0,0))):W.rangeAt b 35 N:=wK hb hA
theorem E1{W:World}{A N:List Value}{dv:Value}{b:Nat}{t:TypeId}(hA:A.length=35)(hN:N.length=141)(hb:W.heap[b]?=some (.cells (A++(N++[dv])).toArray t (0,0))):W.cell? ⟨b,176,none⟩=some dv:=by
 refine aC hb ?_;rw[List.getElem?_toArray,List.getElem?_append_right (by omega),List.getElem?_append_right (by omega),show 176-A.length-N.length=0 by omega];rfl
theorem ME{w:World}{A:List Value}{lv:Int}{vs:Nat->Value}{ps:Nat->Pt}{dv:Value}(hA:A.length=35)(hv:dE w vs ps){q:Nat}(hq:q<4){v:Value}{p:Pt}(hp:p.sum.length=32):spl (A++(cE lv vs ps++[dv])).toArray (36+q*35) (aE v p)=(A++(cE lv (gQ vs q v) (gQ ps q p)++[dv])).toArray:=by
 obtain⟨P,R,h1,h2,h3⟩:=I6 hv lv hq;have l1:=aJ (v:=vs q) (hv q hq).sum;have l2:=aJ (v:=v) hp;have h:=lE (A++P) (aE (vs q) (ps q)) (aE v p) (R++[dv]) (by rw[l1,l2]);rw[List.length_append,hA,h2,show 35+(1+q*35)=36+q*35 by omega] at h;rw[h1,h3,List.append_assoc,List.append_assoc,List.append_assoc,List.append_assoc,←List.append_assoc A,←List.append_assoc A,h]
theorem Loc.round{w W0 W1:World}{B B0 B':Nat->Prop}{b4 b5 b8 b9 b10 b12:Nat}{c4 c5 c8 c9 c10 c12 d10 d12:Array Value}{t4 t5 t8 t9 t10 t12:TypeId}
 (h:Loc B B0 w W0 [(b12,c12,t12),(b10,c10,t10),(b9,c9,t9),(b8,c8,t8),(b5,c5,t5),(b4,c4,t4)]) (h12:W1.heap[b12]?=some (.cells d12 t12 (0,0))) (h10:W1.heap[b10]?=some (.cells d10 t10 (0,0)))
 (hB':∀i,B' i->B0 i\/W0.heap.size≤i) (hB0:∀i,B0 i->B i\/w.heap.size≤i) (kp:aA (fun i=>B0 i\/i=b10\/i=b12) W0 W1) :
 Loc B B' w W1 [(b12,d12,t12),(b10,d10,t10),(b9,c9,t9),(b8,c8,t8),(b5,c5,t5),(b4,c4,t4)]:=by
 have g12:=h.ge _ (List.mem_of_getElem? (i:=0) rfl);have g10:=h.ge _ (List.mem_of_getElem? (i:=1) rfl);refine⟨h.keep.trans' kp (fun _ _ h=>h) fun i hi e=>?_,fun x hx=>?_,h.nd,fun x hx=>?_,fun x hx e=>?_⟩
 ·rcases e with e|e|e
  ·exact(hB0 i e).elim id fun e=>absurd hi (by omega)
  ·subst e;exact absurd hi (by have:=g10;dsimp only at this;omega)
  ·subst e;exact absurd hi (by have:=g12;dsimp only at this;omega)
 ·simp only[List.mem_cons,List.not_mem_nil,or_false] at hx
  rcases hx with rfl|rfl|rfl|rfl|rfl|rfl
  ·exact g12
  ·exact g10
  ·exact h.ge _ (List.mem_of_getElem? (i:=2) rfl)
  ·exact h.ge _ (List.mem_of_getElem? (i:=3) rfl)
  ·exact h.ge _ (List.mem_of_getElem? (i:=4) rfl)
  ·exact h.ge _ (List.mem_of_getElem? (i:=5) rfl)
 ·simp only[List.mem_cons,List.not_mem_nil,or_false] at hx
  rcases hx with rfl|rfl|rfl|rfl|rfl|rfl
  ·exact h12
  ·exact h10
  ·exact kp.blk (h.b 2) fun e'=>e'.elim ((h.aq 2)) fun e=>e.elim (fun e=>bF (i:=1) h.nd rfl 2 (by decide) rfl e) fun e=>bF (i:=0) h.nd rfl 2 (by decide) rfl e
  ·exact kp.blk (h.b 3) fun e'=>e'.elim ((h.aq 3)) fun e=>e.elim (fun e=>bF (i:=1) h.nd rfl 3 (by decide) rfl e) fun e=>bF (i:=0) h.nd rfl 3 (by decide) rfl e
  ·exact kp.blk (h.b 4) fun e'=>e'.elim ((h.aq 4)) fun e=>e.elim (fun e=>bF (i:=1) h.nd rfl 4 (by decide) rfl e) fun e=>bF (i:=0) h.nd rfl 4 (by decide) rfl e
  ·exact kp.blk (h.b 5) fun e'=>e'.elim ((h.aq 5)) fun e=>e.elim (fun e=>bF (i:=1) h.nd rfl 5 (by decide) rfl e) fun e=>bF (i:=0) h.nd rfl 5 (by decide) rfl e
 ·have ap:∀(i:Nat) (x:Nat×Array Value×TypeId),([(b12,c12,t12),(b10,c10,t10),(b9,c9,t9),(b8,c8,t8),(b5,c5,t5),(b4,c4,t4)]:List (Nat×Array Value×TypeId))[i]?=some x->¬B' x.1:=fun i x hx e =>
   (hB' _ e).elim (h.ap _ (List.mem_of_getElem? hx)) fun e2=>by have:=lt_of_block (h.b i (b:=x.1) (cs:=x.2.1) (t:=x.2.2) hx);omega
  simp only[List.mem_cons,List.not_mem_nil,or_false] at hx;rcases hx with rfl|rfl|rfl|rfl|rfl|rfl
  ·exact ap 0 _ rfl e
  ·exact ap 1 _ rfl e
  ·exact ap 2 _ rfl e
  ·exact ap 3 _ rfl e
  ·exact ap 4 _ rfl e
  ·exact ap 5 _ rfl e
theorem cF.keepT{T:Nat->Prop}{w w':World}{B:Nat->Prop}{vs:Nat->Value}{ps:Nat->Pt}(h:cF w B vs ps)(k:aA T w w')(hT:∀q,q<4->∀i,(vs q).ownBlock=some i->¬T i):cF w' B vs ps:=fun q hq=>(h q hq).keepT k (hT q hq)
theorem cF.upd{w:World}{B:Nat->Prop}{vs:Nat->Value}{k:Nat->Tr}(h:cF w B vs (fun i=>(k i).ptr)){d:Nat}{v:Value}{u:Tr}(hv:bA w B v u.ptr):cF w B (gQ vs d v) (fun i=>(eX k d u i).ptr):=fun q hq=>by
 show bA w B (gQ vs d v q) (eX k d u q).ptr
 by_cases e:q=d
 ·subst e;rw[rK,hE];exact hv
 ·rw[rL _ _ e,iA _ _ e];exact h q hq
theorem Cl.onT{T:Nat->Prop}{w w1 w2:World}{B B':Nat->Prop}(h:Cl w w1 B B')(k:aA T w1 w2)(hT:∀i,B' i->¬T i):Cl w w2 B B':=fun i hi=>(h i hi).imp (fun c=>c.keep k (hT i hi)) id
theorem cK.upon{w wd W0 W W':World}{c:Nat}{B B0 B':Nat->Prop}{U:Nat->Prop}{v v0:Value}{r:Option Tr}{T:Kor}{e:Ending}
 (he:e=.returned (.tuple #[.agg (aE v (gD r)).toArray,.int .i64 (kZ r)])) (hv:bA W' B' v (gD r)) (hK:KI W' c T B') (hn:v=v0\/eN w v)
 (hB0:∀i,B0 i->B i\/w.heap.size≤i) (hB':∀i,B' i->B0 i\/W0.heap.size≤i) (h0:aA aB w wd) (hc0:Cl wd W0 B B0) (hc:∀i,B' i->IsC W' i\/i<W0.heap.size/\B0 i/\¬IsC W0 i)
 (k0:aA B w W0) (k1:aA U W0 W') (hU:∀i,U i->B0 i\/w.heap.size≤i):cK w c B v0 r T e W':=
 ⟨v,B',he,hv,hK,fun i h=>(hB' i h).elim (hB0 i) fun e=>.inr (Nat.le_trans k0.size e),((Cl.refl w wd B h0).trans hc0).trans fun i h=>(hc i h).imp id fun h=>h.2,hn,k0.trans' k1 (fun _ _ h=>h) fun i hi h=>(hU i h).elim (fun h=>(hB0 i h).elim id fun h=>absurd hi (by omega)) fun h=>absurd hi (by omega)⟩
def sec(b:UInt8):List UInt8:=List.replicate 256 b
theorem iS(b:UInt8):(sec b).length=256:=List.length_replicate
theorem MF{a b:UInt8}(h:sec a=sec b):a=b:=by
 have:=congrArg (fun l=>l.getD 0 0) h
 simpa [sec] using this
def xO(t:Tr)(bl:Nat->UInt8):Prop:=∀i,i<64->t.blk 3 i=sec (bl i)
theorem xO.hole:xO .hole fun _=>0:=fun i _=>Tr.blk_hole 3 i
theorem E2{S:Kor}{t:Tr}(hb:S.Bd)(ht:Tr.Ok S 3 t){n:Nat}(hn:n<64){b:List UInt8}(hl:b.length=256){r:Option Tr}{T:Kor}(h:sV S t n b=(r,T)) :
 Beh S T/\∀u,r=some u->Tr.Ok T 3 u/\∀i,i<64->u.blk 3 i=if i=n then b else t.blk 3 i:=by
 unfold sV at h
 by_cases c:t.blk 3 n=b
 ·rw[if_pos c] at h
  injection h with h1 h2
  subst h1 h2;refine⟨Beh.refl hb,fun u hu=>?_⟩;cases hu
  refine⟨ht,fun i _=>?_⟩
  by_cases e:i=n
  ·rw[if_pos e,e];exact c
  ·rw[if_neg e]
 ·rw[if_neg c] at h
  obtain⟨h1,h2⟩:=oZ hl n (Nat.le_refl 3) hb ht h;refine⟨h1,fun u hu=>?_⟩;obtain⟨h3,h4,-⟩:=h2 u hu;refine⟨h3,fun i hi=>?_⟩;rw[h4,show (4:Nat) ^ 3=64 from rfl,Nat.mod_eq_of_lt hi,Nat.mod_eq_of_lt hn]
theorem zF{S:Kor}{t:Tr}{n:Nat}{b:List UInt8}{N:Nat}(h:S.room (N+4))(hz:b≠zB)(hn:t.blk 3 n≠b):∃u T,sV S t n b=(some u,T)/\T.room N/\u.isHole=false:=by
 unfold sV;rw[if_neg hn];exact A5 hz n 3 t h
theorem xO.set{t u:Tr}{bl:Nat->UInt8}(h:xO t bl){n:Nat}{b:UInt8}(hu:∀i,i<64->u.blk 3 i=if i=n then sec b else t.blk 3 i):xO u fun i=>if i=n then b else bl i:=fun i hi=>by
 rw[hu i hi];show _=sec (if i=n then b else bl i)
 by_cases e:i=n
 ·rw[if_pos e,if_pos e]
 ·rw[if_neg e,if_neg e,h i hi]
theorem I7(f:Nat->Value)(d n c s l:Int):Tryz.prog.built 192 [(0,.agg ((List.range 32).map f).toArray),(1,.int .i64 d),(2,.int .i64 n),(3,.int .i64 c),(4,.int .i64 s),(5,.int .i64 l)]=some ((List.range 32).map f++([.int .i64 d,.int .i64 n,.int .i64 c,.int .i64 s,.int .i64 l]:List Value)).toArray:=by kernel_rfl
theorem I8(L:Lab)(h:L.pool.length=32)(w:World):(Instr.build 192 #[(0,.agg (L.pool.map vb).toArray),(1,.int .i64 L.dev),(2,.int .i64 L.devs),(3,.int .i64 L.copies),(4,.int .i64 L.sectors),(5,.int .i64 L.life)]).run Tryz.prog w=.ok (.agg L.cells.toArray) w:=by
 refine run_build w 192 _ _ ?_;unfold Lab.cells Lab.nums;rw[Av (L.pool.map vb) (by rw[List.length_map,h])];exact I7 _ _ _ _ _ _
def gW(b:List UInt8)(Mm:Nat->Nat->List UInt8)(d:Nat):Nat->Nat->Nat->List UInt8
 | 0=>Mm
 | k+1=>fP (gW b Mm d k) d k (if k=0 then b else zB)
theorem I9(b:List UInt8)(Mm:Nat->Nat->List UInt8)(d:Nat):fP Mm d 0 b=gW b Mm d 1:=rfl
theorem Gv(b:List UInt8)(Mm:Nat->Nat->List UInt8)(d:Nat){k:Nat}(hk:0<k):fP (gW b Mm d k) d k zB=gW b Mm d (k+1):=by
 show _=fP (gW b Mm d k) d k (if k=0 then b else zB);rw[if_neg (by omega)]
theorem zG(b:List UInt8)(Mm:Nat->Nat->List UInt8)(d:Nat):∀k,0<k->gW b Mm d k d 0=b
 | 1,_=>by show fP Mm d 0 b d 0=b;unfold fP;rw[if_pos ⟨rfl,rfl⟩]
 | k+2,_=>by
   show fP (gW b Mm d (k+1)) d (k+1) _ d 0=b;unfold fP;rw[if_neg (by omega)];exact zG b Mm d (k+1) (by omega)
theorem wL(b:List UInt8)(Mm:Nat->Nat->List UInt8)(d:Nat){e s:Nat}(h:e≠d):∀k,gW b Mm d k e s=Mm e s
 | 0=>rfl
 | k+1=>by
   show fP (gW b Mm d k) d k _ e s=_;unfold fP;rw[if_neg (by omega)];exact wL b Mm d h k
def Dt(w:World)(a:Nat)(B:Nat->Prop)(D Z:Nat)(Mm:Nat->Nat->List UInt8)(nw d:Nat)(b:List UInt8)(k:Nat)(w':World):Prop:=
 ∃B',bM w' a B' D Z (gW b Mm d k) (nw+k)/\(∀i,B' i->B i\/w.heap.size≤i)/\aA B w w'
theorem Dt.next{w w1 w2:World}{a D Z nw d k:Nat}{B B':Nat->Prop}{Mm:Nat->Nat->List UInt8}{b b':List UInt8}(hB:∀i,B' i->B i\/w.heap.size≤i)(hk:aA B w w1){e:Ending}(h:jL w1 a B' D Z (gW b Mm d k) (nw+k) d k b' e w2)(hb:fP (gW b Mm d k) d k b'=gW b Mm d (k+1)):Dt w a B D Z Mm nw d b (k+1) w2:=by
 obtain⟨-,B2,h1,h2,h3⟩:=h;rw[hb] at h1;refine⟨B2,h1,fun i hi=>?_,hk.trans' h3 (fun _ _ h=>h) fun i hi e=>?_⟩
 ·rcases h2 i hi with h|h
  ·exact hB i h
  ·exact .inr (Nat.le_trans hk.size h)
 ·rcases hB i e with h|h
  ·exact h
  ·omega
def Du(w:World)(a:Nat)(B:Nat->Prop)(D Z:Nat)(Mm:Nat->Nat->List UInt8)(nw d:Nat)(b:List UInt8)(e:Ending)(w':World):Prop:=
 e=.returned (.int .i64 0)/\∃B' nw',bM w' a B' D Z (gW b Mm d 5) nw'/\nw'≤nw+5/\(∀k,B' k->B k\/w.heap.size≤k)/\aA B w w'
theorem KX{w:World}{c a m:Nat}{pid:List UInt8}{cp:Nat}{lv gv:Value}{t:Lst}(h:aZ w c a m pid cp lv gv t){D Z nw:Nat}{B:Nat->Prop}{Mm:Nat->Nat->List UInt8}(ha:bM w a B D Z Mm nw){d:Nat}(hd:d<D)(hcB:¬B c)(htB:∀i,B i->¬t.Own i)(hcp:1≤cp/\cp≤3/\cp≤D)(hn:nw<1000000):Calls Tryz.prog 83 #[.pointer (some ⟨c,0,none⟩),.int .i64 (d:Int),.int .i64 0] w (Du w a B D Z Mm nw d (dW (dD pid d D cp Z))):=by
 have hbd:=ha.bd;have HM:Hid ((dD pid d D cp Z).may=true):=O (sQ hd hbd hcp.1 hcp.2.1 hcp.2.2);have HPID:=O h.idl;have hpl:(pid.map vb).length=32:=by rw[List.length_map];exact h.idl
 have HBL:=O (fun w=>I8 (dD pid d D cp Z) h.idl w);have HPL:=O (uT (dD pid d D cp Z) h.idl HM.out);obtain⟨b,hbe⟩:∃b,dW (dD pid d D cp Z)=b:=⟨_,rfl⟩
 obtain⟨lc,hlc⟩:∃l,(dD pid d D cp Z).cells=l:=⟨_,rfl⟩
 have HLC:=O hlc;have HBE:=O hbe;rw[hbe] at HPL ⊢;rw[hlc] at HBL;have HC:=O h;have HA:=O ha;have HD:=O hd;have HCB:=O hcB;have HTB:=O htB;have HA0:=HA;have HC0:=HC;have HL:=lN w;have hZ5:8≤Z:=hbd.2.2.1;clear h ha hbe hlc hbd hcB htB;go_in;go_wp2_with fail;refine dwA aB (by kernel_rfl) ?_;intro w1 S HSE HSI hS hkd;replace HL:=kL HL hkd;replace HC:=O (HC.out.keep0 hkd);replace HA:=O (HA.out.keep0 hkd);clear hkd;have HLs:=HL;have HCs:=HC;have HAs:=HA;refine tna 0 (.pointer (some ⟨c,0,none⟩)) rfl hS ?_;refine tnb 1 (.pointer (some ⟨c,0,none⟩)) rfl hS ?_;refine tnb 2 (.pointer (some ⟨c,2,none⟩)) rfl hS ?_;refine tnd 3 (.agg (pid.map vb).toArray) rfl (yieldsIf_load_mid (by rfl) 25 (.tmp 14) rfl c 2 rfl (pid.map vb) _ (fun w' h=>(HSE.out w' h).rangeAt (aZ.id_ HCs.out)) Tryz.underlying25 rfl (by rw[hpl];exact uH)) hS ?_;refine tna 4 (.int .i64 (d:Int)) rfl hS ?_;refine tna 5 (.pointer (some ⟨c,0,none⟩)) rfl hS ?_;refine tnb 6 (.pointer (some ⟨c,0,none⟩)) rfl hS ?_;refine tnb 7 (.pointer (some ⟨c,0,none⟩)) rfl hS ?_;refine tnd 8 (.pointer (some ⟨a,0,none⟩)) rfl (.inl ⟨by rfl,fun w' hw'=>by have c:World.cell? w' ⟨c,0,none⟩=some (.pointer (some ⟨a,0,none⟩)):=(HSE.out w' hw').cell (aZ.c0 HCs.out) id;go_simp⟩) hS ?_;refine tna 10 (.pointer (some ⟨c,0,none⟩)) rfl hS ?_;refine tnb 11 (.pointer (some ⟨c,0,none⟩)) rfl hS ?_;refine tnb 12 (.pointer (some ⟨c,34,none⟩)) rfl hS ?_;refine tnd 13 (.int .i64 (cp:Int)) rfl (.inl ⟨by rfl,fun w' hw'=>by have c:World.cell? w' ⟨c,34,none⟩=some (.int .i64 (cp:Int)):=(HSE.out w' hw').cell (aZ.cp_ HCs.out) id;go_simp⟩) hS ?_;refine tna 14 (.pointer (some ⟨c,0,none⟩)) rfl hS ?_;refine tnb 15 (.pointer (some ⟨c,0,none⟩)) rfl hS ?_;refine tnb 16 (.pointer (some ⟨c,0,none⟩)) rfl hS ?_;refine tnd 17 (.pointer (some ⟨a,0,none⟩)) rfl (.inl ⟨by rfl,fun w' hw'=>by have c:World.cell? w' ⟨c,0,none⟩=some (.pointer (some ⟨a,0,none⟩)):=(HSE.out w' hw').cell (aZ.c0 HCs.out) id;go_simp⟩) hS ?_;refine tna 19 (.int .i64 0) rfl hS ?_;refine wA9 9 ?_;go_wp2_with fail;refine(kK HA.out).mono ?_;rintro e w2 ⟨rfl,hk⟩;have hS1:=HSI.out _ ((HSE.out _ hS).trans hk);replace HL:=kL HL hk;replace HC:=O (HC.out.keep0 hk);replace HA:=O (HA.out.keep0 hk);clear hS hk;go_wp2_with fail;refine⟨hS1,?_⟩;refine wA9 18 ?_;go_wp2_with fail;refine(uM HA.out).mono ?_;rintro e w3 ⟨rfl,hk⟩;have hS2:=HSI.out _ ((HSE.out _ hS1).trans hk);replace HL:=kL HL hk;replace HC:=O (HC.out.keep0 hk);replace HA:=O (HA.out.keep0 hk);clear hS1 hk;go_wp2_with fail;refine⟨hS2,?_⟩;refine tnd 20 (.agg lc.toArray) rfl (fA 192 #[(0,.tmp 15),(1,.tmp 16),(2,.tmp 21),(3,.tmp 25),(4,.tmp 30),(5,.tmp 31)] [(0,.agg (pid.map vb).toArray),(1,.int .i64 (d:Int)),(2,.int .i64 (D:Int)),(3,.int .i64 (cp:Int)),(4,.int .i64 (Z:Int)),(5,.int .i64 0)] (.agg lc.toArray) HBL.out) hS2 ?_;refine wA9 21 ?_;go_wp2_with fail;have HS33:=O HL.out.keep.size;refine((by rw[←HLC.out];exact Dg (dD pid d D cp Z) HPID.out w3:Calls _ _ _ w3 (Df w3 (dD pid d D cp Z)))).mono ?_;rintro e w4 ⟨v1,rfl,ho,hk⟩;rw[HM.out,if_pos rfl];rw[HBE.out,HPL.out] at ho;obtain⟨la,lc2,rfl,-,-⟩:=(Rd.of_owns ho).form;have HO:=O ho;clear ho;have hS3:=HSI.out _ ((HSE.out _ hS2).trans hk);replace HL:=kL HL hk;replace HC:=O (HC.out.keep0 hk);replace HA:=O (HA.out.keep0 hk);clear hS2 hk;go_wp2_with fail;refine⟨hS3,?_⟩;refine tna 22 (.tuple #[.slice la 256 lc2,.int .i64 0]) rfl hS3 ?_;refine tnb 23 (.slice la 256 lc2) rfl hS3 ?_;refine tnb 24 (.int .i64 0) rfl hS3 ?_;refine tna 25 (.slice la 256 lc2) rfl hS3 ?_;refine tna 26 (.int .i64 0) rfl hS3 ?_;refine wpAnyH_done (by kernel_rfl) ?_ _;clear hS3 HSE HSI HLs HCs HAs;go_wp2_with fail;have HSZ:=O HL.out.keep;have HOB:Hid (∀i,(Value.slice la 256 lc2).ownBlock=some i->¬B i):=O (fun i hi e=>by have h1:=aS HO.out hi;have h2:=HA0.out.lt e;have h3:=HS33.out;omega);clear HL
 go_loopw [7,39] (fun u i wr=>∃k:Nat,k≤5/\i=.int .i64 k/\(∃ua un uc,u=.slice ua un uc/\((k=0/\la=ua/\256=un/\lc2=uc)\/0<k))/\Hid (Dt w a B D Z Mm nw d b k wr)/\Hid (k=0->aA aB w4 wr)) (fun _ i _=>5-(intOf i).toNat)
 case atStart=>exact⟨0,by omega,rfl,⟨_,_,_,rfl,.inl ⟨rfl,rfl,rfl,rfl⟩⟩,O ⟨B,HA.out,fun i h=>.inl h,HSZ.out.any⟩,O fun _=>aA.refl _ _⟩
 case round =>
  obtain⟨k,hk,rfl,⟨ua,un,uc,rfl,hu⟩,HI,HK0⟩:=hrel;obtain⟨B2,ha2,hB2,hkw⟩:=HI.out;have HA2:=O ha2;have HB2:=O hB2;have HKW:=O hkw;have HC2:=O (HC0.out.keep hkw HCB.out HTB.out);have HAL:=O (fun i (e:B2 i)=>ha2.lt e);clear ha2 hB2 hkw HI
  by_cases hk8:k<5
  ·have hk0:(0:Int)≤(k:Int):=by omega
   have hk1:(k:Int)<5:=by omega
   have HL:=lN wr;rcases hu with⟨rfl,rfl,rfl,rfl⟩|hz0
   ·clear HA2 HB2 HKW HAL
    have HA2:=O (HA.out.keep0 (HK0.out rfl));have HB2:Hid (∀i,B i->B i\/w.heap.size≤i):=O (fun i h=>.inl h);have HKW:Hid (aA B w wr):=O (HSZ.out.trans (HK0.out rfl)).any;have HAL:=O (fun i (e:B i)=>HA2.out.lt e);have HO2:=O ((HK0.out rfl).owns HO.out fun _ _=>id);have c1:wr.cell? ⟨c,0,none⟩=some (.pointer (some ⟨a,0,none⟩)):=(aZ.c0 HC2.out)
    go_wp2_with fail;clear c1;refine(oT (s:=0) HA2.out HD.out (by omega) b HPL.out (.slice la 256 lc2) (Rd.of_owns HO2.out) HOB.out (by omega)).mono ?_;rintro e w5 hm;have HE:=O (Dt.next HB2.out (HKW.out.trans HL.out.keep.any) hm (I9 b Mm d));obtain⟨rfl,-⟩:=hm;clear HL HC2 HA2 HB2 HKW HAL;go_wp2
    go_roundw
    case rel=>exact⟨0+1,by omega,by go_num,⟨_,_,_,rfl,.inr (by omega)⟩,HE,O fun h=>by omega⟩
    case measure=>simp[intOf]
   ·have hz1:(0:Int)<(k:Int):=by omega
    go_wp2_with ((with_reducible show WL _ _);refine mkz (.const (.int .i64 256)) (.const (.int .i64 256)) ?_)
    intro b44 w5 hbs hk hb;replace HL:=lW HL hbs hk hb;replace HC2:=O (HC2.out.keep0 hk);replace HA2:=O (HA2.out.keep0 hk);clear hbs hk hb;have c1:w5.cell? ⟨c,0,none⟩=some (.pointer (some ⟨a,0,none⟩)):=(aZ.c0 HC2.out)
    go_wp2_with fail;clear c1;refine(oT (s:=k) HA2.out HD.out (by omega) zB rfl (.slice (some ⟨b44,0,none⟩) 256 256) (Rd.of_owns (mQ (base:=0) (HL.out.b 0) rfl (Nat.zero_le _))) (fun i hi e=>by have h8:=HAL.out _ e;have h9:=(HL.out.lt 0).1;have h7:i=b44:=(by cases hi;rfl);omega) (by omega)).mono ?_;rintro e w6 hm;have HE:=O (Dt.next HB2.out (HKW.out.trans HL.out.keep.any) hm (Gv b Mm d hz0));obtain⟨rfl,-⟩:=hm;clear HL HC2 HA2 HB2 HKW HAL;go_wp2
    go_roundw
    case rel=>exact⟨k+1,by omega,by go_num,⟨_,_,_,rfl,.inr (by omega)⟩,HE,O fun h=>by omega⟩
    case measure=>simp[intOf];omega
  ·obtain rfl:k=5:=by omega
   clear hu;have HL:=lN wr;have c1:wr.cell? ⟨c,0,none⟩=some (.pointer (some ⟨a,0,none⟩)):=(aZ.c0 HC2.out)
   go_wp2_with fail;clear c1;refine(yS HA2.out HD.out (by omega)).mono ?_;rintro e w5 ⟨rfl,B3,nw3,ha3,hn3,hB3,hk3⟩;have HP:Hid (Du w a B D Z Mm nw d b (.returned (.int .i64 0)) w5):=O ⟨rfl,B3,nw3,ha3,hn3,fun i hi=>(hB3 i hi).elim (HB2.out i) (fun h=>.inr (Nat.le_trans (HKW.out.trans HL.out.keep.any).size h)),(HKW.out.trans HL.out.keep.any).trans' hk3 (fun _ _ h=>h) (fun i hi e=>(HB2.out i e).elim id fun h=>by omega)⟩;clear ha3 hn3 hB3 hk3 HL HC2 HA2 HB2 HKW HAL;go_wp2;go_ret;exact HP.out
theorem NA{w:World}{D Z:Nat}(hb:2≤D/\D≤8/\8≤Z/\Z≤4096)(v:Value)(hr:Rd w 2 v 0 []):Calls Tryz.prog 121 #[.int .i64 (D:Int),.int .i64 (Z:Int),v] w (fun e w'=>∃g b2 lc,e=.returned (.tuple #[.pointer (some ⟨g,0,none⟩),.int .i64 0])/\dM w' w.heap.size g b2 lc D Z []/\aA aB w w'):=by
 refine(Gw w (D:Int) (Z:Int) v [] hr).mono fun e w' h=>?_
 have hB:sX (D:Int) (Z:Int) []=true:=by unfold sX;simp;omega
 unfold pB at h;rw[if_pos hB] at h;exact h
def Gx(w:World)(D Z:Nat)(e:Ending)(w':World):Prop:=∃g b2 lc,e=.returned (.tuple #[.pointer (some ⟨g,0,none⟩),.int .i64 0])/\dM w' w.heap.size g b2 lc D Z []/\aA aB w w'
def Bj(w:World)(c a m:Nat)(pid:List UInt8)(cp:Nat)(lv:Value)(D Z:Nat)(e:Ending)(w':World):Prop:=
 e=.returned (.tuple #[])/\∃g b2 lc,aZ w' c a m pid cp lv (.pointer (some ⟨g,0,none⟩)) mN/\dM w' 0 g b2 lc D Z []/\(∀k,Own g b2 lc D k->w.heap.size≤k)/\aA (fun k=>k=c) w w'
theorem NB(a m:Nat)(pid:List UInt8)(hp:pid.length=32)(cp:Nat)(lv gv gv':Value)(t:Lst):spl (eU a m pid cp lv gv t).toArray 36 [gv']=(eU a m pid cp lv gv' t).toArray:=by
 have h:=lE (.pointer (some ⟨a,0,none⟩)::.pointer (some ⟨m,0,none⟩)::(pid.map vb++[.int .i64 (cp:Int),lv])) [gv] [gv'] (t.ov::t.vv::gC t) rfl;have hl:(.pointer (some ⟨a,0,none⟩)::.pointer (some ⟨m,0,none⟩)::(pid.map vb++[.int .i64 (cp:Int),lv])).length=36:=by simp[hp]
 rw[hl] at h;unfold eU
 simpa [List.append_assoc] using h
theorem NC(a m:Nat)(pid:List UInt8)(hp:pid.length=32)(cp:Nat)(lv lv' gv:Value)(t:Lst):spl (eU a m pid cp lv gv t).toArray 35 [lv']=(eU a m pid cp lv' gv t).toArray:=by
 have h:=lE (.pointer (some ⟨a,0,none⟩)::.pointer (some ⟨m,0,none⟩)::(pid.map vb++[.int .i64 (cp:Int)])) [lv] [lv'] (gv::t.ov::t.vv::gC t) rfl;have hl:(.pointer (some ⟨a,0,none⟩)::.pointer (some ⟨m,0,none⟩)::(pid.map vb++[.int .i64 (cp:Int)])).length=35:=by simp[hp]
 rw[hl] at h;unfold eU
 simpa [List.append_assoc] using h
def kI(w:World)(c a m:Nat)(pid:List UInt8)(cp:Nat)(lv:Value):Prop:=∃gv,aZ w c a m pid cp lv gv mN
theorem kI.keep0{w w':World}{c a m:Nat}{pid:List UInt8}{cp:Nat}{lv:Value}(h:kI w c a m pid cp lv)(k:aA aB w w'):kI w' c a m pid cp lv:=h.imp fun _ h=>h.keep0 k
theorem kI.c0{w:World}{c a m:Nat}{pid:List UInt8}{cp:Nat}{lv:Value}(h:kI w c a m pid cp lv):w.cell? ⟨c,0,none⟩=some (.pointer (some ⟨a,0,none⟩)):=h.elim fun _ h=>h.c0
theorem kI.old_{w:World}{c a m:Nat}{pid:List UInt8}{cp:Nat}{lv:Value}(h:kI w c a m pid cp lv):w.cell? ⟨c,37,none⟩=some (.slice none 0 0):=h.elim fun _ h=>h.old_
theorem kI.live_{w:World}{c a m:Nat}{pid:List UInt8}{cp:Nat}{lv:Value}(h:kI w c a m pid cp lv):w.cell? ⟨c,38,none⟩=some (.slice none 0 0):=h.elim fun _ h=>h.live_
theorem dM.low{w:World}{lo lo' g b2 D Z:Nat}{lc:Nat->Option Nat}{L:List Ad}(h:dM w lo g b2 lc D Z L)(h2:lo'≤lo):dM w lo' g b2 lc D Z L:=⟨h.top,h.words,h.chans,h.inj,h.bd,Nat.le_trans h2 h.lo.1,Nat.le_trans h2 h.lo.2.1,fun d k hd hk=>Nat.le_trans h2 (h.lo.2.2 d k hd hk)⟩
theorem Jb{w:World}{c a m:Nat}{pid:List UInt8}{cp:Nat}{lv gv:Value}(h:aZ w c a m pid cp lv gv mN){D Z nw:Nat}{B:Nat->Prop}{Mm:Nat->Nat->List UInt8}(ha:bM w a B D Z Mm nw)(hcB:¬B c):Calls Tryz.prog 84 #[.pointer (some ⟨c,0,none⟩)] w (Bj w c a m pid cp lv D Z):=by
 have hbd:=ha.bd;have HBD:=O hbd;have HPID:=O h.idl;have HCLT:=O (lt_of_block h.top);have HC:=O h;have HA:=O ha;have HL:=lN w;have HCB:Hid (∀i,i=c->¬B i):=O fun i e=>e▸hcB
 clear h ha hbd hcB;go_in;go_wp2_with fail;obtain⟨S,hS0⟩:∃S:World->Prop,S=fun w'=>aA (fun k=>k=c) w.drew w'/\kI w' c a m pid cp lv:=⟨_,rfl⟩
 have HSE:=O (show ∀w',S w'->aA (fun k=>k=c) w.drew w'/\kI w' c a m pid cp lv from fun w' h=>by rw[hS0] at h;exact h);have HSI:=O (show ∀w',aA (fun k=>k=c) w.drew w'/\kI w' c a m pid cp lv->S w' from fun w' h=>by rw[hS0];exact h);have hS:S w.drew:=by rw[hS0];exact⟨aA.refl _ _,_,HC.out.keep0 (aA.refl aB w).drew⟩
 have hkd:=(aA.refl aB w).drew;clear hS0;refine wp_region_held (S:=S) (by kernel_rfl) ?_;change wpAnyH _ _ _ _ _ _ _ _ w.drew;generalize w.drew=w1 at HSE HSI hS hkd ⊢;replace HL:=kL HL hkd;replace HC:=O (HC.out.keep0 hkd);replace HA:=O (HA.out.keep0 hkd);clear hkd;have HLs:=HL;have HCs:=HC;have HAs:=HA;refine tna 0 (.pointer (some ⟨c,0,none⟩)) rfl hS ?_;refine tna 1 (.pointer (some ⟨c,0,none⟩)) rfl hS ?_;refine tnb 2 (.pointer (some ⟨c,0,none⟩)) rfl hS ?_;refine tnb 3 (.pointer (some ⟨c,0,none⟩)) rfl hS ?_;refine tnd 4 (.pointer (some ⟨a,0,none⟩)) rfl (.inl ⟨by rfl,fun w' hw'=>by have c:World.cell? w' ⟨c,0,none⟩=some (.pointer (some ⟨a,0,none⟩)):=kI.c0 (HSE.out w' hw').2;go_simp⟩) hS ?_;refine tna 6 (.pointer (some ⟨c,0,none⟩)) rfl hS ?_;refine tnb 7 (.pointer (some ⟨c,0,none⟩)) rfl hS ?_;refine tnb 8 (.pointer (some ⟨c,0,none⟩)) rfl hS ?_;refine tnd 9 (.pointer (some ⟨a,0,none⟩)) rfl (.inl ⟨by rfl,fun w' hw'=>by have c:World.cell? w' ⟨c,0,none⟩=some (.pointer (some ⟨a,0,none⟩)):=kI.c0 (HSE.out w' hw').2;go_simp⟩) hS ?_;refine tna 11 (.pointer (some ⟨c,0,none⟩)) rfl hS ?_;refine tnb 12 (.pointer (some ⟨c,0,none⟩)) rfl hS ?_;refine tnb 13 (.pointer (some ⟨c,37,none⟩)) rfl hS ?_;refine tnd 14 (.slice none 0 0) rfl (.inl ⟨by rfl,fun w' hw'=>by have c:World.cell? w' ⟨c,37,none⟩=some (.slice none 0 0):=kI.old_ (HSE.out w' hw').2;go_simp⟩) hS ?_;refine tna 15 (.pointer (some ⟨c,0,none⟩)) rfl hS ?_;refine tnb 16 (.pointer (some ⟨c,0,none⟩)) rfl hS ?_;refine tnb 17 (.pointer (some ⟨c,38,none⟩)) rfl hS ?_;refine tnd 18 (.slice none 0 0) rfl (.inl ⟨by rfl,fun w' hw'=>by have c:World.cell? w' ⟨c,38,none⟩=some (.slice none 0 0):=kI.live_ (HSE.out w' hw').2;go_simp⟩) hS ?_;refine wA9 5 ?_;go_wp2_with fail;refine(kK HA.out).mono ?_;rintro e w2 ⟨rfl,hk⟩;have hS1:=HSI.out _ ⟨(HSE.out _ hS).1.trans hk.any,(HSE.out _ hS).2.keep0 hk⟩;replace HL:=kL HL hk;replace HC:=O (HC.out.keep0 hk);replace HA:=O (HA.out.keep0 hk);clear hS hk;go_wp2_with fail;refine⟨hS1,?_⟩;refine wA9 10 ?_;go_wp2_with fail;refine(uM HA.out).mono ?_;rintro e w3 ⟨rfl,hk⟩;have hS2:=HSI.out _ ⟨(HSE.out _ hS1).1.trans hk.any,(HSE.out _ hS1).2.keep0 hk⟩;replace HL:=kL HL hk;replace HC:=O (HC.out.keep0 hk);replace HA:=O (HA.out.keep0 hk);clear hS1 hk;go_wp2_with fail;refine⟨hS2,?_⟩;refine wA9 19 ?_;go_wp2_with fail;refine(Ja w3 (.slice none 0 0) (.slice none 0 0) [] [] (fun x hx=>by cases hx) (fun x hx=>by cases hx) (Rd.nil _ _) (Rd.nil _ _) (by decide)).mono ?_;rintro e w4 ⟨v1,rfl,ho,hk⟩;have e0:(iY ([]++[]:List Ad))=[]:=List.eq_nil_iff_forall_not_mem.2 (fun x hx=>by rw[tQ] at hx;cases hx);rw[e0] at ho;obtain⟨ua,uc,hv1,-,-⟩:=(Rd.of_owns ho).form;have hv2:v1=.slice ua 0 uc:=hv1;clear hv1 e0;subst hv2;have HO:=O ho;clear ho;have hS3:=HSI.out _ ⟨(HSE.out _ hS2).1.trans hk.any,(HSE.out _ hS2).2.keep0 hk⟩;replace HL:=kL HL hk;replace HC:=O (HC.out.keep0 hk);replace HA:=O (HA.out.keep0 hk);clear hS2 hk;go_wp2_with fail;refine⟨hS3,?_⟩;refine wA9 20 ?_;go_wp2_with fail;have HWS:=O HL.out.keep.size;refine((NA HBD.out _ (Rd.of_owns HO.out):Calls _ _ _ w4 (Gx w4 D Z))).mono ?_;rintro e w5 ⟨g,b2,lc,rfl,hled,hk⟩;have HLE:=O hled;have HW0:=O (lt_of_block HC.out.top);clear hled;have hS4:=HSI.out _ ⟨(HSE.out _ hS3).1.trans hk.any,(HSE.out _ hS3).2.keep0 hk⟩;replace HL:=kL HL hk;replace HC:=O (HC.out.keep0 hk);replace HA:=O (HA.out.keep0 hk);replace HO:=O (hk.owns HO.out fun _ _=>id);clear hS3 hk;go_wp2_with fail;refine⟨hS4,?_⟩;refine tna 21 (.tuple #[.pointer (some ⟨g,0,none⟩),.int .i64 0]) rfl hS4 ?_;refine tnb 22 (.pointer (some ⟨g,0,none⟩)) rfl hS4 ?_;refine tnb 23 (.int .i64 0) rfl hS4 ?_;refine tnb 24 (.pointer (some ⟨c,0,none⟩)) rfl hS4 ?_;refine tnb 25 (.pointer (some ⟨c,36,none⟩)) rfl hS4 ?_;refine wA9 26 ?_;refine sta 43 (.tmp 27) (.tmp 24) c 36 [.pointer (some ⟨g,0,none⟩)] HC.out.top (by rw[List.size_toArray,sP HPID.out rfl];simp) (by kernel_rfl) (one9) ?_;intro w6 hk hb;rw[NB _ _ _ HPID.out] at hb;have hS5:S w6:=HSI.out _ ⟨(HSE.out _ hS4).1.trans hk,_,hb,HPID.out,lQ.zero _⟩;have HLX:Hid (∀i,i=c->¬Own g b2 lc D i):=O (by rintro i rfl e;have:=(HLE.out.own_lt e).1;have:=HCLT.out;have:=HWS.out;omega);have HP:Hid (Bj w c a m pid cp lv D Z (.returned (.tuple #[])) w6):=O ⟨rfl,g,b2,lc,⟨hb,HPID.out,lQ.zero _⟩,(HLE.out.keep hk HLX.out).low (Nat.zero_le _),fun k e=>by have:=(HLE.out.own_lt e).1;have:=HWS.out;omega,HL.out.keep.any.trans hk⟩;clear hS4 hk hb;refine wpList_nil ?_;refine⟨hS5,?_⟩;refine wpAnyH_done (by kernel_rfl) ?_ _;clear hS5 HSE HSI HLs HCs HAs;clear HC HA HL HO HLE;go_wp2_with fail
 go_end0
 exact HP.out
theorem mkD(w:World)(D:Nat)(h:D≤8):(Instr.makeSlice 42 (.int .i64 (D:Int)) (.int .i64 (D:Int))).run Tryz.prog w=.ok (.slice (some ⟨w.heap.size,0,none⟩) D D) (w.alloc (.cells (Array.replicate D (Value.int .i64 0)) 3)):=by
 rcases D with _|_|_|_|_|_|_|_|_|D
 ·kernel_rfl
 ·kernel_rfl
 ·kernel_rfl
 ·kernel_rfl
 ·kernel_rfl
 ·kernel_rfl
 ·kernel_rfl
 ·kernel_rfl
 ·kernel_rfl
 ·omega
theorem mkd{w:World}{ops:Array Oper}{rest:List Oper}{o:Oper}{a:Act}{Q:Exit->Act->World->Prop}(x y:Operand)(D:Nat)(h8:D≤8)(h:∀b w',w.heap.size=b->aA aB w w'->w'.heap[b]?=some (.cells (Array.replicate D (Value.int .i64 0)) 3 (0,0))->wpList Tryz.prog ops Q rest (a.put o.dst (.slice (some ⟨b,0,none⟩) D D)) w')(hx:a.eval x=.int .i64 (D:Int):=by rfl)(hy:a.eval y=.int .i64 (D:Int):=by rfl)(hg:o.guard=none:=by rfl)(ho:o.op=.makeSlice 42 x y:=by rfl):wpList Tryz.prog ops Q (o::rest) a w:=by
 refine wpList_plain hg fun K hK=>?_
 unfold Oper.wp execOp;simp only[ho,hx,hy,Sem.run_bind,mkD w D h8,Result.andThen_ok];exact hK _ _ (h _ _ rfl ((aA.refl _ _).alloc _) (heap_alloc_new _ _))
def Dv(P:Nat->List UInt8)(Mm:Nat->Nat->List UInt8):Nat->Nat->Nat->List UInt8
 | 0=>Mm
 | k+1=>gW (P k) (Dv P Mm k) k 5
theorem Bl(P:Nat->List UInt8)(Mm:Nat->Nat->List UInt8):∀(k d:Nat),d<k->Dv P Mm k d 0=P d
 | 0,d,h=>by omega
 | k+1,d,h=>by
   show gW (P k) (Dv P Mm k) k 5 d 0=P d
   by_cases e:d=k
   ·subst e;exact zG _ _ _ 5 (by decide)
   ·rw[wL _ _ _ e];exact Bl P Mm k d (by omega)
def DvI(w:World)(a:Nat)(B:Nat->Prop)(D Z:Nat)(P:Nat->List UInt8)(Mm:Nat->Nat->List UInt8)(nw k:Nat)(w':World):Prop:=
 ∃B' nw',bM w' a B' D Z (Dv P Mm k) nw'/\nw'≤nw+5*k/\(∀i,B' i->B i\/w.heap.size≤i)/\aA B w w'
def qZ(w:World)(B:Nat->Prop)(D Z cp:Nat)(e:Ending)(w':World):Prop:=
 ∃c M B',e=.returned (.tuple #[.pointer (some ⟨c,0,none⟩),.int .i64 0])/\KI w' c ⟨D,Z,cp,[],M,0⟩ B'/\(∀k,B' k->B k\/w.heap.size≤k)/\aA B w w'
theorem Et{w:World}{a:Nat}{D Z nw:Nat}{B:Nat->Prop}{Mm:Nat->Nat->List UInt8}(ha:bM w a B D Z Mm nw)(pid:List UInt8)(hpid:pid.length=32)(cp:Nat)(hcp:1≤cp/\cp≤3/\cp≤D)(hn:nw≤1000):Calls Tryz.prog 44 #[.pointer (some ⟨a,0,none⟩),.agg (pid.map vb).toArray,.int .i64 (cp:Int)] w (qZ w B D Z cp):=by
 have hbd:=ha.bd;have HBD:=O hbd;have hpl:(pid.map vb).length=32:=by rw[List.length_map];exact hpid
 have HPID:=O hpid;have HCP:=O hcp;have HLT:=O (fun i (e:B i)=>ha.lt e);have HA:=O ha;have HL:=lN w;have hD0:¬((D:Int)=0):=by omega
 have hc0:¬((cp:Int)<1):=by omega
 have hc3:¬((3:Int)<(cp:Int)):=by omega
 have hcD:¬((D:Int)<(cp:Int)):=by omega
 clear ha hpid;go_in
 go_wp2_with ((with_reducible show WL _ _);refine bxL HL 40 (.tmp 0) (#[.pointer (some ⟨a,0,none⟩)]) ?_)
 intro b3 w1 hk HL;replace HA:=O (HA.out.keep0 hk);clear hk
 go_wp2_with ((with_reducible show WL _ _);refine bxL HL 25 (.tmp 1) ((pid.map vb).toArray) ?_)
 intro b4 w2 hk HL;replace HA:=O (HA.out.keep0 hk);clear hk;have c1:w2.cell? ⟨b3,0,none⟩=some (.pointer (some ⟨a,0,none⟩)):=(aC (i:=0) (HL.out.b 1) rfl)
 go_wp2_with fail;clear c1;refine(kK HA.out).mono ?_;rintro e w3 ⟨rfl,hk⟩;replace HL:=kL HL hk;replace HA:=O (HA.out.keep0 hk);clear hk;have c1:w3.cell? ⟨b3,0,none⟩=some (.pointer (some ⟨a,0,none⟩)):=(aC (i:=0) (HL.out.b 1) rfl)
 go_wp2_with fail;clear c1;refine(kK HA.out).mono ?_;rintro e w4 ⟨rfl,hk⟩;replace HL:=kL HL hk;replace HA:=O (HA.out.keep0 hk);clear hk;have c1:w4.cell? ⟨b3,0,none⟩=some (.pointer (some ⟨a,0,none⟩)):=(aC (i:=0) (HL.out.b 1) rfl)
 go_wp2_with fail;clear c1;refine(A9 HA.out).mono ?_;rintro e w5 ⟨rfl,hk⟩;replace HL:=kL HL hk;replace HA:=O (HA.out.keep0 hk);clear hk;have c1:w5.cell? ⟨b3,0,none⟩=some (.pointer (some ⟨a,0,none⟩)):=(aC (i:=0) (HL.out.b 1) rfl)
 go_wp2_with ((with_reducible show WL _ _);refine wpList_load_mid rfl 25 (.tmp 4) rfl b4 0 rfl (pid.map vb) _ (aD (HL.out.b 0)) Tryz.underlying25 rfl (by rw[hpl];exact uH) ?_)
 clear c1;have HSZ:=O HL.out.keep.size;refine(KJ HA.out pid HPID.out cp).mono ?_;rintro e w6 ⟨c,m,rfl,hc,hm,hcg,hmg,hmc,hk⟩;have HC:=O hc;have HM:=O hm;have HCG:=O (And.intro (Nat.le_trans HSZ.out hcg) (Nat.le_trans HSZ.out hmg));have HMC:=O hmc;clear hc hm hcg hmg hmc;replace HL:=kL HL hk;replace HA:=O (HA.out.keep0 hk);clear hk;go_wp2_with fail;have HS38:=O HL.out.keep.size;refine(qK HC.out HA.out).mono ?_;rintro e w7 ⟨v1,rfl,ho,hk⟩;obtain⟨va,vc,rfl,-,-⟩:=(Rd.of_owns ho).form;have HO:=O ho;clear ho;replace HL:=kL HL hk;replace HA:=O (HA.out.keep0 hk);replace HC:=O (HC.out.keep0 hk);replace HM:=O (hk.blk HM.out id);clear hk;go_wp2_with fail;refine(Em w7 (.slice va D vc) ((List.range D).map fun(i:Nat)=>(i:Int)) (by rw[List.length_map,List.length_range,List.map_map];exact Rd.of_owns HO.out) (by rw[List.length_map,List.length_range];omega) 81 b3 (enters_of Tryz.func81 (by kernel_rfl) rfl) (fun x hx w' k=>by obtain⟨i,hi,rfl⟩:=List.mem_map.1 hx;have hi:=List.mem_range.1 hi;exact El (HA.out.keep0 k) (k.blk (HL.out.b 1) id) (i:Int) (by omega) (by omega))).mono ?_;rintro e w8 ⟨rfl,hk⟩;replace HL:=kL HL hk;replace HA:=O (HA.out.keep0 hk);replace HC:=O (HC.out.keep0 hk);replace HM:=O (hk.blk HM.out id);replace HO:=O (hk.owns HO.out fun _ _=>id);clear hk;have HNV:Hid (∀i,(Value.slice va D vc).ownBlock=some i->w.heap.size≤i):=O (fun i hi=>by have:=aS HO.out hi;have:=HS38.out;omega);go_wp2_with fail;have HNB:=O (fun i (h:w.heap.size≤i) (e:B i)=>show False from by have:=HLT.out i e;omega);have HB3:=O (HL.out.b 1);have H3G:=O (HL.out.lt 1).1;have HKW:=O HL.out.keep;have HCLT:=O (lt_of_block HC.out.top);have HMLT:=O (lt_of_block HM.out);obtain⟨W0,hW0⟩:∃W0,w8=W0:=⟨_,rfl⟩
 rw[hW0] at HC HM HA HO HB3 HKW HCLT HMLT ⊢;clear HL hW0;have hx0:=HLT
 go_loopw [46] (fun i wr=>∃k:Nat,k≤D/\i=.int .i64 k/\Hid (DvI W0 a B D Z (fun d=>dW (dD pid d D cp Z)) Mm nw k wr)) (fun i _=>D-(intOf i).toNat)
 case atStart=>exact⟨0,by omega,rfl,O ⟨B,nw,HA.out,by omega,fun i h=>.inl h,aA.refl _ _⟩⟩
 case round =>
  obtain⟨k,hk,rfl,HI⟩:=hrel;obtain⟨B2,nw2,ha2,hn2,hB2,hkw⟩:=HI.out;have HA2:=O ha2;have HN2:=O hn2;have HB2:=O hB2;have HK2:=O hkw;have HC2:=O (HC.out.keep hkw (HNB.out _ HCG.out.1) (fun _ _=>pS));have HM2:Hid (eL wr m a):=O (hkw.blk HM.out (HNB.out _ HCG.out.2));have HO2:=O (hkw.owns HO.out fun i hi=>HNB.out _ (HNV.out i hi));have HB32:=O (hkw.blk HB3.out (HNB.out _ H3G.out));have HCB2:Hid (¬B2 c/\¬B2 m):=O ⟨fun e=>(hB2 c e).elim (HNB.out _ HCG.out.1) fun h=>by have:=HCLT.out;omega,fun e=>(hB2 m e).elim (HNB.out _ HCG.out.2) fun h=>by have:=HMLT.out;omega⟩;clear ha2 hn2 hB2 hkw HI
  by_cases hk8:k<D
  ·have hk0:(0:Int)≤(k:Int):=by omega
   have hk1:(k:Int)<(D:Int):=by omega
   obtain⟨g,o,cap',hv,hat⟩:=oW (Rd.of_owns HO2.out) (kY hk8)
   have hvc:(k:Int)<(vc:Int):=by
    obtain⟨_,a',c',h1,h2,h3,-⟩:=Rd.of_owns HO2.out;cases h1;omega
   have HV9:=O hv;obtain rfl:va=some ⟨g,o,none⟩:=by cases hv;rfl
   have HX:=O hat;clear hv hat;have c1:wr.cell? ⟨g,o+k,none⟩=some (.int .i64 (k:Int)):=HX.out;go_wp2_with fail;clear c1;refine(KX HC2.out HA2.out hk8 HCB2.out.1 (fun _ _=>pS) HCP.out (by have:=HN2.out;omega)).mono ?_;rintro e w5 ⟨rfl,B3,nw3,ha3,hn3,hB3,hk3⟩;have HE:Hid (DvI W0 a B D Z (fun d=>dW (dD pid d D cp Z)) Mm nw (k+1) w5):=O ⟨B3,nw3,ha3,by have:=HN2.out;omega,fun i hi=>(hB3 i hi).elim (HB2.out i) (fun h=>.inr (Nat.le_trans HK2.out.size h)),HK2.out.trans' hk3 (fun _ _ h=>h) (fun i hi e=>(HB2.out i e).elim id fun h=>by omega)⟩;clear ha3 hn3 hB3 hk3 HC2 HM2 HO2 HB32 HA2 HB2 HK2 HX;go_wp2
   go_roundw
   case rel=>exact⟨k+1,by omega,by go_num,HE⟩
   case measure=>simp[intOf];omega
  ·obtain rfl:D=k:=by omega
   have HL:=lN wr;have HAL:=O (fun i (e:B2 i)=>HA2.out.lt e);have hD8:D≤8:=HBD.out.2.1;have c1:wr.cell? ⟨b3,0,none⟩=some (.pointer (some ⟨a,0,none⟩)):=(aC (i:=0) HB32.out rfl)
   go_wp2_with fail;clear c1;refine(kK HA2.out).mono ?_;rintro e we ⟨rfl,hk⟩;replace HL:=kL HL hk;replace HA2:=O (HA2.out.keep0 hk);replace HC2:=O (HC2.out.keep0 hk);replace HM2:=O (hk.blk HM2.out id);replace HB32:=O (hk.blk HB32.out id);clear hk
   go_wp2_with ((with_reducible show WL _ _);refine mkd (.tmp 59) (.tmp 59) D hD8 ?_)
   intro b60 wf hbs hk hb;replace HL:=lW HL hbs hk hb;replace HA2:=O (HA2.out.keep0 hk);replace HC2:=O (HC2.out.keep0 hk);replace HM2:=O (hk.blk HM2.out id);replace HB32:=O (hk.blk HB32.out id);clear hbs hk hb;have HKA:=O HL.out.keep;have HBL:=O (HL.out.b 0);have HLG:=O (HL.out.lt 0).1
   go_wp2_with ((with_reducible show WL _ _);refine sta 42 (.tmp 62) (.tmp 60) c 35 [.slice (some ⟨b60,0,none⟩) D D] HC2.out.top (by rw[List.size_toArray,sP HPID.out rfl];simp) (by kernel_rfl) (one9) ?_)
   intro w8 hk hb;rw[NC _ _ _ HPID.out] at hb;have HC4:Hid (aZ w8 c a m pid cp (.slice (some ⟨b60,0,none⟩) D D) (.pointer none) mN):=O ⟨hb,HPID.out,lQ.zero _⟩;have HCW:=O (And.intro HCLT.out HK2.out.size);have HL8:=O (hk.blk HBL.out (fun e=>by have:=HLG.out;have:=HCW.out;omega));replace HA2:=O (HA2.out.keep hk (by rintro i rfl;exact HCB2.out.1));replace HM2:Hid (eL w8 m a):=O (hk.blk HM2.out (fun e=>by have:=HMC.out;omega));have HK8:Hid (aA (fun i=>i=c) wr w8):=O (HKA.out.any.trans hk);clear hk hb HL HC2 HB32 HKA HBL;go_wp2_with fail;refine(Jb HC4.out HA2.out HCB2.out.1).mono ?_;rintro e w9 ⟨rfl,g,b2,lc,hc5,hled,hlo,hk⟩
   have HP:Hid (qZ w B D Z cp (.returned (.tuple #[.pointer (some ⟨c,0,none⟩),.int .i64 0])) w9):=by
    refine O ⟨c,Dv (fun d=>dW (dD pid d D cp Z)) Mm D,_,rfl,⟨⟨HBD.out.1,HBD.out.2.1,HBD.out.2.2.1,HBD.out.2.2.2,HCP.out.1,HCP.out.2.1,HCP.out.2.2,(by show (0:Int)≤0;decide),(by show (0:Int)<2147483648;decide)⟩,a,m,b60,g,b2,lc,pid,B2,nw2,mN,rfl,⟨⟨hc5,HA2.out.keep hk (by rintro i rfl;exact HCB2.out.1),hk.blk HM2.out (fun e=>by have:=HMC.out;omega),hk.blk HL8.out (fun e=>by have:=HLG.out;have:=HCW.out;omega),HCP.out,fun d hd=>Bl _ _ _ _ hd⟩,hled,fun k e=>?_,?_,?_⟩,rfl⟩,?_,?_⟩
    ·have h1:=hlo k e
     have h2:=HK8.out.size;have h3:=HCW.out;have h4:=HMC.out;have h5:=lt_of_block HL8.out;refine⟨fun e2=>?_,by omega,by omega,by omega,pS⟩;have:=HA2.out.lt e2;omega
    ·exact⟨HCB2.out.1,HCB2.out.2,fun e=>by have:=HAL.out _ e;have:=HLG.out;omega,fun i h=>(pS h).elim⟩
    ·have h1:=Hl [] D Z
     have h2:D*Z≤8*4096:=Nat.mul_le_mul hD8 HBD.out.2.2.2;have:=HN2.out;show nw2+rU (bX [] D Z)≤40000+8*0;omega
    ·rintro k (rfl|rfl|rfl|e|e|e)
     ·exact .inr HCG.out.1
     ·exact .inr HCG.out.2
     ·exact .inr (by have:=HLG.out;have:=HK2.out.size;have:=HKW.out.size;omega)
     ·exact(HB2.out k e).imp id fun h=>Nat.le_trans HKW.out.size h
     ·exact .inr (by have:=hlo k e;have:=HK8.out.size;have:=HK2.out.size;have:=HKW.out.size;omega)
     ·exact(pS e).elim
    ·have k1:aA B w wr:=HKW.out.any.trans HK2.out
     have k2:aA (fun i=>i=c) wr w9:=HK8.out.trans hk;exact k1.trans' k2 (fun _ _ h=>h) (fun i hi e=>by have:=HCG.out.1;omega)
   clear hc5 hled hlo hk HC4 HA2 HM2 HL8;go_wp2
   go_ret2
   exact HP.out
def ofC(x:UInt8)(k:Nat):List Value:=(List.range 256).map fun i=>if i<k then vb x else .int .u8 0
theorem rO(x:UInt8)(k:Nat):(ofC x k).length=256:=by unfold ofC;simp
theorem K6(x:UInt8):ofC x 0=dB:=by
 rw[show dB=List.replicate 256 (.int .u8 0) from rfl];refine List.eq_replicate_iff.2 ⟨rO x 0,fun v hv=>?_⟩;unfold ofC at hv;obtain⟨i,-,rfl⟩:=List.mem_map.1 hv;exact if_neg (by omega)
theorem K7(x:UInt8):ofC x 256=(sec x).map vb:=by
 unfold ofC sec;rw[List.map_replicate];refine List.eq_replicate_iff.2 ⟨by simp,fun v hv=>?_⟩;obtain⟨i,hi,rfl⟩:=List.mem_map.1 hv;exact if_pos (List.mem_range.1 hi)
theorem MH(x:UInt8)(k:Nat)(hk:k<256):spl (ofC x k).toArray k [vb x]=(ofC x (k+1)).toArray:=by
 show (ofC x k).toArray.setIfInBounds k (vb x)=_;rw[List.setIfInBounds_toArray]
 congr 1
 refine List.ext_getElem (by rw[List.length_set,rO,rO]) fun i h1 h2=>?_
 rw[List.getElem_set];have q:∀j h,(ofC x j)[i]'h=if i<j then vb x else .int .u8 0:=fun j h=>by simp[ofC]
 rw[q,q]
 by_cases e:k=i
 ·subst e;rw[if_pos rfl,if_pos (by omega)]
 ·rw[if_neg e]
  by_cases d:i<k
  ·rw[if_pos d,if_pos (by omega)]
  ·rw[if_neg d,if_neg (by omega)]
def MI(w:World)(x:UInt8)(e:Ending)(w':World):Prop:=∃v,e=.returned v/\w'.ownsRow w.heap.size 5 1 v 256 ((sec x).map vb)/\aA aB w w'
def Dw(w:World)(Z:Nat)(e:Ending)(w':World):Prop:=∃c M B,e=.returned (.pointer (some ⟨c,0,none⟩))/\KI w' c ⟨2,Z,2,[],M,0⟩ B/\(∀k,B k->w.heap.size≤k)/\aA aB w w'
theorem vM{w:World}{base:Nat}{B:Nat->Prop}{v:Value}{xs:List Value}(ho:w.ownsRow base 5 1 v 256 xs)(hB:∀i,B i->i<base):∀i,v.ownBlock=some i->¬B i/\i<w.heap.size:=fun i hi =>
 ⟨fun e=>by have:=aS ho hi;have:=hB i e;omega,by obtain⟨cur,hc⟩:=aL ho hi;exact lt_of_block hc⟩
theorem oC{a b:UInt8}(h:a≠b):sec a≠sec b:=fun e=>h (MF e)
theorem uZ{P:Program}{ops:Array Oper}{Q:Exit->Act->World->Prop}{id:Nat}{a:Act}{w:World}{α β γ δ:Type}(F:α->β->γ->δ->Act)(R:α->β->γ->δ->World->Prop)(h:(Code.region id ops true).wp P (fun x a w=>x=.normal/\∃p q r s,a=F p q r s/\R p q r s w) a w)(hR:∀p q r s w,R p q r s w->Q .normal (F p q r s) w):(Code.region id ops true).wp P Q a w:=
 wp_mono h fun e a w h=>by obtain⟨rfl,p,q,r,s,rfl,h2⟩:=h;exact hR p q r s w h2
theorem Loc.turn2{S B L L':Nat->Prop}{w0 w w':World}{l:List (Nat×Array Value×TypeId)}(h:Loc S L w0 w l)(k:aA B w w')(hL:∀k,B k->L k)(hS:∀k,k<w0.heap.size->B k->S k)(hB:∀k,k<w.heap.size->L' k->L k):Loc S L' w0 w' l:=
 ⟨h.keep.trans' k (fun _ _ h=>h) hS,h.ge,h.nd,fun x hx=>k.blk (h.at_ x hx) (fun e=>h.ap x hx (hL _ e)),fun x hx hb=>h.ap x hx (hB _ (lt_of_block (h.at_ x hx)) hb)⟩
theorem bsA{P:Program}{ops:Array Oper}{rest:List Oper}{o:Oper}{a:Act}{w:World}{Q:Exit->Act->World->Prop}(t e:TypeId)(x:Operand)(hu:P.underlying t=some (.slice e)){z:Value}{size bytes:Nat}(hinf:(P.info? e).map (fun i=>(i.zero,i.size,i.bytes))=some (some z,size,bytes))(hsz:0<size)
 (vs:List Value) (hvs:vs.length=size) (hsmall:size≤2 ^ 24) (h:∀b w',w.heap.size=b->aA aB w w'->w'.heap[b]?=some (.cells vs.toArray e (0,0))->wpList P ops Q rest (a.put o.dst (.slice (some ⟨b,0,none⟩) 1 1)) w')
 (hx:a.eval x=.agg vs.toArray:=by rfl) (hg:o.guard=none:=by rfl) (ho:o.op=.buildSlice t 1 #[(0,x)]:=by rfl):wpList P ops Q (o::rest) a w:=
 cC hg t e x ho hu hinf hsz vs hvs hsmall hx (h _ _ rfl ((aA.refl _ _).alloc _) (heap_alloc_new _ _))
def LB(w:World)(e:Ending)(w':World):Prop:=e=.returned (.bool true)/\aA aB w w'
theorem sY(w:World)(x:UInt8):Calls Tryz.prog 47 #[vb x] w (MI w x):=by
 obtain⟨xv,hxv⟩:∃v,vb x=v:=⟨_,rfl⟩
 have HXV:=O hxv;have hx1:xv.oneCell'=true:=by rw[←hxv];rfl
 have hxc:xv.cells=#[xv]:=by rw[←hxv];rfl
 rw[hxv];clear hxv;go_in
 go_wp2_with ((with_reducible show WL _ _);refine mkz (.const (.int .i64 256)) (.const (.int .i64 256)) ?_)
 intro b5 w1 hbs hk hb;rw[←K6 x] at hb;have HB5:=O hbs;have HI:Hid (w1.heap[b5]?=some (.cells (ofC x 0).toArray 5 (0,0))/\aA aB w w1):=O ⟨hb,hk⟩;clear hb hk hbs;go_wp2_with fail
 go_loopw [4] (fun i wr=>∃k:Nat,k≤256/\i=.int .i64 (k:Int)/\Hid (wr.heap[b5]?=some (.cells (ofC x k).toArray 5 (0,0))/\aA aB w wr)) (fun i _=>256-(intOf i).toNat)
 case atStart=>exact⟨0,by omega,rfl,HI⟩
 case round =>
  obtain⟨k,hk,rfl,HJ⟩:=hrel
  by_cases hk8:k<256
  ·go_wp2_with ((with_reducible show WL _ _);refine sta 5 (.tmp 15) (.tmp 14) b5 k [xv] HJ.out.1 (by rw[List.size_toArray,rO];exact hk8) (by kernel_rfl) (by intro v hv;rw[List.mem_singleton] at hv;rw[hv];exact hx1) ?_ (hy:=hxc))
   intro w2 hk2 hb2;rw[←HXV.out,MH x k hk8] at hb2;have HN:Hid (w2.heap[b5]?=some (.cells (ofC x (k+1)).toArray 5 (0,0))/\aA aB w w2):=O ⟨hb2,HJ.out.2.trans' hk2 (fun _ _ h=>h) (fun i hi e=>by have:=HB5.out;omega)⟩;clear hk2 hb2 HJ;go_wp2
   go_roundw
   case rel=>exact⟨k+1,by omega,by go_num,HN⟩
   case measure=>simp[intOf];omega
  ·obtain rfl:k=256:=by omega
   go_wp2;go_ret;exact⟨_,rfl,by rw[←K7 x];exact mQ HJ.out.1 (by rw[rO]) (by have:=HB5.out;omega),HJ.out.2⟩
theorem Gy(w:World)(Z:Nat)(hZ:8≤Z/\Z≤4096):Calls Tryz.prog 19 #[.int .i64 (Z:Int)] w (Dw w Z):=by
 have HL:=lN w;have HZ:=O hZ;have hbid:=L6;have hpl:(eA.map vb).length=32:=by rw[List.length_map];rfl
 obtain⟨ic,hice⟩:∃l,eA.map vb=l:=⟨_,rfl⟩
 have HIC:=O hice;rw[hice] at hbid;have HBI:=O hbid;clear hbid hice hpl;go_in
 go_wp2_with ((with_reducible show WL _ _);refine bld 25 #[] [] (.agg ic.toArray) HBI.out ?_)
 refine((Ko w 2 Z ⟨by omega,by omega,HZ.out.1,HZ.out.2⟩)).mono ?_;rintro e w1 ⟨a,BA,rfl,harr,hBA,hk⟩;have HA:=O harr;have HBA:=O hBA;clear harr hBA;replace HL:=kL HL hk;clear hk
 go_wp2_with ((with_reducible show WL _ _);refine bld 25 #[] [] (.agg ic.toArray) HBI.out ?_)
 refine((by rw[←HIC.out];exact Et HA.out eA rfl 2 ⟨by omega,by omega,by omega⟩ (by omega):Calls _ _ _ w1 (qZ w1 BA 2 Z 2))).mono ?_;rintro e w2 ⟨c,M,B,rfl,hki,hB,hk⟩;have HP:Hid (Dw w Z (.returned (.pointer (some ⟨c,0,none⟩))) w2):=O ⟨c,M,B,rfl,hki,fun k h=>(hB k h).elim (HBA.out k) fun e=>by have:=HL.out.keep.size;omega,HL.out.keep.trans' hk (fun _ _ h=>h) (fun i hi e=>by have:=HBA.out i e;omega)⟩;clear HL HA hki hB hk
 go_wp2_with ((with_reducible show WL _ _);refine bld 25 #[] [] (.agg ic.toArray) HBI.out ?_)
 go_ret;exact HP.out
def LR(B:Nat->Prop)(rs:List (Value×Pt))(k:Nat):Prop:=B k\/∃r∈rs,r.1.ownBlock=some k
structure Cs(B0:Nat->Prop)(w0:World)(c:Nat)(S:Kor)(B:Nat->Prop)(rs:List (Value×Pt))(w:World)(l:List (Nat×Array Value×TypeId)):Prop where
 loc:Loc B0 (LR B rs) w0 w l
 ki:KI w c S B
 pv:∀r∈rs,bA w B r.1 r.2
 bb:∀i,B i->B0 i\/w0.heap.size≤i
section
variable {B0:Nat->Prop}{w0 w w':World}{c:Nat}{S T:Kor}{B B':Nat->Prop}{rs rs':List (Value×Pt)}{l:List (Nat×Array Value×TypeId)}
theorem Cs.lt_(h:Cs B0 w0 c S B rs w l){k:Nat}(hk:LR B rs k):k<w.heap.size:=by
 rcases hk with hk|⟨r,hr,hk⟩
 ·exact h.ki.lt hk
 ·exact((h.pv r hr).off k hk).2.lt
theorem Cs.keep(h:Cs B0 w0 c S B rs w l):aA B0 w0 w:=h.loc.keep
theorem Cs.b(h:Cs B0 w0 c S B rs w l)(i:Nat){b:Nat}{cs:Array Value}{t:TypeId}(hi:l[i]?=some (b,cs,t):=by rfl):w.heap[b]?=some (.cells cs t (0,0)):=h.loc.b i hi
theorem Cs.ne(h:Cs B0 w0 c S B rs w l)(i j:Nat){b b':Nat}{cs cs':Array Value}{t t':TypeId}(hij:j≠i:=by decide)(hi:l[i]?=some (b,cs,t):=by rfl)(hj:l[j]?=some (b',cs',t'):=by rfl):b'≠b:=bF h.loc.nd hi j hij hj
theorem Cs.keeps(h:Cs B0 w0 c S B rs w l)(k:aA aB w w'):Cs B0 w0 c S B rs w' l:=⟨h.loc.keeps k,h.ki.keep0 k,fun r hr=>(h.pv r hr).keep0 k,h.bb⟩
theorem Cs.new(h:Cs B0 w0 c S B rs w l){b:Nat}{cs:Array Value}{t:TypeId}(_:True)(hb:w.heap.size=b)(k:aA aB w w')(hn:w'.heap[b]?=some (.cells cs t (0,0))):Cs B0 w0 c S B rs w' ((b,cs,t)::l):=
 ⟨h.loc.new (fun _ e=>h.lt_ e) hb k hn,h.ki.keep0 k,fun r hr=>(h.pv r hr).keep0 k,h.bb⟩
theorem Cs.set(h:Cs B0 w0 c S B rs w l)(i:Nat){b:Nat}{cs cs':Array Value}{t:TypeId}(k:aA (fun k=>k=b) w w')(hn:w'.heap[b]?=some (.cells cs' t (0,0)))(hi:l[i]?=some (b,cs,t):=by rfl):Cs B0 w0 c S B rs w' (l.set i (b,cs',t)):=by
 have ha:=h.loc.ap _ (List.mem_of_getElem? hi);exact⟨h.loc.set i k hn hi,h.ki.keepT k (fun i e hq=>by subst e;exact ha (.inl hq)),fun r hr=>(h.pv r hr).keepT k (fun i hq e=>by subst e;exact ha (.inr ⟨r,hr,hq⟩)),h.bb⟩
theorem Cs.laid(h:Cs B0 w0 c S B rs w l){v:Value}{p:Pt}(hp:bA w' B' v p)(hk:KI w' c T B')(hb:∀k,B' k->B k\/w.heap.size≤k)(hn:eN w v)(k:aA B w w'):Cs B0 w0 c T B' ((v,p)::rs) w' l:=by
 refine⟨h.loc.turn2 k (fun _ e=>.inl e) (fun i hi e=>(h.bb i e).elim id fun e=>by omega) ?_,hk,?_,fun i e=>(hb i e).elim (h.bb i) fun e=>.inr (Nat.le_trans h.keep.size e)⟩
 ·rintro i hi (e|⟨r,hr,e⟩)
  ·exact(hb i e).elim .inl fun e=>by omega
  ·rcases List.mem_cons.1 hr with rfl|hr
   ·have:=hn i e;omega
   ·exact .inr ⟨r,hr,e⟩
 ·intro r hr
  rcases List.mem_cons.1 hr with rfl|hr
  ·exact hp
  ·exact(h.pv r hr).keep k hb
theorem Cs.pv0{v:Value}{p:Pt}(h:Cs B0 w0 c S B rs w l)(i:Nat)(hi:rs[i]?=some (v,p):=by rfl):bA w B v p:=h.pv _ (List.mem_of_getElem? hi)
theorem Cs.fin{w2:World}(h:Cs B0 w0 c S B rs w l)(hB:∀k,B0 k->w2.heap.size≤k)(k:aA aB w2 w0):aA aB w2 w:=
 k.trans' h.keep (fun _ _ h=>h.elim) (fun i hi e=>by have:=hB i e;omega)
end
theorem nmP{w:World}{B:Nat->Prop}{v:Value}{p:Pt}(h:bA w B v p):∃c,Hid (aE v p=c)/\c.length=35/\Hid (∀u∈c,u.oneCell'=true):=⟨_,O rfl,aJ h.pt.sum,O (aU h.pt)⟩
theorem vO{w:World}{v:Value}(h:v=.slice none 0 0\/eN w v):eN w v:=h.elim (fun e=>by rw[e];exact eN.nil w) id
structure Ds(SP:Nat->Prop)(wd:World)(B0:Nat->Prop)(w0:World)(c:Nat)(S:Kor)(B:Nat->Prop)(rs:List (Value×Pt))(w:World)(l:List (Nat×Array Value×TypeId)):Prop extends Cs B0 w0 c S B rs w l where
 dr:aA SP wd w
section
variable {SP:Nat->Prop}{wd:World}{B0:Nat->Prop}{w0 w w':World}{c:Nat}{Sk T:Kor}{B B':Nat->Prop}{rs rs':List (Value×Pt)}{l:List (Nat×Array Value×TypeId)}{P:Program}{ops:Array Oper}{o:Oper}{a:Act}{Q:Exit->Act->World->Prop}{md:Region.Mode}{S:World->Prop}{fuel:Nat}{L:Array Bool}
theorem Ds.keeps(h:Ds SP wd B0 w0 c Sk B rs w l)(k:aA aB w w'):Ds SP wd B0 w0 c Sk B rs w' l:=⟨h.toCs.keeps k,h.dr.trans k.any⟩
theorem Ds.laid(h:Ds SP wd B0 w0 c Sk B rs w l)(hSP:∀i,i<wd.heap.size->B i->SP i){v:Value}{p:Pt}(hp:bA w' B' v p)(hk:KI w' c T B')(hb:∀k,B' k->B k\/w.heap.size≤k)(hn:eN w v)(k:aA B w w'):Ds SP wd B0 w0 c T B' ((v,p)::rs) w' l:=
 ⟨h.toCs.laid hp hk hb hn k,h.dr.trans' k (fun _ _ e=>e) hSP⟩
theorem Ds.own(h:Ds B wd B0 w0 c Sk B rs wd l)(k:aA B wd w')(i:Nat){b:Nat}{cs:Array Value}{t:TypeId}(hi:l[i]?=some (b,cs,t):=by rfl):w'.heap[b]?=some (.cells cs t (0,0)):=k.blk (h.b i hi) fun e=>h.loc.ap _ (List.mem_of_getElem? hi) (.inl e)
theorem alD(HL:Hid (Ds SP wd B0 w0 c Sk B rs w l))(HSI:Hid (∀w',aA SP wd w'->S w'))(T:TypeId)(z:Value)(cs:Array Value)(hz:Hid (∀w,(zeroValue T).run P w=.ok z w))
 (h:∀b w',wd.heap.size≤b->aA aB w w'->Hid (Ds SP wd B0 w0 c Sk B rs w' ((b,cs,T)::l))->wpAnyH P md ops Q S fuel L (a.put o.dst (.pointer (some ⟨b,0,none⟩))) w')
 (hcs:z.cells=cs:=by rfl) (hg:o.guard=none:=by rfl) (ho:o.op=.alloc T:=by rfl):wpList P ops (Exit.then (fun a' w'=>S w'/\wpAnyH P md ops Q S fuel L a' w') Q) [o] a w:=
 al T z cs hz (fun b w' hbs hk hb=>wpList_nil ⟨HSI.out _ (HL.out.dr.trans hk.any),h b w' (by have:=HL.out.dr.size;omega) hk (O ⟨HL.out.toCs.new trivial hbs hk hb,HL.out.dr.trans hk.any⟩)⟩) hcs hg ho
theorem stD(HL:Hid (Ds SP wd B0 w0 c Sk B rs w l))(HSI:Hid (∀w',aA SP wd w'->S w'))(i:Nat){b:Nat}{cs:Array Value}{t:TypeId}(hi:l[i]?=some (b,cs,t))(T:TypeId)(x y:Operand)(vs:List Value)(hb9:wd.heap.size≤b\/SP b)
 (hfit:vs.length=cs.size) (hs:(P.info? T).map (·.size)=some vs.length) (h1:∀v∈vs,v.oneCell'=true)
 (h:∀w',Hid (Ds SP wd B0 w0 c Sk B rs w' (l.set i (b,vs.toArray,t)))->wpAnyH P md ops Q S fuel L (a.put o.dst undef) w')
 (hx:a.eval x=.pointer (some ⟨b,0,none⟩):=by rfl) (hy:(a.eval y).cells=vs.toArray:=by rfl) (hg:o.guard=none:=by rfl) (ho:o.op=.store T x y:=by rfl):wpList P ops (Exit.then (fun a' w'=>S w'/\wpAnyH P md ops Q S fuel L a' w') Q) [o] a w:=
 sta T x y b 0 vs (HL.out.b i hi) (by omega) hs h1 (fun w' hk hb=>by
  rw[aI _ _ hfit] at hb;have hd:aA SP wd w':=HL.out.dr.trans' hk (fun _ _ h=>h) (fun j hj e=>hb9.elim (fun h=>by omega) (fun h=>by rw[e];exact h));exact wpList_nil ⟨HSI.out _ hd,h w' (O ⟨HL.out.toCs.set i hk hb hi,hd⟩)⟩) hx hy hg ho
end
theorem Gz{P:Program}{ops:Array Oper}{Q:Exit->Act->World->Prop}{id:Nat}{a:Act}{B0:Nat->Prop}{w0 w:World}{c:Nat}{Sk:Kor}{B:Nat->Prop}{rs:List (Value×Pt)}{l:List (Nat×Array Value×TypeId)}(SP:Nat->Prop)(HL:Hid (Cs B0 w0 c Sk B rs w l))(hm:P.follows .mixedOrders=true)
 (h:∀wd (S:World->Prop),Hid (∀w',S w'->aA SP wd w')->Hid (∀w',aA SP wd w'->S w')->aA aB w wd->Hid (Ds SP wd B0 w0 c Sk B rs wd l)->wpAnyH P .any ops (vK Q) S ops.size (Array.replicate ops.size false) a wd):(Code.region id ops true).wp P Q a w:=by
 have hd:=(aA.refl aB w).drew;exact lR (S:=fun w'=>aA SP w.drew w') hm (h w.drew (fun w'=>aA SP w.drew w') (O fun _ h=>h) (O fun _ h=>h) hd (O ⟨HL.out.keeps hd,aA.refl _ _⟩))
theorem ldD{P:Program}{ops:Array Oper}{S:World->Prop}{o:Oper}{a:Act}(ty:TypeId)(x:Operand)(b k:Nat)(cs:List Value)(d:TypeDesc)(hc:∀w,S w->w.rangeAt b k cs)(hu:P.underlying ty=some d)(hi:(P.info? ty).map (·.size)=some cs.length)(hw:Region.wanted o (yielded ops a.tmps)=true:=by rfl)
 (ho:o.op=.load ty x:=by rfl) (hx:a.eval x=.pointer (some ⟨b,k,none⟩):=by rfl) (hd:d.isRow=true:=by rfl):YieldsIf P ops S o (.agg cs.toArray) a:=
 yieldsIf_load_mid hw ty x ho b k hx cs d hc hu hd hi
theorem sD9 {SP:Nat->Prop}{wd:World}{B0:Nat->Prop}{w0 w:World}{c:Nat}{Sk:Kor}{B:Nat->Prop}{rs:List (Value×Pt)}{l:List (Nat×Array Value×TypeId)}{S:World->Prop}(h:Hid (∀w',aA SP wd w'->S w'))(k:Hid (Ds SP wd B0 w0 c Sk B rs w l)):S w:=h.out _ k.out.dr
end
end Go.Proofs.YtiinnfhjpaeffaaGreat
