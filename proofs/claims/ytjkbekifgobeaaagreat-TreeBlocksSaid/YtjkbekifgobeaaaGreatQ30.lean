/- A part of the proof. Conditions: those told. -/
import Derived.Test.YtjkbekifgobeaaaGreatQ1
import Derived.Test.YtjkbekifgobeaaaGreatQ29
namespace Go.Proofs.YtjkbekifgobeaaaGreat
set_option maxHeartbeats 64000000
set_option maxRecDepth 100000
set_option linter.unusedVariables false
section
open Go.RowKit Go.Maps Go.ChangeMaps
def aX(n:Nat)(t:Tr):Nat->Tr
 | 0=>t
 | k+1=>(aX n t k).kid (n / 4 ^ (2-k) % 4)
theorem iA{S:Kor}{n:Nat}{t:Tr}(h:Tr.Ok S 3 t):∀k,k≤3->Tr.Ok S (3-k) (aX n t k)
 | 0,_=>h
 | 1,_=>(iA h 0 (by omega)).kid (gO _ _)
 | 2,_=>(iA h 1 (by omega)).kid (gO _ _)
 | 3,_=>(iA h 2 (by omega)).kid (gO _ _)
 | k+4,hk=>by omega
theorem AU(n:Nat)(t:Tr){j:Nat}(h:aX n t j=.hole):∀i,aX n t (j+i)=.hole
 | 0=>h
 | i+1=>by
   show (aX n t (j+i)).kid _=.hole;rw[AU n t h i];rfl
theorem wT{S:Kor}{n:Nat}{t:Tr}(h:Tr.Ok S 3 t):t.blk 3 n=(aX n t 3).blk 0 n:=by
 rw[h.blk_succ,(h.kid (gO n 2)).blk_succ,((h.kid (gO n 2)).kid (gO n 1)).blk_succ];rfl
def eY(n:Nat)(t:Tr)(k:Nat)(pv:Value)(vs:Nat->Value):List Value:=
 aH pv (aX n t k).ptr++(cF ((3-k:Nat):Int) vs (fun i=>((aX n t k).kid i).ptr)++[.int .i64 ((n / 4 ^ (2-k) % 4:Nat):Int)])
def kT(n:Nat)(t:Tr)(k:Nat)(pvs:Nat->Value)(vss:Nat->Nat->Value):List Value:=(List.range k).flatMap fun j=>eY n t j (pvs j) (vss j)
def Apt(sv v:Value):Prop:=∀i,sv.ownBlock=some i->v.ownBlock≠some i
def zT(M:Nat)(v:Value):Prop:=∀i,v.ownBlock=some i->M≤i
structure cG(w0 w:World)(B:Nat->Prop)(M:Nat)(pv0:Value)(n:Nat)(t:Tr)(k:Nat)(sv:Value)(pvs:Nat->Value)(vss:Nat->Nat->Value):Prop where
 row:w.ownsRow w0.heap.size 125 177 sv k (kT n t k pvs vss)
 pvs:∀j,j<k->aJ w B (pvs j) (aX n t j).ptr/\Apt sv (pvs j)/\(pvs j=pv0\/zT M (pvs j))
 vss:∀j,j<k->bZ w B (vss j) (fun i=>((aX n t j).kid i).ptr)/\∀q,q<4->Apt sv (vss j q)/\zT M (vss j q)
theorem qP{sv v2 v:Value}{w:World}{B:Nat->Prop}{p:Pt}(h:Apt sv v)(h2:v2.ownBlock=sv.ownBlock\/v2.ownBlock=some w.heap.size)(hp:aJ w B v p):Apt v2 v:=fun i hi e=>by
 rcases h2 with h2|h2
 ·rw[h2] at hi;exact h i hi e
 ·rw[h2] at hi
  have:=(hp.off i e).2.lt;injection hi with hi
  omega
section
variable {w0 w w' wE:World}{B:Nat->Prop}{M:Nat}{pv0:Value}{n:Nat}{t:Tr}{k:Nat}{sv v2:Value}{pvs:Nat->Value}{vss:Nat->Nat->Value}
theorem cG.keepT{T:Nat->Prop}(h:cG w0 w B M pv0 n t k sv pvs vss)(kp:aA T w w')(h1:∀i,sv.ownBlock=some i->¬T i)(h2:∀i,pv0.ownBlock=some i->¬T i)(h3:∀i,M≤i->¬T i):cG w0 w' B M pv0 n t k sv pvs vss:=
 ⟨kp.owns h.row h1,fun j hj=>⟨(h.pvs j hj).1.keepT kp fun i hi=>((h.pvs j hj).2.2).elim (fun e=>h2 i (e▸hi)) fun e=>h3 i (e i hi),(h.pvs j hj).2⟩,fun j hj=>⟨fun q hq=>((h.vss j hj).1 q hq).keepT kp fun i hi=>h3 i (((h.vss j hj).2 q hq).2 i hi),(h.vss j hj).2⟩⟩
theorem cG.keep0(h:cG w0 w B M pv0 n t k sv pvs vss)(kp:aA aB w w'):cG w0 w' B M pv0 n t k sv pvs vss:=h.keepT kp (fun _ _=>id) (fun _ _=>id) fun _ _=>id
theorem cG.next(h:cG w0 w B M pv0 n t k sv pvs vss)(kE:aA aB w wE){pv:Value}{vs:Nat->Value}(hp:aJ w B pv (aX n t k).ptr)(ap:Apt sv pv)(fp:pv=pv0\/zT M pv)(hv:bZ w B vs (fun i=>((aX n t k).kid i).ptr))(av:∀q,q<4->Apt sv (vs q)/\zT M (vs q))
 (ho:w'.ownsRow w0.heap.size 125 177 v2 (k+1) (kT n t k pvs vss++eY n t k pv vs)) (kr:aA (fun i=>sv.ownBlock=some i) wE w') (h2:v2.ownBlock=sv.ownBlock\/v2.ownBlock=some wE.heap.size):cG w0 w' B M pv0 n t (k+1) v2 (fun j=>if j=k then pv else pvs j) (fun j=>if j=k then vs else vss j):=by
 have e:kT n t (k+1) (fun j=>if j=k then pv else pvs j) (fun j=>if j=k then vs else vss j)=kT n t k pvs vss++eY n t k pv vs:=by
  unfold kT;rw[List.range_succ,List.flatMap_append,List.flatMap_cons,List.flatMap_nil,List.append_nil]
  congr 1
  ·rw[List.flatMap_def,List.flatMap_def]
   congr 1
   refine List.map_congr_left fun j hj=>?_
   have:=List.mem_range.1 hj;show eY n t j (if j=k then pv else pvs j) (if j=k then vs else vss j)=_;rw[if_neg (by omega),if_neg (by omega)]
  ·show eY n t k (if k=k then pv else pvs k) (if k=k then vs else vss k)=_
   rw[if_pos rfl,if_pos rfl]
 refine⟨by rw[e];exact ho,fun j hj=>?_,fun j hj=>?_⟩
 ·by_cases ej:j=k
  ·subst ej
   rw[if_pos rfl];exact⟨(hp.keep0 kE).keepT kr fun i hi e=>ap i e hi,qP ap h2 (hp.keep0 kE),fp⟩
  ·rw[if_neg ej]
   obtain⟨h3,h4,h5⟩:=h.pvs j (by omega);exact⟨(h3.keep0 kE).keepT kr fun i hi e=>h4 i e hi,qP h4 h2 (h3.keep0 kE),h5⟩
 ·by_cases ej:j=k
  ·subst ej
   rw[if_pos rfl];exact⟨fun q hq=>((hv q hq).keep0 kE).keepT kr fun i hi e=>(av q hq).1 i e hi,fun q hq=>⟨qP (av q hq).1 h2 ((hv q hq).keep0 kE),(av q hq).2⟩⟩
  ·rw[if_neg ej]
   obtain⟨h3,h4⟩:=h.vss j (by omega);exact⟨fun q hq=>((h3 q hq).keep0 kE).keepT kr fun i hi e=>(h4 q hq).1 i e hi,fun q hq=>⟨qP (h4 q hq).1 h2 ((h3 q hq).keep0 kE),(h4 q hq).2⟩⟩
theorem cG.nil(w0 w:World)(B:Nat->Prop)(M:Nat)(pv0:Value)(n:Nat)(t:Tr):cG w0 w B M pv0 n t 0 (.slice none 0 0) (fun _=>.slice none 0 0) (fun _ _=>.slice none 0 0):=⟨World.ownsRow_nil _ _ _ _,fun j hj=>by omega,fun j hj=>by omega⟩
end
structure eU(w:World)(B:Nat->Prop)(M:Nat)(pv0 sv pv:Value)(p:Pt):Prop where
 val:aJ w B pv p
 apt:Apt sv pv
 far:pv=pv0\/zT M pv
theorem eU.keepT{T:Nat->Prop}{w w':World}{B:Nat->Prop}{M:Nat}{pv0 sv pv:Value}{p:Pt}(h:eU w B M pv0 sv pv p)(k:aA T w w')(h2:∀i,pv0.ownBlock=some i->¬T i)(h3:∀i,M≤i->¬T i):eU w' B M pv0 sv pv p:=
 ⟨h.val.keepT k fun i hi=>h.far.elim (fun e=>h2 i (e▸hi)) fun e=>h3 i (e i hi),h.apt,h.far⟩
theorem eU.keep0{w w':World}{B:Nat->Prop}{M:Nat}{pv0 sv pv:Value}{p:Pt}(h:eU w B M pv0 sv pv p)(k:aA aB w w'):eU w' B M pv0 sv pv p:=h.keepT k (fun _ _=>id) fun _ _=>id
theorem By{w:World}{a b:Nat}{c1 c2:Array Value}{T1 T2:TypeId}{f1 f2:Nat×Nat}(h1:w.heap[a]?=some (.cells c1 T1 f1))(h2:w.heap[b]?=some (.cells c2 T2 f2))(hT:T1≠T2):a≠b:=fun e=>by
 rw[e,h2] at h1;injection h1 with h1
 injection h1 with h1 h3
 exact hT h3.symm
def uK(w:World)(B:Nat->Prop)(pv0:Value)(n:Nat)(t:Tr)(short:Bool)(e:Ending)(w':World):Prop:=
 ∃sv pvf k pvs vss M,e=.returned (.tuple #[sv,.agg (aH pvf (aX n t 3).ptr).toArray,.int .i64 0])/\(short=false->k=3)/\w.heap.size≤M/\cG w w' B M pv0 n t k sv pvs vss/\eU w' B M pv0 sv pvf (aX n t 3).ptr/\aA aB w w'
theorem DJ{P:Program}{fn:Func}{a p q:Tmp}{ty:TypeId}(h:fn.results=#[.tmp a,.cell p ty,.tmp q])(tmps:Array Value)(w:World)(g:Nat)(t:TypeId)(cs:Array Value)(fr:Nat×Nat)(d:TypeDesc)
 (hp:tmps.getD p undef=.pointer (some ⟨g,0,none⟩)) (hg:w.heap[g]?=some (.cells cs t fr)) (hu:P.underlying ty=some d) (hd:(match d with|.struct _|.array _ _=>true|_=>false)=true) (hi:(P.info? ty).map (·.size)=some cs.size):(results fn tmps).run P w=.ok (.tuple #[tmps.getD a undef,.agg cs,tmps.getD q undef]) w:=by
 simp only[Array.getD_eq_getD_getElem?] at hp;simp[results,h,hp,asAddr,Result.andThen,run_loadVar_row w g t ty cs fr d hg hu hd hi]
def iS:List Value:=aF++(eN++[.int .i64 0])
theorem gP:iS.length=177:=rfl
theorem yF:Hid (∀w,(zeroValue 125).run Tryz.prog w=.ok (.agg iS.toArray) w):=O fun w=>by kernel_rfl
theorem qQ:(Tryz.prog.info? 125).map (·.size)=some 177:=by kernel_rfl
theorem Hq:(Tryz.prog.info? 125).map (fun i=>(i.zero,i.size,i.bytes))=some (some (.agg iS.toArray),177,376):=by kernel_rfl
theorem Hr(N:Nat)(uc:List Value)(h:uc.length=N):uc=(List.range N).map fun i=>uc.getD i undef:=by
 apply List.ext_getElem?;intro i;rw[List.getElem?_map]
 by_cases hi:i<N
 ·rw[List.getElem?_range hi,List.getElem?_eq_getElem (by omega)]
  simp[List.getD,List.getElem?_eq_getElem (show i<uc.length by omega)]
 ·rw[List.getElem?_eq_none (by omega),List.getElem?_eq_none (by simp;omega)];rfl
theorem Fy(f g:Nat->Value)(d:Int):Tryz.prog.built 125 [(0,.agg ((List.range 35).map f).toArray),(1,.agg ((List.range 141).map g).toArray),(2,.int .i64 d)]=some ((List.range 35).map f++((List.range 141).map g++([.int .i64 d]:List Value))).toArray:=by kernel_rfl
theorem Hs(pc nn:List Value)(d:Int)(h1:pc.length=35)(h2:nn.length=141)(w:World):(Instr.build 125 #[(0,.agg pc.toArray),(1,.agg nn.toArray),(2,.int .i64 d)]).run Tryz.prog w=.ok (.agg (pc++(nn++([.int .i64 d]:List Value))).toArray) w:=by
 refine run_build w 125 _ _ ?_;rw[Hr 35 pc h1,Hr 141 nn h2];exact Fy _ _ _
def MN(l:Nat)(sh ho:Bool)(w:World)(vs:List Value)(w':World):Prop:=aA aB w w'/\∃s1 s2 s3 s4 s5 s6 s7 s8 s9 b,vs=[s1,s2,s3,s4,s5,s6,s7,s8,s9,.bool b]/\(b=true->0<l/\(sh=true->ho=false))/\(b=false->l=0\/(sh=true/\ho=true))
theorem wU{w:World}{c:Nat}{S:Kor}{B:Nat->Prop}(hK:KI w c S B)(pv:Value)(t:Tr)(ht:Tr.Ok S 3 t)(hp:aJ w B pv t.ptr)(n:Nat)(hn:n<64)(sh:Bool):Calls Tryz.prog 47 #[.pointer (some ⟨c,0,none⟩),.agg (aH pv t.ptr).toArray,.int .i64 (n:Int),.bool sh] w (uK w B pv n t sh):=by
 have HT:=O ht;have HN:=O hn;have HPT:=O hp;have HK:=O hK;obtain⟨p,hpe⟩:∃p,t.ptr=p:=⟨_,rfl⟩
 have HPE:=O hpe;rw[hpe] at HPT hp ⊢;obtain⟨pc,HPC,hpc,HOP⟩:=nmPt hp.pt;rw[HPC.out];have HL:=O (Loc.nil aB aB w);clear hp ht hK hpe;have HPT0:=HPT;have HK0:=HK;go_enter Tryz.func47,Tryz.ntmps47
 go_wp2_with ((with_reducible show WL _ _);refine bxL HL 26 (.tmp 1) (pc.toArray) ?_)
 intro b5 w1 hk HL;replace HPT:=O (aJ.keep0 HPT.out hk);replace HK:=O (HK.out.keep0 hk);clear hk
 go_wp2_with ((with_reducible show WL _ _);refine alL HL 26 (.agg aF.toArray) (aF.toArray) aQ ?_)
 intro b9 w2 hk HL;replace HPT:=O (aJ.keep0 HPT.out hk);replace HK:=O (HK.out.keep0 hk);clear hk
 go_wp2_with ((with_reducible show WL _ _);first
  | refine wpList_load_mid rfl 26 (.tmp 5) rfl b5 0 rfl pc _ (aC (HL.out.b 1)) aG rfl (szP9 hpc) ?_
  | refine al 26 (.agg aF.toArray) (aF.toArray) aQ ?_)
 intro b12 w3 hbs hk0 hb0_
 go_wp2_with ((with_reducible show WL _ _);refine sta 26 (.tmp 12) (.tmp 17) b12 0 pc hb0_ (by first|decide|(rw[List.size_toArray,hpc];exact Nat.le_refl _)|simp[hpc,aE]) (szP9 hpc) HOP.out ?_)
 intro w4 hk hb;rw[aI _ _ (by first|rfl|(rw[List.size_toArray,hpc];rfl)|simp[hpc,aE])] at hb;replace hk:=hk0.trans' hk (U:=aB) (fun _ _ h=>h) (fun i hi e=>by omega);replace HL:=O (HL.out.new (fun _ h=>h.elim) hbs hk hb);replace HPT:=O (aJ.keep0 HPT.out hk);replace HK:=O (HK.out.keep0 hk);clear hbs hk hb hk0 hb0_;go_wp2_with fail;have HB9:=O (HL.out.b 1);have HB12:=O (HL.out.b 0);have HGE:=O (And.intro (HL.out.lt 1) (HL.out.lt 0));have HNE:Hid (b9≠b12):=O (fun e=>bI (i:=0) HL.out.nd rfl 1 (by decide) rfl e);have HKW:=O HL.out.keep;obtain⟨M,hM⟩:∃M,w4.heap.size=M:=⟨_,rfl⟩
 rw[hM] at HGE;have HM:=O (show w.heap.size≤M from by have:=HKW.out.size;omega);have HMW:=O (Nat.le_of_eq hM.symm);obtain⟨Wh,hWh⟩:∃W,w4=W:=⟨_,rfl⟩
 rw[hWh] at HPT HK HB9 HB12 HKW HMW ⊢;have HP0:=O (fun i (hi:pv.ownBlock=some i)=>(HPT0.out.off i hi).2.lt);clear HL hWh hM
 go_loopw [11,13] (fun s i wr=>∃(l:Nat) (sa:Option Addr) (sn sc:Nat),sn+l=3/\i=.int .i64 (l:Int)/\s=.slice sa sn sc/\Hid (aA aB w wr/\M≤wr.heap.size)/\Hid (∃pvs vss,cG w wr B M pv n t sn (.slice sa sn sc) pvs vss)/\Hid (∃pvc,eU wr B M pv (.slice sa sn sc) pvc (aX n t sn).ptr/\wr.heap[b12]?=some (.cells (aH pvc (aX n t sn).ptr).toArray 26 (0,0)))/\Hid (wr.heap[b9]?=some (.cells aF.toArray 26 (0,0)))) (fun _ i _=>(intOf i).toNat)
 case atStart=>exact⟨3,none,0,0,by omega,rfl,rfl,O ⟨HKW.out,HMW.out⟩,O ⟨_,_,cG.nil _ _ _ _ _ _ _⟩,O ⟨pv,⟨by show aJ _ B pv t.ptr;rw[HPE.out];exact HPT.out,(fun i hi=>by cases hi),.inl rfl⟩,by have h:=HB12.out;rw[←HPC.out,←HPE.out] at h;exact h⟩,HB9⟩
 case round =>
  obtain⟨l,sa,sn,sc_,hsn,rfl,rfl,HK8,HWR,HPV,HB9⟩:=hrel;obtain⟨pvs,vss,hwr⟩:=HWR.out;obtain⟨pvc,hpv1,hpv3⟩:=HPV.out;obtain⟨q,hq⟩:∃q,(aX n t sn).ptr=q:=⟨_,rfl⟩
  have HQ:=O hq;rw[hq] at hpv1 hpv3;have hqc:=aL (v:=pvc) hpv1.val.pt.sum;have HOQ0:=bD hpv1.val.pt;obtain⟨qc,hqce⟩:∃x,aH pvc q=x:=⟨_,rfl⟩
  have HOQ:Hid (∀u∈qc,u.oneCell'=true):=O (by rw[←hqce];exact HOQ0);have HQC:=O hqce;rw[hqce] at hqc hpv3;have HR:=O hwr;have HWP:=O hpv1;have HB12:=O hpv3;have HKi:=O (HK0.out.keep0 HK8.out.1);clear hwr hpv1 hpv3 HWR HPV hq hqce HOQ0;have HL:=O (Loc.nil aB aB wr);obtain⟨ho,hh9⟩:∃b,q.hole=b:=⟨_,rfl⟩
  have HH9:=O hh9;clear hh9;refine wp_seq_k fun K1 hK1=>?_
  refine wp_seq_k fun K2 hK2=>?_
  refine JF [18,19,20,21,22,23,24,25,26,27] (MN l sh ho wr) ?_ ?_
  ·rcases Nat.eq_zero_or_pos l with hl0|hl0
   ·have hi:¬(0:Int)<(l:Int):=by omega
    have d0:decide ((0:Int)<(l:Int))=false:=decide_eq_false hi;have HL0:=O hl0;clear hl0;go_wp2_with fail;exact⟨rfl,[.int .i64 (l:Int),.bool false,.bool false,undef,undef,undef,undef,undef,undef,.bool false],(by simp only[pL,Act.put,List.setIfInBounds_toArray,List.set_cons_zero,List.set_cons_succ]),aA.refl _ _,_,_,_,_,_,_,_,_,_,_,rfl,(fun h=>by cases h),fun _=>.inl HL0.out⟩
   ·have hi:(0:Int)<(l:Int):=by omega
    have d0:decide ((0:Int)<(l:Int))=true:=decide_eq_true hi;cases sh with
    | false =>
      go_wp2_with fail;exact⟨rfl,[.int .i64 (l:Int),.bool true,.bool true,.bool false,.bool false,undef,undef,.bool false,.bool true,.bool true],(by simp only[pL,Act.put,List.setIfInBounds_toArray,List.set_cons_zero,List.set_cons_succ]),aA.refl _ _,_,_,_,_,_,_,_,_,_,_,rfl,(fun _=>⟨hl0,fun e=>by cases e⟩),fun e=>by cases e⟩
    | true =>
      cases ho with
      | false =>
        go_wp2_with ((with_reducible show WL _ _);refine aP (by rfl) 26 (.tmp 12) rfl b12 0 rfl qc _ (aC HB12.out) aG rfl (szP9 hqc) ?_)
        refine((by rw[←HQC.out];have h:=bU wr pvc q HWP.out.val.pt;rw[HH9.out] at h;exact h:Calls _ _ _ wr (aT wr false))).mono ?_;rintro e w9 ⟨rfl,hk9⟩;have HK9:=O hk9;clear hk9;go_wp2_with fail;exact⟨rfl,[.int .i64 (l:Int),.bool true,.bool true,.bool true,.bool true,.agg qc.toArray,.bool false,.bool false,.bool true,.bool true],(by simp only[pL,Act.put,List.setIfInBounds_toArray,List.set_cons_zero,List.set_cons_succ]),HK9.out,_,_,_,_,_,_,_,_,_,_,rfl,(fun _=>⟨hl0,fun _=>rfl⟩),fun e=>by cases e⟩
      | true =>
        go_wp2_with ((with_reducible show WL _ _);refine aP (by rfl) 26 (.tmp 12) rfl b12 0 rfl qc _ (aC HB12.out) aG rfl (szP9 hqc) ?_)
        refine((by rw[←HQC.out];have h:=bU wr pvc q HWP.out.val.pt;rw[HH9.out] at h;exact h:Calls _ _ _ wr (aT wr true))).mono ?_;rintro e w9 ⟨rfl,hk9⟩;have HK9:=O hk9;clear hk9;go_wp2_with fail;exact⟨rfl,[.int .i64 (l:Int),.bool true,.bool true,.bool true,.bool true,.agg qc.toArray,.bool true,.bool true,.bool false,.bool false],(by simp only[pL,Act.put,List.setIfInBounds_toArray,List.set_cons_zero,List.set_cons_succ]),HK9.out,_,_,_,_,_,_,_,_,_,_,rfl,(fun e=>by cases e),fun _=>.inr ⟨rfl,rfl⟩⟩
  rintro _ wr ⟨hk9,s1,s2,s3,s4,s5,s6,s7,s8,s9,bb,rfl,hb1,hb0⟩;have HB1:=O hb1;have HB0:=O hb0;replace HR:=O (cG.keep0 HR.out hk9);replace HWP:=O (eU.keep0 HWP.out hk9);replace HKi:=O (HKi.out.keep0 hk9);replace HB12:=O (hk9.blk HB12.out id);replace HB9:=O (hk9.blk HB9.out id);replace HK8:Hid (aA aB w wr/\M≤wr.heap.size):=O ⟨HK8.out.1.trans hk9,Nat.le_trans HK8.out.2 hk9.size⟩;replace HL:=O (Loc.nil aB aB wr);have HRr:=HR;have HWB:=O HK8.out.1.size;have HKWR:=O (Nat.le_refl wr.heap.size);clear hk9 hb1 hb0;refine hK2 _ _ ?_;simp only[pL,Act.put,List.setIfInBounds_toArray,List.set_cons_zero,List.set_cons_succ];cases bb with
  | false =>
    have HHE:Hid ((aX n t 3).ptr=q):=O (by
     rcases HB0.out (by simp) with e|⟨e,hh⟩
     ·have e3:sn=3:=by omega
      rw[←e3];exact HQ.out
     ·have h1:aX n t sn=.hole:=fK (by rw[←(iA (n:=n) HT.out sn (by omega)).hole_eq,HQ.out,HH9.out,hh])
      have h2:=AU n t h1 (3-sn);rw[show sn+(3-sn)=3 by omega] at h2;rw[h2,←HQ.out,h1])
    go_wp2_with fail;have HQ3:Hid ((aX n t 3).ptr=q):=O HHE.out;have HKR:=O HL.out.keep;clear HL;obtain⟨S',hS0⟩:∃S:World->Prop,S=fun w'=>cG w w' B M pv n t sn (.slice sa sn sc_) pvs vss/\eU w' B M pv (.slice sa sn sc_) pvc q/\w'.heap[b12]?=some (.cells qc.toArray 26 (0,0))/\aA aB w w':=⟨_,rfl⟩
    have HSE:=O (show ∀w',S' w'->_ from fun w' h=>by rw[hS0] at h;exact h);have HSI:=O (show ∀w',_->S' w' from fun w' h=>by rw[hS0];exact h);have hkd:=(aA.refl aB wr).drew;have hS:S' wr.drew:=HSI.out _ ⟨HR.out.keep0 hkd,HWP.out.keep0 hkd,hkd.blk HB12.out id,(HK8.out.1.trans HKR.out).trans hkd⟩;have HB9d:=O (hkd.blk HB9.out id);clear hS0 hkd;refine wp_region_held (S:=S') (by kernel_rfl) ?_;change wpAnyH _ _ _ _ _ _ _ _ wr.drew;generalize wr.drew=wy at hS HB9d ⊢;refine tna 0 (.slice sa sn sc_) rfl hS ?_;refine tnd 1 (.agg qc.toArray) rfl (yieldsIf_load_mid (by rfl) 26 (.tmp 12) rfl b12 0 rfl qc _ (fun w' h=>aC (HSE.out w' h).2.2.1) aG rfl (szP9 hqc)) hS ?_;refine tna 2 (.slice sa sn sc_) rfl hS ?_;refine wA9 3 ?_;refine sta 26 (.tmp 9) (.tmp 57) b9 0 qc HB9d.out (by rw[List.size_toArray,aE,hqc];omega) (szP9 hqc) HOQ.out ?_;intro wz hk hb;rw[aI _ _ (by rw[List.size_toArray,aE,hqc])] at hb;have HB9z:=O hb
    have hS1:S' wz:=HSI.out _ (by
     obtain⟨h1,h2,h3,h4⟩:=HSE.out _ hS;have g0:=HGE.out.1;refine⟨h1.keepT hk (fun i hi e=>?_) (fun i hi e=>?_) (fun i hi e=>by omega),h2.keepT hk (fun i hi e=>?_) (fun i hi e=>by omega),hk.blk h3 HNE.out.symm,h4.trans' hk (fun _ _ h=>h) (fun i hi e=>by omega)⟩
     ·obtain⟨cur,hc⟩:=aN h1.row hi
      exact By hc HB9d.out (by decide) e
     ·have:=HP0.out i hi;omega
     ·have:=HP0.out i hi;omega)
    clear hS hk hb;refine wpList_nil ?_;refine⟨hS1,?_⟩;refine tna 4 (.int .i64 0) rfl hS1 ?_;refine wpAnyH_done (by kernel_rfl) ?_ _;have HF:=O (HSE.out _ hS1);clear hS1 HSE HSI HR HWP HB12 HB9 HB9d;go_wp2_with fail;refine bodyPost_ret (DJ rfl _ _ b9 _ _ _ _ rfl HB9z.out aG rfl (by rw[List.size_toArray,hqc];exact bL)) rfl ?_;exact⟨_,pvc,sn,pvs,vss,M,by rw[HQ3.out,HQC.out];rfl,(fun hs=>(HB0.out (by simp)).elim (fun e=>by omega) fun e=>by rw[hs] at e;cases e.1),HM.out,HF.out.1,by rw[HQ3.out];exact HF.out.2.1,HF.out.2.2.2⟩
  | true =>
    have hl0:=(HB1.out (by simp)).1;obtain⟨l2,rfl⟩:∃l2,l=l2+1:=⟨l-1,by omega⟩
    have hl2:l2≤2:=by omega
    have HOKP:=O (iA (n:=n) HT.out sn (by omega));have e4:3-sn=l2+1:=by omega
    rw[e4] at HOKP;clear e4 hl0;have hl20:(0:Int)≤(l2:Int):=by omega
    go_wp2_with ((with_reducible show WL _ _);refine wpList_load_mid rfl 26 (.tmp 12) rfl b12 0 rfl qc _ (aC HB12.out) aG rfl (szP9 hqc) ?_)
    refine((by rw[←HQC.out,←HQ.out];exact tX HKi.out hl2 pvc (aX n t sn) HOKP.out (by rw[HQ.out];exact HWP.out.val.pt):Calls _ _ _ wr (jL wr B l2 (aX n t sn)))).mono ?_;rintro e w6 ⟨vs,rfl,hvs,hnew,hk⟩;have HNN:=O hvs;have HNW:=O hnew;have HWS:=O HL.out.keep.size;have hnn:=dJ ((l2+1:Nat):Int) vs hvs.nv;have HOF0:=eE ((l2+1:Nat):Int) hvs.nv;obtain⟨nn,hnne⟩:∃x,cF ((l2+1:Nat):Int) vs (fun i=>((aX n t sn).kid i).ptr)=x:=⟨_,rfl⟩
    have HOF:Hid (∀u∈nn,u.oneCell'=true):=O (by rw[←hnne];exact HOF0);have HNF:=O hnne;rw[hnne] at hnn ⊢;clear HOF0 hnne hvs hnew;replace HL:=O (HL.out.keeps hk);replace HR:=O (cG.keep0 HR.out hk);replace HWP:=O (eU.keep0 HWP.out hk);replace HKi:=O (HKi.out.keep0 hk);replace HB12:=O (hk.blk HB12.out id);replace HB9:=O (hk.blk HB9.out id);clear hk;have HKR:=O HL.out.keep;replace HL:=O (Loc.nil aB aB w6);have HR1:=HR;have HWP1:=HWP;have HKi1:=HKi;have HB121:=HB12;have HB91:=HB9;have HNN1:=HNN
    go_wp2_with ((with_reducible show WL _ _);refine al 123 (.agg eN.toArray) (eN.toArray) mV ?_)
    intro b14 w7 hbs hk0 hb0_
    go_wp2_with ((with_reducible show WL _ _);refine sta 123 (.tmp 14) (.tmp 35) b14 0 nn hb0_ (by first|decide|(rw[List.size_toArray,hnn];exact Nat.le_refl _)|simp[hnn,cW]) (by rw[hnn];exact eO) HOF.out ?_)
    intro w8 hk hb;rw[aI _ _ (by first|rfl|(rw[List.size_toArray,hnn];rfl)|simp[hnn,cW])] at hb;replace hk:=hk0.trans' hk (U:=aB) (fun _ _ h=>h) (fun i hi e=>by omega);replace HL:=O (HL.out.new (fun _ h=>h.elim) hbs hk hb);replace HR:=O (cG.keep0 HR.out hk);replace HWP:=O (eU.keep0 HWP.out hk);replace HKi:=O (HKi.out.keep0 hk);replace HB12:=O (hk.blk HB12.out id);replace HB9:=O (hk.blk HB9.out id);replace HNN:=O (bZ.keep0 HNN.out hk);clear hbs hk hb hk0 hb0_;obtain⟨d,hde⟩:∃d,n / 4 ^ l2 % 4=d:=⟨_,rfl⟩
    have HDE:=O hde;have hd4:d<4:=by rw[←hde];exact gO n l2
    have hbs:=Hs qc nn ((d:Nat):Int) hqc hnn;have hsc:(qc++(nn++([.int .i64 ((d:Nat):Int)]:List Value))).length=177:=by simp[hqc,hnn]
    obtain⟨sc,hsce⟩:∃x,qc++(nn++([.int .i64 ((d:Nat):Int)]:List Value))=x:=⟨_,rfl⟩
    have HOSC:Hid (∀u∈sc,u.oneCell'=true):=O (by
     intro u hu;rw[←hsce] at hu;rcases List.mem_append.1 hu with hu|hu
     ·exact HOQ.out u hu
     rcases List.mem_append.1 hu with hu|hu
     ·exact HOF.out u hu
     ·rcases List.mem_singleton.1 hu with rfl;rfl)
    have HSC:=O hsce;rw[hsce] at hbs hsc;have HBS:=O hbs;clear hde hbs hsce;go_wp2_with fail;apply DI (R:=fun(b16:Nat) w'=>Hid (cG w w' B M pv n t sn (.slice sa sn sc_) pvs vss/\eU w' B M pv (.slice sa sn sc_) pvc q/\KI w' c S B/\w'.heap[b12]?=some (.cells qc.toArray 26 (0,0))/\w'.heap[b9]?=some (.cells aF.toArray 26 (0,0))/\bZ w' B vs (fun i=>((aX n t sn).kid i).ptr)/\Loc aB aB w6 w' [(b16,sc.toArray,125),(b14,nn.toArray,123)]))
    case h =>
     go_wp2_with fail;obtain⟨S,hS0⟩:∃S:World->Prop,S=fun w'=>aA aB w8.drew w':=⟨_,rfl⟩
     have HSE:=O (show ∀w',S w'->aA aB w8.drew w' from fun w' h=>by rw[hS0] at h;exact h);have HSI:=O (show ∀w',aA aB w8.drew w'->S w' from fun w' h=>by rw[hS0];exact h);have hS:S w8.drew:=by rw[hS0];exact aA.refl _ _
     have hkd:=(aA.refl aB w8).drew;clear hS0;refine eI (S:=S) (by kernel_rfl) ?_;change wpAnyH _ _ _ _ _ _ _ _ w8.drew;generalize w8.drew=w9 at HSE HSI hS hkd ⊢;replace HL:=O (HL.out.keeps hkd);replace HR:=O (cG.keep0 HR.out hkd);replace HWP:=O (eU.keep0 HWP.out hkd);replace HKi:=O (HKi.out.keep0 hkd);replace HB12:=O (hkd.blk HB12.out id);replace HB9:=O (hkd.blk HB9.out id);replace HNN:=O (bZ.keep0 HNN.out hkd);clear hkd;have HLs:=HL;have HRs:=HR;have HWPs:=HWP;have HKis:=HKi;have HB12s:=HB12;have HB9s:=HB9;have HNNs:=HNN;refine tnd 0 (.agg qc.toArray) rfl (yieldsIf_load_mid (by rfl) 26 (.tmp 12) rfl b12 0 rfl qc _ (fun w' h=>(HSE.out w' h).rangeAt (aC HB12s.out)) aG rfl (szP9 hqc)) hS ?_;refine tnd 1 (.agg nn.toArray) rfl (yieldsIf_load_mid (by rfl) 123 (.tmp 14) rfl b14 0 rfl nn _ (fun w' h=>aC ((HSE.out w' h).blk (HLs.out.b 0) id)) Tryz.underlying123 rfl (by rw[hnn];exact eO)) hS ?_;refine tna 2 (.int .i64 (n:Int)) rfl hS ?_;refine tna 3 (.int .i64 ((l2+1:Nat):Int)) rfl hS ?_;refine cS (k:=4) (l:=6) rfl rfl (by kernel_rfl) ?_ ?_
     ·go_wp2_with fail
      refine(AS w9 n l2 HN.out (by omega)).mono ?_;rintro e wa ⟨rfl,hk⟩;have hS1:=HSI.out _ ((HSE.out _ hS).trans hk);replace HL:=O (HL.out.keeps hk);replace HR:=O (cG.keep0 HR.out hk);replace HWP:=O (eU.keep0 HWP.out hk);replace HKi:=O (HKi.out.keep0 hk);replace HB12:=O (hk.blk HB12.out id);replace HB9:=O (hk.blk HB9.out id);replace HNN:=O (bZ.keep0 HNN.out hk);clear hS hk;rw[HDE.out];go_wp2_with fail;refine⟨hS1,?_⟩;refine tnd 5 (.agg sc.toArray) rfl (iV 125 #[(0,.tmp 41),(1,.tmp 42),(2,.tmp 45)] [(0,.agg qc.toArray),(1,.agg nn.toArray),(2,.int .i64 ((d:Nat):Int))] (.agg sc.toArray) HBS.out) hS1 ?_;refine wA9 6 ?_;refine al 125 (.agg iS.toArray) (iS.toArray) yF ?_;intro b16 wb hbs hk hb;have HNb16:=O (show w9.heap.size≤b16 from by have:=(HSE.out _ hS1).size;omega);have hS2:=HSI.out _ ((HSE.out _ hS1).trans hk);clear hS1;replace HL:=O (HL.out.new (fun _ h=>h.elim) hbs hk hb);replace HR:=O (cG.keep0 HR.out hk);replace HWP:=O (eU.keep0 HWP.out hk);replace HKi:=O (HKi.out.keep0 hk);replace HB12:=O (hk.blk HB12.out id);replace HB9:=O (hk.blk HB9.out id);replace HNN:=O (bZ.keep0 HNN.out hk);clear hbs hk hb;refine wpList_nil ?_;refine⟨hS2,?_⟩;refine wA9 7 ?_;refine sta 125 (.tmp 16) (.tmp 46) b16 0 sc (HL.out.b 0) (by first|decide|(rw[hsc];exact Nat.le_refl _)|simp[hsc,gP]) (by rw[hsc];exact qQ) HOSC.out ?_;intro wc hk hb;rw[aI _ _ (by first|rfl|simp[hsc,gP])] at hb;have hS3:=HSI.out _ ((HSE.out _ hS2).trans' hk (fun _ _ h=>h) (fun i hi e=>by have:=HNb16.out;omega));clear hS2;replace HL:=O (HL.out.set 0 hk hb);replace HR:=O (cG.keep0 HR1.out HL.out.keep);replace HWP:=O (eU.keep0 HWP1.out HL.out.keep);replace HKi:=O (HKi1.out.keep0 HL.out.keep);replace HB12:=O (HL.out.keep.blk HB121.out id);replace HB9:=O (HL.out.keep.blk HB91.out id);replace HNN:=O (bZ.keep0 HNN1.out HL.out.keep);clear hk hb;refine wpList_nil ?_;refine⟨hS3,?_⟩;refine wpAnyH_done (by kernel_rfl) ?_ _;clear hS3 HSE HSI HLs HRs HWPs HKis HB12s HB9s HNNs;refine noP ?_;exact⟨rfl,b16,rfl,O ⟨HR.out,HWP.out,HKi.out,HB12.out,HB9.out,HNN.out,HL.out⟩⟩
     ·refine al 125 (.agg iS.toArray) (iS.toArray) yF ?_
      intro b16 wa hbs hk hb;have HNb16:=O (show w9.heap.size≤b16 from by have:=(HSE.out _ hS).size;omega);have hS1:=HSI.out _ ((HSE.out _ hS).trans hk);clear hS;replace HL:=O (HL.out.new (fun _ h=>h.elim) hbs hk hb);replace HR:=O (cG.keep0 HR.out hk);replace HWP:=O (eU.keep0 HWP.out hk);replace HKi:=O (HKi.out.keep0 hk);replace HB12:=O (hk.blk HB12.out id);replace HB9:=O (hk.blk HB9.out id);replace HNN:=O (bZ.keep0 HNN.out hk);clear hbs hk hb;refine wpList_nil ?_;refine⟨hS1,?_⟩;refine wA9 4 ?_;go_wp2_with fail;refine(AS wa n l2 HN.out (by omega)).mono ?_;rintro e wb ⟨rfl,hk⟩;have hS2:=HSI.out _ ((HSE.out _ hS1).trans hk);replace HL:=O (HL.out.keeps hk);replace HR:=O (cG.keep0 HR.out hk);replace HWP:=O (eU.keep0 HWP.out hk);replace HKi:=O (HKi.out.keep0 hk);replace HB12:=O (hk.blk HB12.out id);replace HB9:=O (hk.blk HB9.out id);replace HNN:=O (bZ.keep0 HNN.out hk);clear hS1 hk;rw[HDE.out];go_wp2_with fail;refine⟨hS2,?_⟩;refine tnd 5 (.agg sc.toArray) rfl (iV 125 #[(0,.tmp 41),(1,.tmp 42),(2,.tmp 45)] [(0,.agg qc.toArray),(1,.agg nn.toArray),(2,.int .i64 ((d:Nat):Int))] (.agg sc.toArray) HBS.out) hS2 ?_;refine wA9 7 ?_;refine sta 125 (.tmp 16) (.tmp 46) b16 0 sc (HL.out.b 0) (by first|decide|(rw[hsc];exact Nat.le_refl _)|simp[hsc,gP]) (by rw[hsc];exact qQ) HOSC.out ?_;intro wc hk hb;rw[aI _ _ (by first|rfl|simp[hsc,gP])] at hb;have hS3:=HSI.out _ ((HSE.out _ hS2).trans' hk (fun _ _ h=>h) (fun i hi e=>by have:=HNb16.out;omega));clear hS2;replace HL:=O (HL.out.set 0 hk hb);replace HR:=O (cG.keep0 HR1.out HL.out.keep);replace HWP:=O (eU.keep0 HWP1.out HL.out.keep);replace HKi:=O (HKi1.out.keep0 HL.out.keep);replace HB12:=O (HL.out.keep.blk HB121.out id);replace HB9:=O (HL.out.keep.blk HB91.out id);replace HNN:=O (bZ.keep0 HNN1.out HL.out.keep);clear hk hb;refine wpList_nil ?_;refine⟨hS3,?_⟩;refine wpAnyH_done (by kernel_rfl) ?_ _;clear hS3 HSE HSI HLs HRs HWPs HKis HB12s HB9s HNNs;refine noP ?_;exact⟨rfl,b16,rfl,O ⟨HR.out,HWP.out,HKi.out,HB12.out,HB9.out,HNN.out,HL.out⟩⟩
    case hR =>
     rintro b16 wd HF;replace HR:=O HF.out.1;replace HWP:=O HF.out.2.1;replace HKi:=O HF.out.2.2.1;replace HB12:=O HF.out.2.2.2.1;replace HB9:=O HF.out.2.2.2.2.1;replace HNN:=O HF.out.2.2.2.2.2.1;replace HL:=O HF.out.2.2.2.2.2.2;clear HF;have HOR:=O HR.out.row;have HSL:=O (fun i (hi:(Value.slice sa sn sc_).ownBlock=some i)=>show i<wr.heap.size from by obtain⟨cur,hc⟩:=aN HRr.out.row hi;exact lt_of_block hc);have HKB:=O HL.out.keep;have HB16:=O (HL.out.b 0);have HB14:=O (HL.out.b 1);have hGB:=And.intro (HL.out.lt 0).1 (HL.out.lt 1).1;have HGB:=O hGB;have HMWR:=O HK8.out.2;obtain⟨wE,hwe,hke,hbe,-⟩:=aV wd sc.toArray 125;obtain⟨bx,hbx⟩:∃x,wd.heap.size=x:=⟨_,rfl⟩
     rw[hbx] at hbe;have HRN:Hid (Rd wE 177 (.slice (some ⟨bx,0,none⟩) 1 1) 1 sc):=O (dL (n:=1) (size:=177) hbe (by rw[hsc]) (by unfold maxLen;omega));have HO_:=O (hke.owns HOR.out fun _ _=>id);have HSE_:=O hke.size;have HBW_:=O HL.out.keep.size;have HKE:=O hke;have HBX:=O hbx;have hsn2:sn≤2:=by omega
     clear hbe hke hGB HL
     go_wp2_with (first
      | ((with_reducible show WL (some 48) (.load 125 _));refine wpList_load_mid rfl 125 (.tmp 16) rfl b16 0 rfl sc _ (aC HB16.out) Tryz.underlying125 rfl (by rw[hsc];exact qQ) ?_)
      | ((with_reducible show WL _ (.buildSlice _ 1 _));refine bQ rfl 112 125 (.tmp 48) rfl Tryz.underlying112 Hq (by decide) sc hsc (by decide) rfl ?_;rw[hwe,hbx])
      | (at_builtin;refine aM rfl (.tmp 47) (.tmp 49) 112 rfl w.heap.size 125 (.agg iS.toArray) 177 376 Tryz.underlying112 Hq rfl (by decide) (.slice sa sn sc_) sn (kT n t sn pvs vss) rfl HO_.out (.slice (some ⟨bx,0,none⟩) 1 1) 1 sc rfl HRN.out HOSC.out (by unfold maxLen;omega) (by omega) (by have h1:=HSE_.out;have h2:=HBW_.out;have h3:=HWB.out;have h4:=HKR.out.size;omega) ?_))
     intro v2 w8 ho5 hk5 hn5 hb5;obtain⟨g5,c5,rfl⟩:=ownsRow_succ ho5;clear hwe hbx hn5 HRN HO_;have HAV:Hid (∀q,q<4->Apt (.slice sa sn sc_) (vs q)/\zT M (vs q)):=O (fun q hq=>⟨fun i hi e=>by have h1:=HSL.out i hi;have h2:=HNW.out q hq i e;have h3:=HWS.out;omega,fun i hi=>by have h2:=HNW.out q hq i hi;have h3:=HWS.out;have h4:=HMWR.out;omega⟩)
     have HR8:Hid (cG w w8 B M pv n t (sn+1) (.slice (some ⟨g5,0,none⟩) (sn+1) c5) (fun j=>if j=sn then pvc else pvs j) (fun j=>if j=sn then vs else vss j)):=O (HR.out.next HKE.out (by rw[HQ.out];exact HWP.out.val) HWP.out.apt HWP.out.far HNN.out HAV.out (by
      have e:eY n t sn pvc vs=sc:=by
       unfold eY;rw[HQ.out,HQC.out,←HSC.out,←HNF.out,←HDE.out,show 3-sn=l2+1 by omega,show 2-sn=l2 by omega]
      rw[e];exact ho5) hk5 hb5)
     have HO8:Hid (∀i,(Value.slice sa sn sc_).ownBlock=some i->i≠b9/\i≠b12/\i≠b14/\i≠b16):=O (fun i hi=>by
      have h1:=HSL.out i hi;obtain⟨cur,hc⟩:=aN HOR.out hi;exact⟨By hc HB9.out (by decide),By hc HB12.out (by decide),by have:=HGB.out.2;have:=HKR.out.size;omega,by have:=HGB.out.1;have:=HKR.out.size;omega⟩)
     have HB9e:=O (hk5.blk (HKE.out.blk HB9.out id) (fun e=>(HO8.out _ e).1 rfl));have HB12e:=O (hk5.blk (HKE.out.blk HB12.out id) (fun e=>(HO8.out _ e).2.1 rfl));have HB14e:=O (hk5.blk (HKE.out.blk HB14.out id) (fun e=>(HO8.out _ e).2.2.1 rfl));have HB16e:=O (hk5.blk (HKE.out.blk HB16.out id) (fun e=>(HO8.out _ e).2.2.2 rfl));have HOWB:=O (fun i (hi:(Value.slice sa sn sc_).ownBlock=some i)=>show w.heap.size≤i from bA HOR.out hi);have HK9:Hid (aA aB w w8):=O ((((HK8.out.1.trans HKR.out).trans HKB.out).trans HKE.out).trans' hk5 (fun _ _ h=>h) (fun i hi e=>by have:=HOWB.out i e;omega));have HMS:=O (show M≤w8.heap.size from by have h1:=HMWR.out;have h2:=HKR.out.size;have h3:=HKB.out.size;have h4:=HKE.out.size;have h5:=hk5.size;omega);have HVD:Hid (eU w8 B M pv (.slice (some ⟨g5,0,none⟩) (sn+1) c5) (vs d) ((aX n t sn).kid d).ptr):=O ⟨(((HNN.out d hd4).keep0 HKE.out).keepT hk5 (fun i hi e=>(HAV.out d hd4).1 i e hi)),qP (HAV.out d hd4).1 hb5 ((HNN.out d hd4).keep0 HKE.out),.inr (HAV.out d hd4).2⟩;have hkc:=aL (v:=vs d) HVD.out.val.pt.sum;have HOKC0:=bD HVD.out.val.pt;have HKA0:=rT HNN.out.nv (by rw[HNF.out];exact aC HB14e.out) hd4;obtain⟨kc,hkce⟩:∃x,aH (vs d) ((aX n t sn).kid d).ptr=x:=⟨_,rfl⟩
     have HOKC:Hid (∀u∈kc,u.oneCell'=true):=O (by rw[←hkce];exact HOKC0);have HKC:=O hkce;rw[hkce] at hkc HKA0;have HKA:=O HKA0;have hdi0:(0:Int)≤(d:Int):=by omega
     have hdi1:(d:Int)<4:=by omega
     have hcd:w8.cell? ⟨b16,176,none⟩=some (.int .i64 (d:Int)):=aD (i:=176) HB16e.out (by
      rw[←HSC.out,List.getElem?_toArray,List.getElem?_append_right (by omega),List.getElem?_append_right (by omega),hqc,hnn];rfl)
     clear ho5 hk5 hb5 HKA0 HOKC0 hkce HR HWP HKi HB12 HB9 HNN HB14 HB16 HOR
     go_wp2_with ((with_reducible show WL _ _);first
      | refine wpList_load_mid rfl 26 (.tmp 54) rfl b14 (1+d*35) rfl kc _ HKA.out aG rfl (szP9 hkc) ?_
      | refine sta 26 (.tmp 12) (.tmp 55) b12 0 kc HB12e.out (by rw[List.size_toArray,hqc,hkc];omega) (szP9 hkc) HOKC.out ?_)
     intro w9 hk hb;rw[aI _ _ (by rw[List.size_toArray,hqc,hkc])] at hb;have HG12:=HGE.out.2;have HX12:Hid (∀i,i=b12->w.heap.size≤i/\i<M):=O (fun i e=>by rw[e];exact HG12);have HR9:=O (HR8.out.keepT hk (fun i hi e=>by obtain⟨cur,hc⟩:=aN HR8.out.row hi;exact By hc HB12e.out (by decide) e) (fun i hi e=>by have:=HP0.out i hi;have:=(HX12.out i e).1;omega) (fun i hi e=>by have:=(HX12.out i e).2;omega));have HP9:=O (HVD.out.keepT hk (fun i hi e=>by have:=HP0.out i hi;have:=(HX12.out i e).1;omega) (fun i hi e=>by have:=(HX12.out i e).2;omega));have HK99:=O (And.intro (HK9.out.trans' hk (fun _ _ h=>h) (fun i hi e=>by have:=(HX12.out i e).1;omega):aA aB w w9) (show M≤w9.heap.size from by have h1:=HMS.out;have h2:=hk.size;omega));have HB99:=O (hk.blk HB9e.out HNE.out);have HNX:Hid (aX n t (sn+1)=(aX n t sn).kid d):=O (by show (aX n t sn).kid (n / 4 ^ (2-sn) % 4)=_;rw[show 2-sn=l2 by omega,HDE.out]);have HB129:Hid (w9.heap[b12]?=some (.cells (aH (vs d) (aX n t (sn+1)).ptr).toArray 26 (0,0))):=O (by rw[hb,HNX.out,HKC.out]);rw[←HNX.out] at HP9;clear hk hb hcd HR8 HVD HB9e HB12e HB14e HB16e HKA;go_wp2_with fail
     go_roundw
     case rel=>exact⟨l2,some ⟨g5,0,none⟩,sn+1,c5,by omega,by first|rfl|go_num,rfl,HK99,O ⟨_,_,HR9.out⟩,O ⟨_,HP9.out,HB129.out⟩,HB99⟩
     case measure=>simp[intOf]
theorem Tr.Ok.root{S:Kor}{t:Tr}(h:Tr.Ok S 3 t):t.ptr.root=true:=by
 unfold Pt.root;cases t with
 | hole=>rw[show Tr.hole.ptr.hole=true from iM];rfl
 | leaf p b=>exact h.elim
 | node p k =>
   have h1:p.may=true:=h.1.may;have h2:p.level=3:=h.1.lev;show (p.hole || (p.may && decide (p.level=3)))=true;rw[h1,h2];simp
theorem oB{w:World}{c:Nat}{S:Kor}{B:Nat->Prop}(hK:KI w c S B)(pv:Value)(t:Tr)(ht:Tr.Ok S 0 t)(hp:PtV w pv t.ptr)(i:Nat):Calls Tryz.prog 48 #[.pointer (some ⟨c,0,none⟩),.agg (aH pv t.ptr).toArray] w (eP w (t.blk 0 i)):=by
 cases t with
 | hole=>exact DH pv zPt hp iM
 | leaf p b=>exact Fv hK pv p hp ht.1
 | node p k=>exact ht.elim
theorem JG{w:World}{c:Nat}{S:Kor}{B:Nat->Prop}(hK:KI w c S B)(pv:Value)(t:Tr)(ht:Tr.Ok S 3 t)(hp:aJ w B pv t.ptr)(n:Nat)(hn:n<64):Calls Tryz.prog 13 #[.pointer (some ⟨c,0,none⟩),.agg (aH pv t.ptr).toArray,.int .i64 (n:Int)] w (eP w (t.blk 3 n)):=by
 have HT:=O ht;have HN:=O hn;have HPT:=O hp;have HK:=O hK;have HBK:=O (wT (n:=n) ht);have HO3:=O (iA (n:=n) ht 3 (by omega));rw[HBK.out];obtain⟨bs,hbs⟩:∃x,(aX n t 3).blk 0 n=x:=⟨_,rfl⟩
 have HBS:=O hbs;have hn0:(0:Int)≤(n:Int):=by omega
 have hn1:(n:Int)<64:=by omega
 rw[hbs];obtain⟨p,hpe⟩:∃p,t.ptr=p:=⟨_,rfl⟩
 have HPE:=O hpe;rw[hpe] at HPT hp ⊢;obtain⟨pc,HPC,hpc,HOP⟩:=nmPt hp.pt;rw[HPC.out];have HL:=O (Loc.nil aB aB w);clear hp ht hK hpe hbs;go_enter Tryz.func13,Tryz.ntmps13
 go_wp2_with ((with_reducible show WL _ _);refine bxL HL 26 (.tmp 1) (pc.toArray) ?_)
 intro b4 w1 hk HL;replace HPT:=O (aJ.keep0 HPT.out hk);replace HK:=O (HK.out.keep0 hk);clear hk
 go_wp2_with ((with_reducible show WL _ _);refine wpList_load_mid rfl 26 (.tmp 4) rfl b4 0 rfl pc _ (aC (HL.out.b 0)) aG rfl (szP9 hpc) ?_)
 refine((by rw[←HPC.out];exact fV HK.out pv p HPT.out.pt (by rw[←HPE.out];exact HT.out.root):Calls _ _ _ w1 (aK w1 (.int .i64 0)))).mono ?_;rintro e w2 ⟨rfl,hk⟩;replace HL:=O (HL.out.keeps hk);replace HPT:=O (aJ.keep0 HPT.out hk);replace HK:=O (HK.out.keep0 hk);clear hk
 go_wp2_with ((with_reducible show WL _ _);refine wpList_load_mid rfl 26 (.tmp 4) rfl b4 0 rfl pc _ (aC (HL.out.b 0)) aG rfl (szP9 hpc) ?_)
 refine((by rw[←HPC.out,←HPE.out];exact wU HK.out pv t HT.out (by rw[HPE.out];exact HPT.out) n HN.out true:Calls _ _ _ w2 (uK w2 B pv n t true))).mono ?_;rintro e w3 ⟨sv,pvf,k,pvs,vss,M,rfl,-,hM,hwr,hwp,hk⟩;obtain⟨sa,sc_,hsv,-,-⟩:=(Rd.of_owns hwr.row).form;clear hwr;subst hsv;have HPF:=O hwp.val;obtain⟨qc,HQC,hqc,HOQ⟩:=nmPt hwp.val.pt;rw[HQC.out];clear hwp hM;replace HL:=O (HL.out.keeps hk);replace HPT:=O (aJ.keep0 HPT.out hk);replace HK:=O (HK.out.keep0 hk);clear hk
 go_wp2_with ((with_reducible show WL _ _);refine al 26 (.agg aF.toArray) (aF.toArray) aQ ?_)
 intro b10 w4 hbs hk0 hb0_
 go_wp2_with ((with_reducible show WL _ _);refine sta 26 (.tmp 10) (.tmp 30) b10 0 qc hb0_ (by first|decide|(rw[List.size_toArray,hqc];exact Nat.le_refl _)|simp[hqc,aE]) (szP9 hqc) HOQ.out ?_)
 intro w5 hk hb;rw[aI _ _ (by first|rfl|(rw[List.size_toArray,hqc];rfl)|simp[hqc,aE])] at hb;replace hk:=hk0.trans' hk (U:=aB) (fun _ _ h=>h) (fun i hi e=>by omega);replace HL:=O (HL.out.new (fun _ h=>h.elim) hbs hk hb);replace HPT:=O (aJ.keep0 HPT.out hk);replace HK:=O (HK.out.keep0 hk);replace HPF:=O (aJ.keep0 HPF.out hk);clear hbs hk hb hk0 hb0_
 go_wp2_with ((with_reducible show WL _ _);refine wpList_load_mid rfl 26 (.tmp 10) rfl b10 0 rfl qc _ (aC (HL.out.b 0)) aG rfl (szP9 hqc) ?_)
 have HSZ:=O HL.out.keep.size;refine((by rw[←HQC.out];exact oB HK.out pvf (aX n t 3) HO3.out HPF.out.pt n:Calls _ _ _ w5 (eP w5 ((aX n t 3).blk 0 n)))).mono ?_;rintro e w6 ⟨v1,rfl,ho,hk⟩;rw[HBS.out] at ho;obtain⟨va,vc,rfl,-,-⟩:=(Rd.of_owns ho).form;have HO:=O (aY ho HSZ.out);clear ho;replace HL:=O (HL.out.keeps hk);replace HPT:=O (aJ.keep0 HPT.out hk);replace HK:=O (HK.out.keep0 hk);replace HPF:=O (aJ.keep0 HPF.out hk);clear hk;go_wp2_with fail
 go_ret2
 exact⟨_,rfl,HO.out,HL.out.keep⟩
theorem Fz{w:World}{c:Nat}{S:Kor}{B:Nat->Prop}(hK:KI w c S B)(pv:Value)(t:Tr)(ht:Tr.Ok S 3 t)(hp:aJ w B pv t.ptr)(n:Int)(hn:64≤n):Calls Tryz.prog 13 #[.pointer (some ⟨c,0,none⟩),.agg (aH pv t.ptr).toArray,.int .i64 n] w (aK w (.tuple #[.slice none 0 0,.int .i64 5])):=by
 have HT:=O ht;have HPT:=O hp;have HK:=O hK;have hn0:¬n<0:=by omega
 obtain⟨p,hpe⟩:∃p,t.ptr=p:=⟨_,rfl⟩
 have HPE:=O hpe;rw[hpe] at HPT hp ⊢;obtain⟨pc,HPC,hpc,HOP⟩:=nmPt hp.pt;rw[HPC.out];have HL:=O (Loc.nil aB aB w);clear hp ht hK hpe;go_enter Tryz.func13,Tryz.ntmps13
 go_wp2_with ((with_reducible show WL _ _);refine bxL HL 26 (.tmp 1) (pc.toArray) ?_)
 intro b4 w1 hk HL;replace HPT:=O (aJ.keep0 HPT.out hk);replace HK:=O (HK.out.keep0 hk);clear hk
 go_wp2_with ((with_reducible show WL _ _);refine wpList_load_mid rfl 26 (.tmp 4) rfl b4 0 rfl pc _ (aC (HL.out.b 0)) aG rfl (szP9 hpc) ?_)
 refine((by rw[←HPC.out];exact fV HK.out pv p HPT.out.pt (by rw[←HPE.out];exact HT.out.root):Calls _ _ _ w1 (aK w1 (.int .i64 0)))).mono ?_;rintro e w2 ⟨rfl,hk⟩;replace HL:=O (HL.out.keeps hk);replace HPT:=O (aJ.keep0 HPT.out hk);replace HK:=O (HK.out.keep0 hk);clear hk;go_wp2_with fail
 go_ret2
 exact⟨rfl,HL.out.keep⟩
theorem JH{w:World}{c:Nat}{S:Kor}{B:Nat->Prop}(hK:KI w c S B)(pv:Value)(p:Pt)(hp:PtV w pv p)(hh:p.hole=false)(hm:p.may=true)(hl:¬p.level=3)(n:Int):Calls Tryz.prog 13 #[.pointer (some ⟨c,0,none⟩),.agg (aH pv p).toArray,.int .i64 n] w (aK w (.tuple #[.slice none 0 0,.int .i64 2])):=by
 have HPT:=O hp;have HK:=O hK;have HH:=O hh;have HM:=O hm;have HLV:=O hl;obtain⟨pc,HPC,hpc,HOP⟩:=nmPt hp;rw[HPC.out];have HL:=O (Loc.nil aB aB w);clear hp hK hh hm hl;go_enter Tryz.func13,Tryz.ntmps13
 go_wp2_with ((with_reducible show WL _ _);refine bxL HL 26 (.tmp 1) (pc.toArray) ?_)
 intro b4 w1 hk HL;replace HPT:=O (HPT.out.keep hk fun _ _=>id);replace HK:=O (HK.out.keep0 hk);clear hk
 go_wp2_with ((with_reducible show WL _ _);refine wpList_load_mid rfl 26 (.tmp 4) rfl b4 0 rfl pc _ (aC (HL.out.b 0)) aG rfl (szP9 hpc) ?_)
 refine((by rw[←HPC.out];exact DG HK.out pv p HPT.out HH.out HM.out HLV.out:Calls _ _ _ w1 (aK w1 (.int .i64 2)))).mono ?_;rintro e w2 ⟨rfl,hk⟩;replace HL:=O (HL.out.keeps hk);replace HPT:=O (HPT.out.keep hk fun _ _=>id);replace HK:=O (HK.out.keep0 hk);clear hk;go_wp2_with fail
 go_ret2
 exact⟨rfl,HL.out.keep⟩
def dX{α:Type}(f:α->Tr->Nat->α):Nat->α->Tr->α
 | l,a,.hole=>f a .hole l
 | 0,a,.leaf p b=>f a (.leaf p b) 0
 | 0,a,.node p k=>a
 | l+1,a,.leaf p b=>a
 | l+1,a,.node p k=>dX f l (dX f l (dX f l (dX f l a (k 0)) (k 1)) (k 2)) (k 3)
def oC{α:Type}(f:α->Tr->Nat->α)(l:Nat)(k:Nat->Tr)(a:α):Nat->α
 | 0=>a
 | i+1=>dX f l (oC f l k a i) (k i)
theorem AV{α:Type}(f:α->Tr->Nat->α){S:Kor}{l:Nat}{t:Tr}(h:Tr.Ok S l t)(h2:l=0\/t.isHole=true)(a:α):dX f l a t=f a t l:=by
 cases t with
 | hole=>cases l<;>rfl
 | leaf p b =>
    rcases h2 with rfl|h2
    ·rfl
    ·cases h2
 | node p k =>
    rcases h2 with rfl|h2
    ·exact h.elim
    ·cases h2
theorem qR{α:Type}{f:α->Tr->Nat->α}{P:α->Prop}(hPm:∀a t l,P (f a t l)->P a):∀(l:Nat) (a:α) (t:Tr),P (dX f l a t)->P a
 | 0,a,.hole,h=>hPm _ _ _ h
 | _+1,a,.hole,h=>hPm _ _ _ h
 | 0,a,.leaf p b,h=>hPm _ _ _ h
 | 0,a,.node p k,h=>h
 | l+1,a,.leaf p b,h=>h
 | l+1,a,.node p k,h=>qR hPm l _ _ (qR hPm l _ _ (qR hPm l _ _ (qR hPm l _ _ h)))
theorem Eg{α:Type}{f:α->Tr->Nat->α}{P:α->Prop}(hPm:∀a t l,P (f a t l)->P a)(l:Nat)(k:Nat->Tr)(a:α):∀(j i:Nat),i≤j->P (oC f l k a j)->P (oC f l k a i)
 | 0,i,hi,h=>by
    obtain rfl:i=0:=by omega
    exact h
 | j+1,i,hi,h=>by
   by_cases e:i=j+1
   ·subst e;exact h
   ·exact Eg hPm l k a j i (by omega) (qR hPm l _ _ h)
def Off(w:World)(J:Nat->Prop)(k:Nat):Prop:=¬J k/\k<w.heap.size
theorem Off.keep{w w':World}{J J':Nat->Prop}{k:Nat}(h:Off w J k)(kp:aA J w w')(hJ:∀k,J' k->J k\/w.heap.size≤k):Off w' J' k:=
 ⟨fun e=>(hJ k e).elim h.1 fun e=>by have:=h.2;omega,by have:=h.2;have:=kp.size;omega⟩
structure Yld{α:Type}(I:α->(Nat->Prop)->World->Prop):Prop where
 keep:∀a J w w',I a J w->aA aB w w'->I a J w'
 lt:∀a J w k,I a J w->J k->k<w.heap.size
def cN{α:Type}(I:α->(Nat->Prop)->World->Prop)(w:World)(J:Nat->Prop)(a:α)(e:Ending)(w':World):Prop:=
 e=.returned (.int .i64 0)/\∃J',I a J' w'/\(∀k,J' k->J k\/w.heap.size≤k)/\aA J w w'
def CU{α:Type}(I:α->(Nat->Prop)->World->Prop)(f:α->Tr->Nat->α)(P:α->Prop)(S:Kor)(c:Nat)(B:Nat->Prop)(G:Nat)(fr:Array Value):Prop:=
 ∀(a:α) (J:Nat->Prop) (w:World) (pv:Value) (t:Tr) (l:Nat),I a J w->KI w c S B->(∀k,B k->¬J k)->l≤3->(l=0\/t.isHole=true)->Tr.Ok S l t->aJ w J pv t.ptr->P (f a t l)->Calls Tryz.prog G (#[.agg (aH pv t.ptr).toArray,.int .i64 (l:Int)]++fr) w (cN I w J (f a t l))
theorem cN.trans{α:Type}{I:α->(Nat->Prop)->World->Prop}{w w1 w':World}{J J1:Nat->Prop}{a:α}{e:Ending}(h:cN I w1 J1 a e w')(hJ:∀k,J1 k->J k\/w.heap.size≤k)(k:aA J w w1):cN I w J a e w':=by
 obtain⟨h1,J',h2,h3,h4⟩:=h;refine⟨h1,J',h2,fun i hi=>?_,k.trans' h4 (fun _ _ h=>h) fun i hi e=>(hJ i e).elim id fun h=>by omega⟩;rcases h3 i hi with h|h
 ·exact hJ i h
 ·exact .inr (Nat.le_trans k.size h)
structure VCl(w:World)(J:Nat->Prop)(b5 b3 b7 c:Nat)(G:Nat)(fr:Array Value):Prop where
 y:w.heap[b5]?=some (.cells #[.func (.func G) #[] fr] 102 (0,0))
 c:w.heap[b3]?=some (.cells #[.pointer (some ⟨c,0,none⟩)] 36 (0,0))
 d:w.heap[b7]?=some (.cells #[.func (.func 101) #[] #[.pointer (some ⟨b5,0,none⟩),.pointer (some ⟨b3,0,none⟩),.pointer (some ⟨b7,0,none⟩)]] 102 (0,0))
 o5:Off w J b5
 o3:Off w J b3
 o7:Off w J b7
theorem VCl.keep{w w':World}{J J':Nat->Prop}{b5 b3 b7 c G:Nat}{fr:Array Value}(h:VCl w J b5 b3 b7 c G fr)(k:aA J w w')(hJ:∀k,J' k->J k\/w.heap.size≤k):VCl w' J' b5 b3 b7 c G fr:=
 ⟨k.blk h.y h.o5.1,k.blk h.c h.o3.1,k.blk h.d h.o7.1,h.o5.keep k hJ,h.o3.keep k hJ,h.o7.keep k hJ⟩
theorem VCl.keep0{w w':World}{J:Nat->Prop}{b5 b3 b7 c G:Nat}{fr:Array Value}(h:VCl w J b5 b3 b7 c G fr)(k:aA aB w w'):VCl w' J b5 b3 b7 c G fr:=h.keep k.any fun _ h=>.inl h
theorem CV{α:Type}{I:α->(Nat->Prop)->World->Prop}(hI:Yld I){f:α->Tr->Nat->α}{P:α->Prop}(hPm:∀a t l,P (f a t l)->P a){S:Kor}{c:Nat}{B:Nat->Prop}{G:Nat}{fr:Array Value}(eg:∀args w,(callFunc G args).run Tryz.prog w=.ok (.enter G args) w)(hY:CU I f P S c B G fr){b5 b3 b7:Nat}(a:α)(J:Nat->Prop)(w:World)(pv:Value)(t:Tr)(l:Nat)(hi:I a J w)(hK:KI w c S B)(hBJ:∀k,B k->¬J k)(hl:l≤3)(h0:l=0\/t.isHole=true)(ht:Tr.Ok S l t)(hp:aJ w J pv t.ptr)(hv:VCl w J b5 b3 b7 c G fr)(hP:P (f a t l)):Calls Tryz.prog 101 #[.agg (aH pv t.ptr).toArray,.int .i64 (l:Int),.pointer (some ⟨b5,0,none⟩),.pointer (some ⟨b3,0,none⟩),.pointer (some ⟨b7,0,none⟩)] w (cN I w J (f a t l)):=by
 have HYI:=O hI;have HYC:=O hY;have HI:=O hi;have HK:=O hK;have HBJ:=O hBJ;have HT:=O ht;have HV:=O hv;have H0:=O h0;have HPP:=O hP;clear hP hPm;have HPT:=O hp;obtain⟨p,hpe⟩:∃p,t.ptr=p:=⟨_,rfl⟩
 have HPE:=O hpe;rw[hpe] at HPT hp ⊢;obtain⟨pc,HPC,hpc,HOP⟩:=nmPt hp.pt;rw[HPC.out];have HL:=O (Loc.nil aB aB w);have hll:0≤(l:Int):=by omega
 clear hp hpe hi hK hBJ ht hv h0
 by_cases hz:l=0
 ·subst hz
  go_enter Tryz.func101,Tryz.ntmps101
  go_wp2_with ((with_reducible show WL _ _);refine bxL HL 26 (.tmp 0) (pc.toArray) ?_)
  intro b55 w1 hk HL;replace HPT:=O (aJ.keep0 HPT.out hk);replace HK:=O (HK.out.keep0 hk);replace HI:=O (HYI.out.keep _ _ _ _ HI.out hk);replace HV:=O (VCl.keep0 HV.out hk);clear hk;have c1:w1.cell? ⟨b5,0,none⟩=some (.func (.func G) #[] fr):=(aD (i:=0) HV.out.y rfl)
  go_wp2_with ((with_reducible show WL _ _);refine wpList_load_mid rfl 26 (.tmp 5) rfl b55 0 rfl pc _ (aC (HL.out.b 0)) aG rfl (szP9 hpc) ?_)
  clear c1;have HC:=(HYC.out a J w1 pv t 0 HI.out HK.out HBJ.out (by omega) (.inl rfl) HT.out (by rw[HPE.out];exact HPT.out) HPP.out:Calls _ _ _ w1 (cN I w1 J (f a t 0)))
  rw[HPE.out,HPC.out] at HC;refine HC.mono ?_;rintro e w9 hm;have HP:=O (hm.trans (J:=J) (w:=w) (fun k h=>.inl h) HL.out.keep.any);obtain⟨rfl,-⟩:=hm;clear HC HL HPT HK HI HV;go_wp2_with fail;go_ret;exact HP.out
 ·have hz2:((l:Int) == 0)=false:=by rw[beq_eq_false_iff_ne];omega
  have hz3:decide (l=0)=false:=decide_eq_false hz;have HH:Hid (p.hole=true):=O (by rw[←HPE.out,HT.out.hole_eq];exact H0.out.resolve_left hz);clear hz;go_enter Tryz.func101,Tryz.ntmps101
  go_wp2_with ((with_reducible show WL _ _);refine bxL HL 26 (.tmp 0) (pc.toArray) ?_)
  intro b55 w1 hk HL;replace HPT:=O (aJ.keep0 HPT.out hk);replace HK:=O (HK.out.keep0 hk);replace HI:=O (HYI.out.keep _ _ _ _ HI.out hk);replace HV:=O (VCl.keep0 HV.out hk);clear hk
  go_wp2_with ((with_reducible show WL _ _);refine aP (by rfl) 26 (.tmp 5) rfl b55 0 rfl pc _ (aC (HL.out.b 0)) aG rfl (szP9 hpc) ?_)
  refine((by rw[←HPC.out];exact bU w1 pv p HPT.out.pt:Calls _ _ _ w1 (aT w1 p.hole))).mono ?_;rintro e w2 ⟨rfl,hk⟩;replace HL:=O (HL.out.keeps hk);replace HPT:=O (aJ.keep0 HPT.out hk);replace HK:=O (HK.out.keep0 hk);replace HI:=O (HYI.out.keep _ _ _ _ HI.out hk);replace HV:=O (VCl.keep0 HV.out hk);clear hk;rw[HH.out];have c1:w2.cell? ⟨b5,0,none⟩=some (.func (.func G) #[] fr):=(aD (i:=0) HV.out.y rfl)
  go_wp2_with ((with_reducible show WL _ _);refine wpList_load_mid rfl 26 (.tmp 5) rfl b55 0 rfl pc _ (aC (HL.out.b 0)) aG rfl (szP9 hpc) ?_)
  clear c1;have HC:=(HYC.out a J w2 pv t l HI.out HK.out HBJ.out (by omega) H0.out HT.out (by rw[HPE.out];exact HPT.out) HPP.out:Calls _ _ _ w2 (cN I w2 J (f a t l)))
  rw[HPE.out,HPC.out] at HC;refine HC.mono ?_;rintro e w9 hm;have HP:=O (hm.trans (J:=J) (w:=w) (fun k h=>.inl h) HL.out.keep.any);obtain⟨rfl,-⟩:=hm;clear HC HL HPT HK HI HV;go_wp2_with fail;go_ret;exact HP.out
def Kd{α:Type}(I:α->(Nat->Prop)->World->Prop)(w:World)(J:Nat->Prop)(a:α)(w':World):Prop:=∃J',I a J' w'/\(∀k,J' k->J k\/w.heap.size≤k)/\aA J w w'
theorem JI{α:Type}{I:α->(Nat->Prop)->World->Prop}(hI:Yld I){f:α->Tr->Nat->α}{P:α->Prop}(hPm:∀a t l,P (f a t l)->P a){S:Kor}{c:Nat}{B:Nat->Prop}{G:Nat}{fr:Array Value}(eg:∀args w,(callFunc G args).run Tryz.prog w=.ok (.enter G args) w)(hY:CU I f P S c B G fr){b5 b3 b7:Nat}:∀(l:Nat),l≤3->∀(a:α) (J:Nat->Prop) (w:World) (pv:Value) (t:Tr),I a J w->KI w c S B->(∀k,B k->¬J k)->Tr.Ok S l t->aJ w J pv t.ptr->VCl w J b5 b3 b7 c G fr->P (dX f l a t)->Calls Tryz.prog 101 #[.agg (aH pv t.ptr).toArray,.int .i64 (l:Int),.pointer (some ⟨b5,0,none⟩),.pointer (some ⟨b3,0,none⟩),.pointer (some ⟨b7,0,none⟩)] w (cN I w J (dX f l a t)):=by
 intro l
 induction l with
 | zero =>
   intro hl a J w pv t hi hK hBJ ht hp hv hP;rw[AV f ht (.inl rfl)] at hP ⊢;exact CV hI hPm eg hY a J w pv t 0 hi hK hBJ hl (.inl rfl) ht hp hv hP
 | succ l ih =>
   intro hl a J w pv t hi hK hBJ ht hp hv hP;cases hh:t.isHole with
   | true =>
     rw[AV f ht (.inr hh)] at hP ⊢;exact CV hI hPm eg hY a J w pv t (l+1) hi hK hBJ hl (.inr hh) ht hp hv hP
   | false =>
     have hfold:dX f (l+1) a t=oC f l t.kid a 4:=by
      cases t with
      | hole=>cases hh
      | leaf p b=>exact ht.elim
      | node p k=>rfl
     rw[hfold] at hP ⊢;have HPK:=O (fun i (hi:i≤4)=>Eg hPm l t.kid a 4 i hi hP);have HIH:=O (ih (by omega));have HYI:=O hI;have HYC:=O hY;have HI:=O hi;have HK:=O hK;have HBJ:=O hBJ;have HT:=O ht;have HV:=O hv;have HPT:=O hp;have hl2:l≤2:=by omega
     obtain⟨p,hpe⟩:∃p,t.ptr=p:=⟨_,rfl⟩
     have HPE:=O hpe;rw[hpe] at HPT hp ⊢;have HH:Hid (p.hole=false):=O (by rw[←hpe,ht.hole_eq];exact hh);obtain⟨pc,HPC,hpc,HOP⟩:=nmPt hp.pt;rw[HPC.out];have HLX:=O (fun k (e:J k)=>HYI.out.lt _ _ _ _ HI.out e);have HL:=O (Loc.nil aB aB w);have hll:0≤((l+1:Nat):Int):=by omega
     have hl0:(0:Int)≤(l:Int):=by omega
     have hz2:(((l:Int)+1) == 0)=false:=by rw[beq_eq_false_iff_ne];omega
     clear hp hpe hi hK hBJ ht hv hh hfold ih hP hPm;go_enter Tryz.func101,Tryz.ntmps101
     go_wp2_with ((with_reducible show WL _ _);refine bxL HL 26 (.tmp 0) (pc.toArray) ?_)
     intro b55 w1 hk HL;replace HPT:=O (aJ.keep0 HPT.out hk);replace HK:=O (HK.out.keep0 hk);replace HI:=O (HYI.out.keep _ _ _ _ HI.out hk);replace HV:=O (VCl.keep0 HV.out hk);clear hk
     go_wp2_with ((with_reducible show WL _ _);refine aP (by rfl) 26 (.tmp 5) rfl b55 0 rfl pc _ (aC (HL.out.b 0)) aG rfl (szP9 hpc) ?_)
     refine((by rw[←HPC.out];exact bU w1 pv p HPT.out.pt:Calls _ _ _ w1 (aT w1 p.hole))).mono ?_;rintro e w2 ⟨rfl,hk⟩;replace HL:=O (HL.out.keeps hk);replace HPT:=O (aJ.keep0 HPT.out hk);replace HK:=O (HK.out.keep0 hk);replace HI:=O (HYI.out.keep _ _ _ _ HI.out hk);replace HV:=O (VCl.keep0 HV.out hk);clear hk;rw[HH.out];have c1:w2.cell? ⟨b3,0,none⟩=some (.pointer (some ⟨c,0,none⟩)):=(aD (i:=0) HV.out.c rfl)
     go_wp2_with ((with_reducible show WL _ _);refine wpList_load_mid rfl 26 (.tmp 5) rfl b55 0 rfl pc _ (aC (HL.out.b 0)) aG rfl (szP9 hpc) ?_)
     clear c1;have HLW:=O (fun k (e:J k)=>HYI.out.lt _ _ _ _ HI.out e);refine((by rw[←HPC.out,←HPE.out];exact tX HK.out hl2 pv t HT.out (by rw[HPE.out];exact HPT.out.pt):Calls _ _ _ w2 (jL w2 B l t))).mono ?_;rintro e w3 ⟨vs,rfl,hvs,hnew,hk⟩;have HNN:Hid (bZ w3 J vs (fun i=>(t.kid i).ptr)):=O (fun q hq=>⟨(hvs q hq).pt,fun i hi=>⟨fun e=>by have:=hnew q hq i hi;have:=HLW.out i e;omega,((hvs q hq).off i hi).2⟩⟩);have hnn:=dJ ((l+1:Nat):Int) vs hvs.nv;have HOF0:=eE ((l+1:Nat):Int) hvs.nv;obtain⟨nn,hnne⟩:∃x,cF ((l+1:Nat):Int) vs (fun i=>(t.kid i).ptr)=x:=⟨_,rfl⟩
     have HOF:Hid (∀u∈nn,u.oneCell'=true):=O (by rw[←hnne];exact HOF0);have HNF:=O hnne;rw[hnne] at hnn ⊢;clear HOF0 hnne hvs hnew;replace HL:=O (HL.out.keeps hk);replace HPT:=O (aJ.keep0 HPT.out hk);replace HK:=O (HK.out.keep0 hk);replace HI:=O (HYI.out.keep _ _ _ _ HI.out hk);replace HV:=O (VCl.keep0 HV.out hk);clear hk
     go_wp2_with ((with_reducible show WL _ _);refine al 123 (.agg eN.toArray) (eN.toArray) mV ?_)
     intro b8 w4 hbs hk0 hb0_
     go_wp2_with ((with_reducible show WL _ _);refine sta 123 (.tmp 8) (.tmp 26) b8 0 nn hb0_ (by first|decide|(rw[List.size_toArray,hnn];exact Nat.le_refl _)|simp[hnn,cW]) (by rw[hnn];exact eO) HOF.out ?_)
     intro w5 hk hb;rw[aI _ _ (by first|rfl|(rw[List.size_toArray,hnn];rfl)|simp[hnn,cW])] at hb;replace hk:=hk0.trans' hk (U:=aB) (fun _ _ h=>h) (fun i hi e=>by omega);replace HL:=O (HL.out.new (fun _ h=>h.elim) hbs hk hb);replace HPT:=O (aJ.keep0 HPT.out hk);replace HK:=O (HK.out.keep0 hk);replace HI:=O (HYI.out.keep _ _ _ _ HI.out hk);replace HV:=O (VCl.keep0 HV.out hk);replace HNN:=O (bZ.keep0 HNN.out hk);clear hbs hk hb hk0 hb0_;go_wp2_with fail;have HB8:=O (HL.out.b 0);have HG8:=O (HL.out.lt 0);have HJ8:=O (fun k (e:J k)=>HLW.out k e);have HO8:Hid (Off w5 J b8):=O ⟨fun e=>by have:=HLX.out _ e;have:=HG8.out.1;omega,HG8.out.2⟩;have HKW:=O HL.out.keep;obtain⟨W0,hW0⟩:∃W,w5=W:=⟨_,rfl⟩
     rw[hW0] at HI HK HV HNN HB8 HO8 HKW ⊢;clear HL HPT hW0
     go_loopw [9,10] (fun e i wr=>∃k:Nat,k≤4/\i=.int .i64 k/\e=.int .i64 0/\Hid (Kd I W0 J (oC f l t.kid a k) wr)) (fun _ i _=>4-(intOf i).toNat)
     case atStart=>exact⟨0,by omega,rfl,rfl,O ⟨J,HI.out,fun k h=>.inl h,aA.refl _ _⟩⟩
     case round =>
      obtain⟨k,hk,rfl,rfl,HD⟩:=hrel;obtain⟨J2,hi2,hJ2,hk2⟩:=HD.out;have HI2:=O hi2;have HJ2:=O hJ2;have HK2:=O hk2;have HKI2:=O (HK.out.keepT hk2 (fun i e hb=>HBJ.out i hb e));have HBJ2:=O (fun i (hb:B i) (e:J2 i)=>show False from(hJ2 i e).elim (HBJ.out i hb) fun h=>by have:=HK.out.lt hb;omega);have HV2:=O (HV.out.keep hk2 hJ2);have HB82:=O (hk2.blk HB8.out HO8.out.1);have HO82:=O (HO8.out.keep hk2 hJ2);have HNN2:=O (HNN.out.keep hk2 hJ2);clear hi2 hJ2 hk2 HD
      by_cases hk8:k<4
      ·have hk0:(0:Int)≤(k:Int):=by omega
       have hk1:(k:Int)<4:=by omega
       have HQV:=O (HNN2.out k hk8);have hqc:=aL (v:=vs k) HQV.out.pt.sum;have HOQ0:=bD HQV.out.pt;have HX0:=rT HNN2.out.nv (by rw[HNF.out];exact aC HB82.out) hk8;obtain⟨qc,hqce⟩:∃x,aH (vs k) ((t.kid k).ptr)=x:=⟨_,rfl⟩
       have HOQ:Hid (∀u∈qc,u.oneCell'=true):=O (by rw[←hqce];exact HOQ0);have HQC:=O hqce;rw[hqce] at hqc HX0;have HX:=O HX0;have HL:=O (Loc.nil J2 J2 wr);clear hqce HOQ0 HX0;go_wp2_with fail;obtain⟨S,hS0⟩:∃S:World->Prop,S=fun w'=>aA J2 wr.drew w':=⟨_,rfl⟩
       have HSE:=O (show ∀w',S w'->aA J2 wr.drew w' from fun w' h=>by rw[hS0] at h;exact h);have HSI:=O (show ∀w',aA J2 wr.drew w'->S w' from fun w' h=>by rw[hS0];exact h);have hS:S wr.drew:=by rw[hS0];exact aA.refl _ _
       have hkd:=(aA.refl aB wr).drew;clear hS0;refine wp_region_held (S:=S) (by kernel_rfl) ?_;change wpAnyH _ _ _ _ _ _ _ _ wr.drew;generalize wr.drew=w7 at HSE HSI hS hkd ⊢;replace HL:=O (HL.out.keeps hkd);replace HI2:=O (HYI.out.keep _ _ _ _ HI2.out hkd);replace HKI2:=O (HKI2.out.keep0 hkd);replace HV2:=O (VCl.keep0 HV2.out hkd);replace HX:=O (hkd.rangeAt HX.out);replace HQV:=O (aJ.keep0 HQV.out hkd);clear hkd;have HLs:=HL;have HI2s:=HI2;have HKI2s:=HKI2;have HV2s:=HV2;have HXs:=HX;have HQVs:=HQV;refine tnd 0 (.func (.func 101) #[] #[.pointer (some ⟨b5,0,none⟩),.pointer (some ⟨b3,0,none⟩),.pointer (some ⟨b7,0,none⟩)]) rfl (.inl ⟨by rfl,fun w' hw'=>by have c:World.cell? w' ⟨b7,0,none⟩=some (.func (.func 101) #[] #[.pointer (some ⟨b5,0,none⟩),.pointer (some ⟨b3,0,none⟩),.pointer (some ⟨b7,0,none⟩)]):=(HSE.out w' hw').cell (cell_of_one HV2s.out.d) HV2s.out.o7.1;go_simp⟩) hS ?_;refine tna 1 (.int .i64 (k:Int)) rfl hS ?_;refine tnb 2 (.pointer (some ⟨b8,1,none⟩)) rfl hS ?_;refine tnd 3 (.pointer (some ⟨b8,1+k*35,none⟩)) rfl (.inl ⟨by rfl,fun _ _=>by go_simp<;>omega⟩) hS ?_;refine tnd 4 (.agg qc.toArray) rfl (yieldsIf_load_mid (by rfl) 26 (.tmp 39) rfl b8 (1+k*35) rfl qc _ (fun w' h=>(HSE.out w' h).rangeAt2 HXs.out HO82.out.1) aG rfl (szP9 hqc)) hS ?_;refine tna 5 (.int .i64 ((l+1:Nat):Int)) rfl hS ?_;refine tnd 6 (.int .i64 (l:Int)) rfl (.inl ⟨by rfl,fun _ _=>by go_simp;exact IntWalk.i64_in _ (by omega)⟩) hS ?_;refine wA9 7 ?_;go_wp2_with fail;refine((by rw[←HQC.out];exact HIH.out (oC f l t.kid a k) J2 w7 (vs k) (t.kid k) HI2.out HKI2.out HBJ2.out (HT.out.kid hk8) HQV.out HV2.out (HPK.out (k+1) (by omega)):Calls _ _ _ w7 (cN I w7 J2 (dX f l (oC f l t.kid a k) (t.kid k))))).mono ?_;rintro e w8 hm;have hmk:aA J2 w7 w8:=by obtain⟨-,J3,-,-,h⟩:=hm;exact h
       have HM:Hid (cN I wr J2 (oC f l t.kid a (k+1)) e w8):=O (hm.trans (w:=wr) (J:=J2) (fun k h=>.inl h) HL.out.keep);obtain⟨rfl,-⟩:=hm;have hS1:=HSI.out _ ((HSE.out _ hS).trans hmk);clear hS hmk HL HI2 HKI2 HV2 HX HQV;go_wp2_with fail;refine⟨hS1,?_⟩;refine tna 8 (.int .i64 0) rfl hS1 ?_;refine wpAnyH_done (by kernel_rfl) ?_ _;clear hS1 HSE HSI HLs HI2s HKI2s HV2s HXs HQVs
       have HE:Hid (Kd I W0 J (oC f l t.kid a (k+1)) w8):=O (by
        obtain⟨-,J3,h1,h2,h3⟩:=HM.out;exact⟨J3,h1,fun i hi=>(h2 i hi).elim (HJ2.out i) (fun h=>.inr (Nat.le_trans HK2.out.size h)),HK2.out.trans' h3 (fun _ _ h=>h) (fun i hi e=>(HJ2.out i e).elim id fun h=>by omega)⟩)
       clear HM HK2 HJ2 HB82 HNN2;go_wp2_with fail
       go_roundw
       case rel=>exact⟨k+1,by omega,by go_num,rfl,HE⟩
       case measure=>simp[intOf];omega
      ·obtain rfl:k=4:=by omega
       go_wp2_with fail;go_ret;exact⟨rfl,J2,HI2.out,fun i hi=>(HJ2.out i hi).imp id (fun h=>Nat.le_trans HKW.out.size h),HKW.out.any.trans' HK2.out (fun _ _ h=>h) (fun _ _ h=>h)⟩
theorem MO:Hid (∀w,(zeroValue 102).run Tryz.prog w=.ok .nilFunc w):=O fun w=>by kernel_rfl
theorem yG{α:Type}{I:α->(Nat->Prop)->World->Prop}(hI:Yld I){f:α->Tr->Nat->α}{P:α->Prop}(hPm:∀a t l,P (f a t l)->P a){S:Kor}{c:Nat}{B:Nat->Prop}{G:Nat}{fr:Array Value}(eg:∀args w,(callFunc G args).run Tryz.prog w=.ok (.enter G args) w)(hY:CU I f P S c B G fr)(a:α)(J:Nat->Prop)(w:World)(pv:Value)(t:Tr)(hi:I a J w)(hK:KI w c S B)(hBJ:∀k,B k->¬J k)(ht:Tr.Ok S 3 t)(hp:aJ w J pv t.ptr)(hP:P (dX f 3 a t)):Calls Tryz.prog 57 #[.pointer (some ⟨c,0,none⟩),.agg (aH pv t.ptr).toArray,.func (.func G) #[] fr] w (cN I w J (dX f 3 a t)):=by
 have HDN:=O (fun b5 b3 b7=>JI (b5:=b5) (b3:=b3) (b7:=b7) hI hPm eg hY 3 (by omega) a J);have HYI:=O hI;have HI:=O hi;have HK:=O hK;have HBJ:=O hBJ;have HT:=O ht;have HPP:=O hP;have HPT:=O hp;have HLX:=O (fun k (e:J k)=>HYI.out.lt _ _ _ _ HI.out e);obtain⟨p,hpe⟩:∃p,t.ptr=p:=⟨_,rfl⟩
 have HPE:=O hpe;rw[hpe] at HPT hp ⊢;obtain⟨pc,HPC,hpc,HOP⟩:=nmPt hp.pt;rw[HPC.out];have HL:=O (Loc.nil aB aB w);clear hp hpe hi hK hBJ ht hP hPm;have HPT0:=HPT;have HK0:=HK;have HI0:=HI;go_enter Tryz.func57,Tryz.ntmps57
 go_wp2_with ((with_reducible show WL _ _);refine bxL HL 36 (.tmp 0) (#[.pointer (some ⟨c,0,none⟩)]) ?_)
 intro b3 w1 hk HL;replace HPT:=O (aJ.keep0 HPT.out hk);replace HK:=O (HK.out.keep0 hk);replace HI:=O (HYI.out.keep _ _ _ _ HI.out hk);clear hk
 go_wp2_with ((with_reducible show WL _ _);refine bxL HL 26 (.tmp 1) (pc.toArray) ?_)
 intro b4 w2 hk HL;replace HPT:=O (aJ.keep0 HPT.out hk);replace HK:=O (HK.out.keep0 hk);replace HI:=O (HYI.out.keep _ _ _ _ HI.out hk);clear hk
 go_wp2_with ((with_reducible show WL _ _);refine bxL HL 102 (.tmp 2) (#[.func (.func G) #[] fr]) ?_)
 intro b5 w3 hk HL;replace HPT:=O (aJ.keep0 HPT.out hk);replace HK:=O (HK.out.keep0 hk);replace HI:=O (HYI.out.keep _ _ _ _ HI.out hk);clear hk
 go_wp2_with ((with_reducible show WL _ _);refine alL HL 102 (.nilFunc) (#[.nilFunc]) MO ?_)
 intro b7 w4 hk HL;replace HPT:=O (aJ.keep0 HPT.out hk);replace HK:=O (HK.out.keep0 hk);replace HI:=O (HYI.out.keep _ _ _ _ HI.out hk);clear hk
 go_wp2_with ((with_reducible show WL _ _);refine sta 102 (.tmp 7) (.tmp 8) b7 0 ([.func (.func 101) #[] #[.pointer (some ⟨b5,0,none⟩),.pointer (some ⟨b3,0,none⟩),.pointer (some ⟨b7,0,none⟩)]]) (HL.out.b 0) (by simp) (by kernel_rfl) (one9) ?_)
 intro w5 hk hb;replace hb:w5.heap[b7]?=some (.cells #[.func (.func 101) #[] #[.pointer (some ⟨b5,0,none⟩),.pointer (some ⟨b3,0,none⟩),.pointer (some ⟨b7,0,none⟩)]] 102 (0,0)):=hb;replace HL:=O (HL.out.set 0 hk hb);replace HPT:=O (aJ.keep0 HPT0.out HL.out.keep);replace HK:=O (HK0.out.keep0 HL.out.keep);replace HI:=O (HYI.out.keep _ _ _ _ HI0.out HL.out.keep);clear hk hb;have HV:=O (VCl.mk (J:=J) (HL.out.b 1) (HL.out.b 3) (HL.out.b 0) ⟨fun e=>by have:=HLX.out _ e;have:=(HL.out.lt 1).1;omega,(HL.out.lt 1).2⟩ ⟨fun e=>by have:=HLX.out _ e;have:=(HL.out.lt 3).1;omega,(HL.out.lt 3).2⟩ ⟨fun e=>by have:=HLX.out _ e;have:=(HL.out.lt 0).1;omega,(HL.out.lt 0).2⟩:VCl w5 J b5 b3 b7 c G fr);have HB7:=O (cell_of_one (HL.out.b 0));have c1:w5.cell? ⟨b7,0,none⟩=some (.func (.func 101) #[] #[.pointer (some ⟨b5,0,none⟩),.pointer (some ⟨b3,0,none⟩),.pointer (some ⟨b7,0,none⟩)]):=HB7.out
 go_wp2_with ((with_reducible show WL _ _);refine wpList_load_mid rfl 26 (.tmp 4) rfl b4 0 rfl pc _ (aC (HL.out.b 2)) aG rfl (szP9 hpc) ?_)
 clear c1;have HC:=(HDN.out b5 b3 b7 w5 pv t HI.out HK.out HBJ.out HT.out (by rw[HPE.out];exact HPT.out) HV.out HPP.out:Calls _ _ _ w5 (cN I w5 J (dX f 3 a t)))
 rw[HPE.out,HPC.out] at HC;refine HC.mono ?_;rintro e w9 hm;have HP:=O (hm.trans (J:=J) (w:=w) (fun k h=>.inl h) HL.out.keep.any);obtain⟨rfl,-⟩:=hm;clear HC HL HPT HK HI HV HB7;go_wp2_with fail;go_ret;exact HP.out
def FA(bn:Nat)(a:Nat)(J:Nat->Prop)(w:World):Prop:=w.heap[bn]?=some (.cells #[.int .i64 (a:Int)] 3 (0,0))/\J=fun k=>k=bn
def kQ(a:Nat)(t:Tr)(l:Nat):Nat:=if t.isHole then a else a+1
theorem Lj(bn:Nat):Yld (FA bn):=⟨fun a J w w' h k=>⟨k.blk h.1 id,h.2⟩,fun a J w k h hk=>by obtain⟨h1,rfl⟩:=h;rw[show k=bn from hk];exact lt_of_block h1⟩
theorem JJ:∀a t l,(fun a=>a≤1000) (kQ a t l)->(fun a=>a≤1000) a:=fun a t l h=>by
 unfold kQ at h;show a≤1000;have h:(if t.isHole then a else a+1)≤1000:=h;split at h<;>omega
theorem lX{S:Kor}:∀{l:Nat}{t:Tr},Tr.Ok S l t->∀a,dX kQ l a t=a+t.many l
 | 0,.hole,h,a=>rfl
 | l+1,.hole,h,a=>rfl
 | 0,.leaf p b,h,a=>rfl
 | 0,.node p k,h,a=>h.elim
 | l+1,.leaf p b,h,a=>h.elim
 | l+1,.node p k,h,a=>by
   show dX kQ l (dX kQ l (dX kQ l (dX kQ l a (k 0)) (k 1)) (k 2)) (k 3)=a+((k 0).many l+(k 1).many l+(k 2).many l+(k 3).many l);rw[lX (h.2.1 0 (by omega)),lX (h.2.1 1 (by omega)),lX (h.2.1 2 (by omega)),lX (h.2.1 3 (by omega))];omega
theorem Ht(S:Kor)(c:Nat)(B:Nat->Prop)(bn:Nat):CU (FA bn) kQ (fun a=>a≤1000) S c B 59 #[.pointer (some ⟨bn,0,none⟩)]:=by
 intro a J w pv t l hi hK hBJ hl h0 ht hp hP;obtain⟨hb,rfl⟩:=hi;have HHE:=O ht.hole_eq;have HBN:=O hb;have HNB:=O hp.off;have HPT:Hid (PtV w pv t.ptr):=O hp.pt;obtain⟨p,hpe⟩:∃p,t.ptr=p:=⟨_,rfl⟩
 have HPE:=O hpe;rw[hpe] at HPT hp HHE ⊢;obtain⟨pc,HPC,hpc,HOP⟩:=nmPt hp.pt;rw[HPC.out];have HL:=O (Loc.nil aB aB w);have hbl:=lt_of_block hb;have HBL:=O hbl;clear hp hpe hb hbl hK hBJ ht h0;cases hh:t.isHole with
 | true =>
   rw[hh] at HHE;have HF:Hid (kQ a t l=a):=O (by unfold kQ;rw[hh];rfl);clear hh hP;have HPT0:=HPT;have HBN0:=HBN;go_enter Tryz.func59,Tryz.ntmps59
   go_wp2_with ((with_reducible show WL _ _);refine bxL HL 26 (.tmp 0) (pc.toArray) ?_)
   intro b3 w1 hk HL;replace HPT:=O (HPT.out.keep hk fun _ _=>id);replace HBN:=O (hk.blk HBN.out id);clear hk
   go_wp2_with ((with_reducible show WL _ _);refine wpList_load_mid rfl 26 (.tmp 3) rfl b3 0 rfl pc _ (aC (HL.out.b 0)) aG rfl (szP9 hpc) ?_)
   refine((by rw[←HPC.out];exact bU w1 pv p HPT.out:Calls _ _ _ w1 (aT w1 p.hole))).mono ?_;rintro e w2 ⟨rfl,hk⟩;replace HL:=O (HL.out.keeps hk);replace HPT:=O (HPT.out.keep hk fun _ _=>id);replace HBN:=O (hk.blk HBN.out id);clear hk;rw[HHE.out];go_wp2_with fail;go_ret;exact⟨rfl,_,⟨by rw[HF.out];exact HBN.out,rfl⟩,fun k h=>.inl h,HL.out.keep.any⟩
 | false =>
   rw[hh] at HHE;have HF:Hid (kQ a t l=a+1):=O (by unfold kQ;rw[hh];rfl);have hP2:a+1≤1000:=by rw[←HF.out];exact hP
   have ha0:(0:Int)≤(a:Int):=by omega
   have ha1:(a:Int)≤1000:=by omega
   clear hh hP;have HPT0:=HPT;have HBN0:=HBN;go_enter Tryz.func59,Tryz.ntmps59
   go_wp2_with ((with_reducible show WL _ _);refine bxL HL 26 (.tmp 0) (pc.toArray) ?_)
   intro b3 w1 hk HL;replace HPT:=O (HPT.out.keep hk fun _ _=>id);replace HBN:=O (hk.blk HBN.out id);clear hk
   go_wp2_with ((with_reducible show WL _ _);refine wpList_load_mid rfl 26 (.tmp 3) rfl b3 0 rfl pc _ (aC (HL.out.b 0)) aG rfl (szP9 hpc) ?_)
   refine((by rw[←HPC.out];exact bU w1 pv p HPT.out:Calls _ _ _ w1 (aT w1 p.hole))).mono ?_;rintro e w2 ⟨rfl,hk⟩;replace HL:=O (HL.out.keeps hk);replace HPT:=O (HPT.out.keep hk fun _ _=>id);replace HBN:=O (hk.blk HBN.out id);clear hk;rw[HHE.out];have HKW:=O HL.out.keep;have c1:w2.cell? ⟨bn,0,none⟩=some (.int .i64 (a:Int)):=(cell_of_one HBN.out)
   go_wp2_with ((with_reducible show WL _ _);refine sta 3 (.tmp 2) (.tmp 10) bn 0 [.int .i64 ((a:Int)+1)] HBN.out (by simp) (by kernel_rfl) (one9) ?_)
   clear c1;intro w9 hk hb;replace hb:w9.heap[bn]?=some (.cells #[.int .i64 ((a+1:Nat):Int)] 3 (0,0)):=hb;have HP:Hid (cN (FA bn) w (fun k=>k=bn) (kQ a t l) (.returned (.int .i64 0)) w9):=O ⟨rfl,_,⟨by rw[HF.out];exact hb,rfl⟩,fun k h=>.inl h,HKW.out.any.trans hk⟩;clear hk hb HL HPT HBN;go_wp2_with fail;go_ret;exact HP.out
def tY(w:World)(t:Tr)(e:Ending)(w':World):Prop:=e=.returned (.tuple #[.int .i64 (t.many 3:Int),.int .i64 0])/\aA aB w w'
theorem Lk{S:Kor}{l:Nat}{t:Tr}(h:Tr.Ok S l t):t.many l≤4 ^ l:=by
 rw[←h.many_eq,←h.blocks_len];exact List.countP_le_length
theorem AW{w:World}{c:Nat}{S:Kor}{B:Nat->Prop}(hK:KI w c S B)(pv:Value)(t:Tr)(ht:Tr.Ok S 3 t)(hp:aJ w B pv t.ptr):Calls Tryz.prog 17 #[.pointer (some ⟨c,0,none⟩),.agg (aH pv t.ptr).toArray] w (tY w t):=by
 have HT:=O ht;have HPT:=O hp;have HK:=O hK;have HM:=O (Lk ht);have HBLT:=O (fun i (e:B i)=>hK.lt e);obtain⟨p,hpe⟩:∃p,t.ptr=p:=⟨_,rfl⟩
 have HPE:=O hpe;rw[hpe] at HPT hp ⊢;obtain⟨pc,HPC,hpc,HOP⟩:=nmPt hp.pt;rw[HPC.out];have HL:=O (Loc.nil aB aB w);clear hp ht hK hpe;have HPT0:=HPT;have HK0:=HK;go_enter Tryz.func17,Tryz.ntmps17
 go_wp2_with ((with_reducible show WL _ _);refine bxL HL 26 (.tmp 1) (pc.toArray) ?_)
 intro b3 w1 hk HL;replace HPT:=O (aJ.keep0 HPT.out hk);replace HK:=O (HK.out.keep0 hk);clear hk
 go_wp2_with ((with_reducible show WL _ _);refine wpList_load_mid rfl 26 (.tmp 3) rfl b3 0 rfl pc _ (aC (HL.out.b 0)) aG rfl (szP9 hpc) ?_)
 refine((by rw[←HPC.out];exact fV HK.out pv p HPT.out.pt (by rw[←HPE.out];exact HT.out.root):Calls _ _ _ w1 (aK w1 (.int .i64 0)))).mono ?_;rintro e w2 ⟨rfl,hk⟩;replace HL:=O (HL.out.keeps hk);replace HPT:=O (aJ.keep0 HPT.out hk);replace HK:=O (HK.out.keep0 hk);clear hk
 go_wp2_with ((with_reducible show WL _ _);refine al 3 (.int .i64 0) (#[.int .i64 0]) Mk ?_)
 intro b7 w3 hbs hk0 hb0_
 go_wp2_with ((with_reducible show WL _ _);refine sta 3 (.tmp 7) (.const (.int .i64 0)) b7 0 ([.int .i64 0]) hb0_ (by first|decide|(rw[List.size_toArray,rfl];exact Nat.le_refl _)|simp[]) (by kernel_rfl) (one9) ?_)
 intro w4 hk hb;replace hb:w4.heap[b7]?=some (.cells #[.int .i64 0] 3 (0,0)):=hb;replace hk:=hk0.trans' hk (U:=aB) (fun _ _ h=>h) (fun i hi e=>by omega);replace HL:=O (HL.out.new (fun _ h=>h.elim) hbs hk hb);replace HPT:=O (aJ.keep0 HPT.out hk);replace HK:=O (HK.out.keep0 hk);clear hbs hk hb hk0 hb0_;have HB7:=O (HL.out.b 0);have HG7:=O (HL.out.lt 0);have HKW:=O HL.out.keep;have HOFF:Hid (∀i,pv.ownBlock=some i->i<w.heap.size):=O (fun i hi=>(HPT0.out.off i hi).2.lt)
 go_wp2_with ((with_reducible show WL _ _);refine wpList_load_mid rfl 26 (.tmp 3) rfl b3 0 rfl pc _ (aC (HL.out.b 1)) aG rfl (szP9 hpc) ?_)
 have HC:=(yG (Lj b7) JJ (enters_of Tryz.func59 (by kernel_rfl) rfl) (Ht S c B b7) 0 (fun k=>k=b7) w4 pv t ⟨HB7.out,rfl⟩ HK.out (fun i e e2=>by have:=HBLT.out i e;have:=HG7.out.1;omega) HT.out ⟨by rw[HPE.out];exact HPT.out.pt,fun i hi=>⟨fun e=>by have:=HOFF.out i hi;have:=HG7.out.1;omega,(HPT.out.off i hi).2⟩⟩ (by show dX kQ 3 0 t≤1000;rw[lX HT.out];have:=HM.out;omega):Calls _ _ _ w4 (cN (FA b7) w4 (fun k=>k=b7) (dX kQ 3 0 t)))
 rw[HPE.out,HPC.out,lX HT.out,Nat.zero_add] at HC;refine HC.mono ?_;rintro e w9 ⟨rfl,J',⟨hb,-⟩,-,hk⟩;have c1:=cell_of_one hb;have HKX:Hid (aA aB w w9):=O (HKW.out.trans' hk (fun _ _ h=>h) (fun i hi e=>by have:=HG7.out.1;omega));clear hb hk HC HL HPT HK HB7;go_wp2_with fail
 go_ret2
 exact⟨rfl,HKX.out⟩
def Bz(sc:Nat->List Value)(k:Nat):Array Value:=#[.int .i64 ((2-k:Nat):Int),.agg (sc (2-k)).toArray]
theorem FB(n:Nat){w:World}{Res:Nat->Prop}{B1 g cap:Nat}(sc:Nat->List Value)(hsc:∀x,x<3->(sc x).length=177)(hcap:3≤cap)(hB:w.heap[B1]?=some (.cells #[.slice (some ⟨g,0,none⟩) 3 cap] 112 (0,0)))(hx:∀x,x<3->w.rangeAt g (x*177) (sc x)){cur:Array Value}(hg:w.heap[g]?=some (.cells cur 125 (0,0)))(hR1:¬Res B1)(hRg:¬Res g) :
 ∀(l:Nat) (J:Nat->World->Prop) (Jx:World->Prop) (W:World),aA aB w W->J 0 W ->
  (∀k W1,k<3->J k W1->YieldAt Fence.wide (n-1) Tryz.prog l (Bz sc k) W1 fun e W'=>(e=.returned (.bool true)/\J (k+1) W'/\KpC Res W1 W')\/(e=.returned (.bool false)/\Jx W')) ->
  CallsIn Fence.wide n Tryz.prog 97 (#[.func (.yield l) #[] #[]]++#[.pointer (some ⟨B1,0,none⟩)]) W fun e W'=>(∃v,e=.returned v)/\(J 3 W'\/Jx W'):=by
 intro l J Jx W hkW hJ0 hY;have HS:=O (And.intro (hkW.blk hB id) (hkW.blk hg id))
 have HXR:Hid (∀W':World,W'.heap[g]?=some (.cells cur 125 (0,0))->∀x,x<3->W'.rangeAt g (x*177) (sc x)):=O fun W' h x hx3 j v hj =>
  (World.cell?_of_block (w:=w) (w':=W') (a:=⟨g,x*177+j,none⟩) (h.trans hg.symm)).trans (hx x hx3 j v hj)
 have HSC:=O hsc;have HYY:=O hY;have c0:=cell_of_one HS.out.1;clear hB hx hg hsc hY hkW;refine callsIn_of_wp Tryz.func97 rfl trivial ?_ rfl;simp only[Tryz.ntmps97,List.size_toArray,List.length_cons,List.length_nil,Nat.reduceAdd,Nat.reduceSub,Array.replicate_succ,Array.replicate_zero,List.push_toArray,List.append_toArray,List.nil_append,List.cons_append]
 gi_wp2
 clear c0
 gi_loopw [3] (fun i wr=>∃k:Nat,((k=3/\i=.int .i64 (-1))\/∃y:Nat,k+y=2/\i=.int .i64 (y:Int))/\J k wr/\Hid (wr.heap[B1]?=some (.cells #[.slice (some ⟨g,0,none⟩) 3 cap] 112 (0,0))/\wr.heap[g]?=some (.cells cur 125 (0,0)))) (fun i _=>(intOf i+1).toNat)
 case atStart=>exact⟨0,.inr ⟨2,rfl,rfl⟩,hJ0,HS⟩
 case round =>
  obtain⟨k,(⟨rfl,rfl⟩|⟨y,hky,rfl⟩),hJ,hH⟩:=hrel
  ·gi_wp2
   go_end0
   exact⟨⟨_,rfl⟩,.inl hJ⟩
  ·have e1:(y:Int)<3:=by omega
   have hb0:(0:Int)≤(y:Int):=by omega
   have hcy:(y:Int)<(cap:Int):=by omega
   have e2:2-k=y:=by omega
   have hYk:=HYY.out k wr (by omega) hJ;unfold Bz at hYk;rw[e2] at hYk;have hxy:=HXR.out wr hH.out.2 y (by omega);have hsy:=HSC.out y (by omega);have ck:=cell_of_one hH.out.1;obtain⟨sy,hsye⟩:∃l,sc y=l:=⟨_,rfl⟩
   rw[hsye] at hYk hxy hsy;obtain⟨fn,tmps,assign,body,hy,hR⟩:=hYk;clear e2 hsye
   gi_wp2_with (first
    | (refine jW rfl 125 (.tmp 15) rfl g (y*177) rfl sy _ hxy Tryz.underlying125 rfl (by rw[hsy];exact qQ) ?_)
    | gi_in)
   refine⟨fun h=>by simp[Fence.wide] at h,hR.mono ?_⟩;rintro e W3 (⟨rfl,hJ3,hk3⟩|⟨rfl,hJx3⟩)
   ·have hH3:Hid (W3.heap[B1]?=some (.cells #[.slice (some ⟨g,0,none⟩) 3 cap] 112 (0,0))/\W3.heap[g]?=some (.cells cur 125 (0,0))):=O ⟨hk3 _ _ _ _ hR1 hH.out.1,hk3 _ _ _ _ hRg hH.out.2⟩
    have hJ4:=O hJ3;clear hJ3 hk3 hJ hR hy hH ck hxy
    gi_wp2
    rcases y with _|y
    ·go_roundw
     case rel=>exact⟨k+1,.inl ⟨by omega,rfl⟩,hJ4.out,hH3⟩
     case measure=>simp[intOf]
    ·go_roundw
     case rel=>exact⟨k+1,.inr ⟨y,by omega,by first|rfl|go_num|(congr 1;omega)⟩,hJ4.out,hH3⟩
     case measure=>simp[intOf];omega
   ·gi_wp2
    refine bodyPost_ret (results_none rfl _ _ _) rfl ?_;exact⟨⟨_,rfl⟩,.inr hJx3⟩
theorem JK(v:Value)(w:World)(hv:∃a n c,v=.slice a n c) :
 Calls Tryz.prog 52 #[v] w fun e w'=>∃B1,e=.returned (.func (.func 97) #[] #[.pointer (some ⟨B1,0,none⟩)])/\w'.heap[B1]?=some (.cells #[v] 112 (0,0))/\w.heap.size=B1/\aA aB w w':=by
 obtain⟨a,n,c,rfl⟩:=hv;go_enter Tryz.func52,Tryz.ntmps52
 go_wp2_with ((with_reducible show WL (some 1) (.box 112 _));refine bx 112 (.tmp 0) #[.slice a n c] ?_)
 intro B1 w1 hbs hk hb;have HP:=O (And.intro hb (And.intro hbs hk));clear hbs hk hb;go_wp2_with fail;go_ret;exact⟨B1,rfl,HP.out.1,HP.out.2.1,HP.out.2.2⟩
def lY(S:Kor)(t:Tr)(n:Nat)(bs:List UInt8):Option Tr×Kor:=if t.blk 3 n=bs then (some t,S) else fP 3 S t n bs
theorem CW(S:Kor)(t:Tr)(n:Nat)(bs:List UInt8){k y:Nat}(h:k+y=2):fP (k+1) S (aX n t y) n bs=match fP k S (aX n t (y+1)) n bs with
 | (none,T)=>(none,T)
 | (some u,T)=>T.lay (k+1) (eH (aX n t y).kid (n / 4 ^ k % 4) u):=by
 have e:aX n t (y+1)=(aX n t y).kid (n / 4 ^ k % 4):=by
  show (aX n t y).kid (n / 4 ^ (2-y) % 4)=_;rw[show 2-y=k by omega]
 rw[e];rfl
theorem AX{S:Kor}{t:Tr}{n:Nat}{bs:List UInt8}{T:Kor}:∀{y k:Nat},k+y=3->fP k S (aX n t y) n bs=(none,T)->fP 3 S t n bs=(none,T)
 | 0,k,h,e=>by
   have hk:k=3:=by omega
   subst hk;exact e
 | y+1,k,h,e=>AX (y:=y) (k:=k+1) (by omega) (by rw[CW S t n bs (k:=k) (y:=y) (by omega),e])
theorem Eh{S:Kor}(hb:S.Bd){t:Tr}(ht:Tr.Ok S 3 t){n:Nat}{bs:List UInt8}(hbl:bs.length=256)(hne:¬t.blk 3 n=bs){k y:Nat}(h:k+y=3){u:Tr}{T:Kor}(e:fP k S (aX n t y) n bs=(some u,T)) :
 Beh S T/\Tr.Ok T k u/\u.ptr.eqB (aX n t y).ptr=false:=by
 have hO:Tr.Ok S k (aX n t y):=by
  have:=iA (n:=n) ht y (by omega)
  rwa [show 3-y=k by omega] at this
 obtain⟨h1,h2⟩:=zJ hbl n (by omega) hb hO e;obtain⟨h3,h4,h5⟩:=h2 u rfl;have hu:u.blk k n=bs:=by rw[h4,if_pos rfl]
 have hp:∀x j,x+j=3->t.blk 3 n=(aX n t x).blk j n:=by
  intro x
  induction x with
  | zero =>
     intro j hj;obtain rfl:j=3:=by omega
     rfl
  | succ x ih =>
    intro j hj;have hx:=iA (n:=n) ht x (by omega);rw[show 3-x=j+1 by omega] at hx;rw[ih (j+1) (by omega),hx.blk_succ];show _=((aX n t x).kid (n / 4 ^ (2-x) % 4)).blk j n;rw[show 2-x=j by omega]
 have hq:=hp y k (by omega);refine⟨h1,h3,?_⟩;cases hh:(aX n t y).isHole with
 | false=>exact Fr.ne hO hh h5
 | true =>
   have ey:=fK hh;rw[ey,Tr.blk_hole] at hq;rw[ey];refine Fr.ne_hole (S:=S) h3 ?_;cases hu2:u.isHole with
   | false=>rfl
   | true =>
     rw[fK hu2,Tr.blk_hole] at hu;rw[←hu] at hne;exact absurd hq hne
theorem CX(k:Nat->Tr)(d:Nat)(u:Tr):fD (fun i=>(k i).ptr) d u.ptr=fun i=>(eH k d u i).ptr:=by
 funext i
 unfold fD eH
 by_cases e:i=d
 ·rw[if_pos e,if_pos e]
 ·rw[if_neg e,if_neg e]
theorem Ll{S T:Kor}{l:Nat}{k:Nat->Tr}{d:Nat}{u:Tr}(hk:∀i,i<4->Tr.Ok S l (k i))(e:Ext S T)(hu:Tr.Ok T l u):∀i,i<4->Tr.Ok T l (eH k d u i):=fun i hi=>by
 by_cases h:i=d
 ·rw[h,jT];exact hu
 ·rw[jU _ _ h];exact(hk i hi).ext e
abbrev FC:TypeId:=46
abbrev FD:TypeId:=26
def rW(W0:World)(b8 b9 b10 b12 c:Nat)(S:Kor)(B0:Nat->Prop)(n:Nat)(t:Tr)(bs:List UInt8)(k:Nat)(W:World):Prop:=
 ∃y v B',k+y=3/\W.heap[b12]?=some (.cells (aH v (cI (fP k S (aX n t y) n bs).1)).toArray FD (0,0)) /\
  W.heap[b10]?=some (.cells #[.int .i64 (dZ (fP k S (aX n t y) n bs).1)] FC (0,0)) /\
  aJ W B' v (cI (fP k S (aX n t y) n bs).1)/\(∀i,v.ownBlock=some i->i≠b8/\i≠b9/\i≠b10/\i≠b12) /\
  KI W c (fP k S (aX n t y) n bs).2 B'/\(∀i,B' i->B0 i\/W0.heap.size≤i)/\(∀i,B' i->IsC W i\/i<W0.heap.size/\B0 i/\¬IsC W0 i) /\
  aA (fun i=>B0 i\/i=b10\/i=b12) W0 W
def CY(W0:World)(b8 b9 b10 b12 c:Nat)(S:Kor)(B0:Nat->Prop)(n:Nat)(t:Tr)(bs:List UInt8)(W:World):Prop:=
 ∃T B',fP 3 S t n bs=(none,T)/\W.heap[b8]?=some (.cells aF.toArray FD (0,0))/\W.heap[b9]?=some (.cells #[.int .i64 15] FC (0,0)) /\
  KI W c T B'/\(∀i,B' i->B0 i\/W0.heap.size≤i)/\(∀i,B' i->IsC W i\/i<W0.heap.size/\B0 i/\¬IsC W0 i)/\aA (fun i=>B0 i\/i=b8\/i=b9\/i=b10\/i=b12) W0 W
theorem mH{W:World}{l:Nat}{o:Obj}(ho:W.heap[l]?=some o)(hc:o.isCells=false){i:Nat}(h:IsC W i):¬(some l=some i):=fun e=>by
 obtain⟨cs,t,h⟩:=h;injection e with e
 rw[←e,ho] at h;injection h with h
 rw[h] at hc;cases hc
theorem rW.put{W0 W:World}{b8 b9 b10 b12 c:Nat}{S:Kor}{B0:Nat->Prop}{n:Nat}{t:Tr}{bs:List UInt8}{k l:Nat}{o:Obj}(h:rW W0 b8 b9 b10 b12 c S B0 n t bs k W)(hl:W0.heap.size≤l)(ho:W.heap[l]?=some o)(hc:o.isCells=false)(o':Obj):rW W0 b8 b9 b10 b12 c S B0 n t bs k (W.putObj l o'):=by
 obtain⟨y,v,B',h1,h2,h3,h4,h5,h6,h7,h8,h9⟩:=h;have kd:=aA.of_grown (grownBy_putObj' W l o');have no:=fun {i:Nat}(h:IsC W i)=>mH ho hc h
 refine⟨y,v,B',h1,kd.blk h2 (no ⟨_,_,h2⟩),kd.blk h3 (no ⟨_,_,h3⟩),h4.keepT kd (fun i hi=>no (h4.off i hi).2),h5,h6.keepT kd (fun i e hb=>?_),h7,fun i hb=>?_,h9.trans' kd (fun _ _ h=>h) (fun i hi e=>by injection e with e;omega)⟩
 ·rcases h8 i hb with h|h
  ·exact no h e
  ·have:=h.1;injection e with e;omega
 ·rcases h8 i hb with h|h
  ·exact .inl (h.keep kd (no h))
  ·exact .inr h
theorem CY.put{W0 W:World}{b8 b9 b10 b12 c:Nat}{S:Kor}{B0:Nat->Prop}{n:Nat}{t:Tr}{bs:List UInt8}{l:Nat}{o:Obj}(h:CY W0 b8 b9 b10 b12 c S B0 n t bs W)(hl:W0.heap.size≤l)(ho:W.heap[l]?=some o)(hc:o.isCells=false)(o':Obj):CY W0 b8 b9 b10 b12 c S B0 n t bs (W.putObj l o'):=by
 obtain⟨T,B',h1,h2,h3,h6,h7,h8,h9⟩:=h;have kd:=aA.of_grown (grownBy_putObj' W l o');have no:=fun {i:Nat}(h:IsC W i)=>mH ho hc h
 refine⟨T,B',h1,kd.blk h2 (no ⟨_,_,h2⟩),kd.blk h3 (no ⟨_,_,h3⟩),h6.keepT kd (fun i e hb=>?_),h7,fun i hb=>?_,h9.trans' kd (fun _ _ h=>h) (fun i hi e=>by injection e with e;omega)⟩
 ·rcases h8 i hb with h|h
  ·exact no h e
  ·have:=h.1;injection e with e;omega
 ·rcases h8 i hb with h|h
  ·exact .inl (h.keep kd (no h))
  ·exact .inr h
theorem rW.keep0{W0 W W':World}{b8 b9 b10 b12 c:Nat}{S:Kor}{B0:Nat->Prop}{n:Nat}{t:Tr}{bs:List UInt8}{k:Nat}(h:rW W0 b8 b9 b10 b12 c S B0 n t bs k W)(kp:aA aB W W'):rW W0 b8 b9 b10 b12 c S B0 n t bs k W':=by
 obtain⟨y,v,B',h1,h2,h3,h4,h5,h6,h7,h8,h9⟩:=h;exact⟨y,v,B',h1,kp.blk h2 id,kp.blk h3 id,h4.keep0 kp,h5,h6.keep0 kp,h7,fun i hb=>(h8 i hb).imp (fun h=>h.keep kp id) id,h9.trans kp.any⟩
open Go.RowKit Go.Maps Go.ChangeMaps
set_option maxRecDepth 100000
theorem Tr.Ok.blk_len{S:Kor}:∀{l:Nat}{t:Tr},Tr.Ok S l t->∀(i:Nat),(t.blk l i).length=256
 | l,.hole,h,i=>by rw[Tr.blk_hole];exact Hl
 | 0,.leaf p b,h,i=>h.1.len
 | 0,.node p k,h,i=>h.elim
 | l+1,.leaf p b,h,i=>h.elim
 | l+1,.node p k,h,i=>(h.2.1 _ (gO i l)).blk_len i
theorem Loc.wide{S B:Nat->Prop}{w0 w:World}{l:List (Nat×Array Value×TypeId)}(h:Loc aB aB w0 w l)(hB:∀k,B k->k<w0.heap.size):Loc S B w0 w l:=
 ⟨h.keep.any,h.ge,h.nd,h.at_,fun x hx e=>by have:=h.ge x hx;have:=hB _ e;omega⟩
structure L3(a b N:Nat)(k:Nat)(sv:Value)(pvs:Nat->Value)(vss:Nat->Nat->Value):Prop where
 sv:∀i,sv.ownBlock=some i->(i<a\/b≤i)/\i<N
 pvs:∀j,j<k->∀i,(pvs j).ownBlock=some i->(i<a\/b≤i)/\i<N
 vss:∀j,j<k->∀q,q<4->∀i,(vss j q).ownBlock=some i->(i<a\/b≤i)/\i<N
theorem cG.zone{w w0 w':World}{B:Nat->Prop}{M:Nat}{pv0:Value}{n:Nat}{t:Tr}{k:Nat}{sv:Value}{pvs:Nat->Value}{vss:Nat->Nat->Value}(h:cG w0 w' B M pv0 n t k sv pvs vss)(hM:w0.heap.size≤M)(h0:∀i,pv0.ownBlock=some i->i<w.heap.size):L3 w.heap.size w0.heap.size w'.heap.size k sv pvs vss:=by
 refine⟨fun i hi=>⟨.inr (bA h.row hi),?_⟩,fun j hj i hi=>⟨?_,((h.pvs j hj).1.off i hi).2.lt⟩,fun j hj q hq i hi=>⟨.inr (Nat.le_trans hM (((h.vss j hj).2 q hq).2 i hi)),(((h.vss j hj).1 q hq).off i hi).2.lt⟩⟩
 ·obtain⟨cur,hc⟩:=aN h.row hi
  exact lt_of_block hc
 ·rcases (h.pvs j hj).2.2 with e|e
  ·exact .inl (h0 i (e▸hi))
  ·exact .inr (Nat.le_trans hM (e i hi))
theorem cG.keepZ{T:Nat->Prop}{a b N:Nat}{w w0 w':World}{B:Nat->Prop}{M:Nat}{pv0:Value}{n:Nat}{t:Tr}{k:Nat}{sv:Value}{pvs:Nat->Value}{vss:Nat->Nat->Value}(h:cG w0 w B M pv0 n t k sv pvs vss)(z:L3 a b N k sv pvs vss)(kp:aA T w w')(hT:∀i,T i->(a≤i/\i<b)\/N≤i):cG w0 w' B M pv0 n t k sv pvs vss:=by
 have no:∀i,(i<a\/b≤i)/\i<N->¬T i:=fun i h e=>by rcases hT i e with h2|h2<;>omega
 exact⟨kp.owns h.row fun i hi=>no i (z.sv i hi),fun j hj=>⟨(h.pvs j hj).1.keepT kp fun i hi=>no i (z.pvs j hj i hi),(h.pvs j hj).2⟩,fun j hj=>⟨fun q hq=>((h.vss j hj).1 q hq).keepT kp fun i hi=>no i (z.vss j hj q hq i hi),(h.vss j hj).2⟩⟩
theorem cG.toB{w w0 w':World}{B B':Nat->Prop}{M:Nat}{pv0:Value}{n:Nat}{t:Tr}{k:Nat}{sv:Value}{pvs:Nat->Value}{vss:Nat->Nat->Value}(h:cG w0 w B M pv0 n t k sv pvs vss)(kp:aA B w w')(hB:∀i,B' i->B i\/w.heap.size≤i)(hs:∀i,sv.ownBlock=some i->¬B i):cG w0 w' B' M pv0 n t k sv pvs vss:=
 ⟨kp.owns h.row hs,fun j hj=>⟨(h.pvs j hj).1.keep kp hB,(h.pvs j hj).2⟩,fun j hj=>⟨fun q hq=>((h.vss j hj).1 q hq).keep kp hB,(h.vss j hj).2⟩⟩
theorem aJ.grow{W0 W:World}{B0 B' T:Nat->Prop}{v:Value}{p:Pt}(h:aJ W0 B0 v p)(k:aA (fun i=>B0 i\/T i) W0 W)(hb:∀i,v.ownBlock=some i->¬T i)(hB:∀i,B' i->B0 i\/W0.heap.size≤i):aJ W B' v p:=
 ⟨h.pt.keep k fun i hi e=>e.elim (h.off i hi).1 (hb i hi),fun i hi=>⟨fun e=>(hB i e).elim (h.off i hi).1 fun e=>by have:=(h.off i hi).2.lt;omega,(h.off i hi).2.keep k fun e=>e.elim (h.off i hi).1 (hb i hi)⟩⟩
theorem Ei{n:Nat}{t:Tr}{w0 w:World}{B:Nat->Prop}{M:Nat}{pv0:Value}{k:Nat}{sv:Value}{pvs:Nat->Value}{vss:Nat->Nat->Value}(h:cG w0 w B M pv0 n t k sv pvs vss){x:Nat}(hx:x<k):(eY n t x (pvs x) (vss x)).length=177:=by
 unfold eY;rw[List.length_append,List.length_append,aL (h.pvs x hx).1.pt.sum,dJ _ _ (h.vss x hx).1.nv];rfl
theorem Hu{n:Nat}{t:Tr}{w0 w:World}{B:Nat->Prop}{M:Nat}{pv0:Value}{k:Nat}{sv:Value}{pvs:Nat->Value}{vss:Nat->Nat->Value}(h:cG w0 w B M pv0 n t k sv pvs vss)(hk:0<k):∃g cap cur,sv=.slice (some ⟨g,0,none⟩) k cap/\k≤cap/\w.heap[g]?=some (.cells cur 125 (0,0))/\∀x,x<k->w.rangeAt g (x*177) (eY n t x (pvs x) (vss x)):=by
 rcases h.row.2 with⟨-,h0⟩|⟨g,cap,cur,hv,hge,hc,h1,h2,h3,h4⟩
 ·omega
 ·refine⟨g,cap,cur,hv,h1,hc,fun x hx j v hj=>?_⟩
  obtain⟨hl,a',c',he,-,-,-,h5⟩:=Rd.of_owns h.row;rw[hv] at he;cases he
  obtain⟨g',o',he,hcl⟩:=h5 (by rw[hl];omega);cases he
  have:=hcl (x*177+j) v (fZ (c:=fun j=>eY n t j (pvs j) (vss j)) (n:=177) (fun y hy=>Ei h (List.mem_range.1 hy)) (iK hx) hj)
  rwa [Nat.zero_add] at this
theorem Hv{w:World}{vs:Nat->Value}{ps:Nat->Pt}(hv:dF w vs ps)(lv:Int){k:Nat}(hk:k<4):∃P R,cF lv vs ps=P++(aH (vs k) (ps k)++R)/\P.length=1+k*35/\∀v p,cF lv (fD vs k v) (fD ps k p)=P++(aH v p++R):=by
 have l0:=aL (v:=vs 0) (hv 0 (by omega)).sum;have l1:=aL (v:=vs 1) (hv 1 (by omega)).sum;have l2:=aL (v:=vs 2) (hv 2 (by omega)).sum;rcases k with _|_|_|_|k
 ·exact⟨[.int .i64 lv],aH (vs 1) (ps 1)++(aH (vs 2) (ps 2)++aH (vs 3) (ps 3)),rfl,rfl,fun _ _=>rfl⟩
 ·exact⟨.int .i64 lv::aH (vs 0) (ps 0),aH (vs 2) (ps 2)++aH (vs 3) (ps 3),rfl,by rw[List.length_cons,l0],fun _ _=>rfl⟩
 ·refine⟨.int .i64 lv::(aH (vs 0) (ps 0)++aH (vs 1) (ps 1)),aH (vs 3) (ps 3),?_,by rw[List.length_cons,List.length_append,l0,l1],fun v p=>?_⟩
  ·show Value.int .i64 lv::(aH (vs 0) (ps 0)++(aH (vs 1) (ps 1)++(aH (vs 2) (ps 2)++aH (vs 3) (ps 3))))=_
   rw[List.cons_append,List.append_assoc]
  ·show Value.int .i64 lv::(aH (vs 0) (ps 0)++(aH (vs 1) (ps 1)++(aH v p++aH (vs 3) (ps 3))))=_
   rw[List.cons_append,List.append_assoc]
 ·refine⟨.int .i64 lv::(aH (vs 0) (ps 0)++(aH (vs 1) (ps 1)++aH (vs 2) (ps 2))),[],?_,by rw[List.length_cons,List.length_append,List.length_append,l0,l1,l2],fun v p=>?_⟩
  ·show Value.int .i64 lv::(aH (vs 0) (ps 0)++(aH (vs 1) (ps 1)++(aH (vs 2) (ps 2)++aH (vs 3) (ps 3))))=_
   rw[List.cons_append,List.append_assoc,List.append_assoc,List.append_nil]
  ·show Value.int .i64 lv::(aH (vs 0) (ps 0)++(aH (vs 1) (ps 1)++(aH (vs 2) (ps 2)++aH v p)))=_
   rw[List.cons_append,List.append_assoc,List.append_assoc,List.append_nil]
 ·omega
theorem vL{w:World}{b o:Nat}{P A R:List Value}{t:TypeId}{fr:Nat×Nat}(hb:w.heap[b]?=some (.cells (P++(A++R)).toArray t fr))(h:P.length=o):w.rangeAt b o A:=fun j v hj=>by
 refine aD hb ?_;rw[List.getElem?_toArray,List.getElem?_append_right (by omega),show o+j-P.length=j by omega,List.getElem?_append_left (List.getElem?_eq_some_iff.1 hj).1];exact hj
theorem Lm{w W:World}{A:List Value}{lv:Int}{vs:Nat->Value}{ps:Nat->Pt}{dv:Value}{b:Nat}{t:TypeId}(hA:A.length=35)(hv:dF w vs ps){q:Nat}(hq:q<4)(hb:W.heap[b]?=some (.cells (A++(cF lv vs ps++[dv])).toArray t (0,0))):W.rangeAt b (36+q*35) (aH (vs q) (ps q)):=by
 obtain⟨P,R,h1,h2,-⟩:=Hv hv lv hq;rw[h1,List.append_assoc,List.append_assoc,←List.append_assoc A] at hb;exact vL hb (by rw[List.length_append,hA,h2];omega)
theorem JL{W:World}{A N:List Value}{dv:Value}{b:Nat}{t:TypeId}(hA:A.length=35)(hb:W.heap[b]?=some (.cells (A++(N++[dv])).toArray t (0,0))):W.rangeAt b 35 N:=vL hb hA
theorem Ej{W:World}{A N:List Value}{dv:Value}{b:Nat}{t:TypeId}(hA:A.length=35)(hN:N.length=141)(hb:W.heap[b]?=some (.cells (A++(N++[dv])).toArray t (0,0))):W.cell? ⟨b,176,none⟩=some dv:=by
 refine aD hb ?_;rw[List.getElem?_toArray,List.getElem?_append_right (by omega),List.getElem?_append_right (by omega),show 176-A.length-N.length=0 by omega];rfl
theorem Ln{w:World}{A:List Value}{lv:Int}{vs:Nat->Value}{ps:Nat->Pt}{dv:Value}(hA:A.length=35)(hv:dF w vs ps){q:Nat}(hq:q<4){v:Value}{p:Pt}(hp:p.sum.length=32):spl (A++(cF lv vs ps++[dv])).toArray (36+q*35) (aH v p)=(A++(cF lv (fD vs q v) (fD ps q p)++[dv])).toArray:=by
 obtain⟨P,R,h1,h2,h3⟩:=Hv hv lv hq;have l1:=aL (v:=vs q) (hv q hq).sum;have l2:=aL (v:=v) hp;have h:=lW (A++P) (aH (vs q) (ps q)) (aH v p) (R++[dv]) (by rw[l1,l2]);rw[List.length_append,hA,h2,show 35+(1+q*35)=36+q*35 by omega] at h;rw[h1,h3,List.append_assoc,List.append_assoc,List.append_assoc,List.append_assoc,←List.append_assoc A,←List.append_assoc A,h]
theorem Loc.round{w W0 W1:World}{B B0 B':Nat->Prop}{b4 b5 b8 b9 b10 b12:Nat}{c4 c5 c8 c9 c10 c12 d10 d12:Array Value}{t4 t5 t8 t9 t10 t12:TypeId}
 (h:Loc B B0 w W0 [(b12,c12,t12),(b10,c10,t10),(b9,c9,t9),(b8,c8,t8),(b5,c5,t5),(b4,c4,t4)]) (h12:W1.heap[b12]?=some (.cells d12 t12 (0,0))) (h10:W1.heap[b10]?=some (.cells d10 t10 (0,0)))
 (hB':∀i,B' i->B0 i\/W0.heap.size≤i) (hB0:∀i,B0 i->B i\/w.heap.size≤i) (kp:aA (fun i=>B0 i\/i=b10\/i=b12) W0 W1) :
 Loc B B' w W1 [(b12,d12,t12),(b10,d10,t10),(b9,c9,t9),(b8,c8,t8),(b5,c5,t5),(b4,c4,t4)]:=by
 have g12:=h.ge _ (List.mem_of_getElem? (i:=0) rfl);have g10:=h.ge _ (List.mem_of_getElem? (i:=1) rfl);refine⟨h.keep.trans' kp (fun _ _ h=>h) fun i hi e=>?_,fun x hx=>?_,h.nd,fun x hx=>?_,fun x hx e=>?_⟩
 ·rcases e with e|e|e
  ·exact(hB0 i e).elim id fun e=>absurd hi (by omega)
  ·subst e;exact absurd hi (by have:=g10;dsimp only at this;omega)
  ·subst e;exact absurd hi (by have:=g12;dsimp only at this;omega)
 ·simp only[List.mem_cons,List.not_mem_nil,or_false] at hx
  rcases hx with rfl|rfl|rfl|rfl|rfl|rfl
  ·exact g12
  ·exact g10
  ·exact h.ge _ (List.mem_of_getElem? (i:=2) rfl)
  ·exact h.ge _ (List.mem_of_getElem? (i:=3) rfl)
  ·exact h.ge _ (List.mem_of_getElem? (i:=4) rfl)
  ·exact h.ge _ (List.mem_of_getElem? (i:=5) rfl)
 ·simp only[List.mem_cons,List.not_mem_nil,or_false] at hx
  rcases hx with rfl|rfl|rfl|rfl|rfl|rfl
  ·exact h12
  ·exact h10
  ·exact kp.blk (h.b 2) fun e'=>e'.elim ((h.aq 2)) fun e=>e.elim (fun e=>bI (i:=1) h.nd rfl 2 (by decide) rfl e) fun e=>bI (i:=0) h.nd rfl 2 (by decide) rfl e
  ·exact kp.blk (h.b 3) fun e'=>e'.elim ((h.aq 3)) fun e=>e.elim (fun e=>bI (i:=1) h.nd rfl 3 (by decide) rfl e) fun e=>bI (i:=0) h.nd rfl 3 (by decide) rfl e
  ·exact kp.blk (h.b 4) fun e'=>e'.elim ((h.aq 4)) fun e=>e.elim (fun e=>bI (i:=1) h.nd rfl 4 (by decide) rfl e) fun e=>bI (i:=0) h.nd rfl 4 (by decide) rfl e
  ·exact kp.blk (h.b 5) fun e'=>e'.elim ((h.aq 5)) fun e=>e.elim (fun e=>bI (i:=1) h.nd rfl 5 (by decide) rfl e) fun e=>bI (i:=0) h.nd rfl 5 (by decide) rfl e
 ·have ap:∀(i:Nat) (x:Nat×Array Value×TypeId),([(b12,c12,t12),(b10,c10,t10),(b9,c9,t9),(b8,c8,t8),(b5,c5,t5),(b4,c4,t4)]:List (Nat×Array Value×TypeId))[i]?=some x->¬B' x.1:=fun i x hx e =>
   (hB' _ e).elim (h.ap _ (List.mem_of_getElem? hx)) fun e2=>by have:=lt_of_block (h.b i (b:=x.1) (cs:=x.2.1) (t:=x.2.2) hx);omega
  simp only[List.mem_cons,List.not_mem_nil,or_false] at hx;rcases hx with rfl|rfl|rfl|rfl|rfl|rfl
  ·exact ap 0 _ rfl e
  ·exact ap 1 _ rfl e
  ·exact ap 2 _ rfl e
  ·exact ap 3 _ rfl e
  ·exact ap 4 _ rfl e
  ·exact ap 5 _ rfl e
theorem bZ.keepT{T:Nat->Prop}{w w':World}{B:Nat->Prop}{vs:Nat->Value}{ps:Nat->Pt}(h:bZ w B vs ps)(k:aA T w w')(hT:∀q,q<4->∀i,(vs q).ownBlock=some i->¬T i):bZ w' B vs ps:=fun q hq=>(h q hq).keepT k (hT q hq)
theorem bZ.upd{w:World}{B:Nat->Prop}{vs:Nat->Value}{k:Nat->Tr}(h:bZ w B vs (fun i=>(k i).ptr)){d:Nat}{v:Value}{u:Tr}(hv:aJ w B v u.ptr):bZ w B (fD vs d v) (fun i=>(eH k d u i).ptr):=fun q hq=>by
 show aJ w B (fD vs d v q) (eH k d u q).ptr
 by_cases e:q=d
 ·subst e;rw[lU,jT];exact hv
 ·rw[lV _ _ e,jU _ _ e];exact h q hq
theorem Cl.onT{T:Nat->Prop}{w w1 w2:World}{B B':Nat->Prop}(h:Cl w w1 B B')(k:aA T w1 w2)(hT:∀i,B' i->¬T i):Cl w w2 B B':=fun i hi=>(h i hi).imp (fun c=>c.keep k (hT i hi)) id
theorem aZ.upon{w wd W0 W W':World}{c:Nat}{B B0 B':Nat->Prop}{U:Nat->Prop}{v v0:Value}{r:Option Tr}{T:Kor}{e:Ending}
 (he:e=.returned (.tuple #[.agg (aH v (cI r)).toArray,.int .i64 (dZ r)])) (hv:aJ W' B' v (cI r)) (hK:KI W' c T B') (hn:v=v0\/eF w v)
 (hB0:∀i,B0 i->B i\/w.heap.size≤i) (hB':∀i,B' i->B0 i\/W0.heap.size≤i) (h0:aA aB w wd) (hc0:Cl wd W0 B B0) (hc:∀i,B' i->IsC W' i\/i<W0.heap.size/\B0 i/\¬IsC W0 i)
 (k0:aA B w W0) (k1:aA U W0 W') (hU:∀i,U i->B0 i\/w.heap.size≤i):aZ w c B v0 r T e W':=
 ⟨v,B',he,hv,hK,fun i h=>(hB' i h).elim (hB0 i) fun e=>.inr (Nat.le_trans k0.size e),((Cl.refl w wd B h0).trans hc0).trans fun i h=>(hc i h).imp id fun h=>h.2,hn,k0.trans' k1 (fun _ _ h=>h) fun i hi h=>(hU i h).elim (fun h=>(hB0 i h).elim id fun h=>absurd hi (by omega)) fun h=>absurd hi (by omega)⟩
def sec(b:UInt8):List UInt8:=List.replicate 256 b
theorem cH(b:UInt8):(sec b).length=256:=List.length_replicate
theorem JM:sec 0=zB:=rfl
theorem Ek{a b:UInt8}(h:sec a=sec b):a=b:=by
 have:=congrArg (fun l=>l.getD 0 0) h
 simpa [sec] using this
theorem L4(a b:UInt8):sec a=sec b↔a=b:=⟨Ek,fun h=>by rw[h]⟩
def gJ(t:Tr)(bl:Nat->UInt8):Prop:=∀i,i<64->t.blk 3 i=sec (bl i)
theorem gJ.hole:gJ .hole fun _=>0:=fun i _=>Tr.blk_hole 3 i
theorem uL{S:Kor}{t:Tr}(hb:S.Bd)(ht:Tr.Ok S 3 t){n:Nat}(hn:n<64){b:List UInt8}(hl:b.length=256){r:Option Tr}{T:Kor}(h:lY S t n b=(r,T)) :
 Beh S T/\∀u,r=some u->Tr.Ok T 3 u/\∀i,i<64->u.blk 3 i=if i=n then b else t.blk 3 i:=by
 unfold lY at h
 by_cases c:t.blk 3 n=b
 ·rw[if_pos c] at h
  injection h with h1 h2
  subst h1 h2;refine⟨Beh.refl hb,fun u hu=>?_⟩;cases hu
  refine⟨ht,fun i _=>?_⟩
  by_cases e:i=n
  ·rw[if_pos e,e];exact c
  ·rw[if_neg e]
 ·rw[if_neg c] at h
  obtain⟨h1,h2⟩:=zJ hl n (Nat.le_refl 3) hb ht h;refine⟨h1,fun u hu=>?_⟩;obtain⟨h3,h4,-⟩:=h2 u hu;refine⟨h3,fun i hi=>?_⟩;rw[h4,show (4:Nat) ^ 3=64 from rfl,Nat.mod_eq_of_lt hi,Nat.mod_eq_of_lt hn]
theorem Hw{S:Kor}(t:Tr)(n:Nat)(b:List UInt8){N:Nat}(h:S.room (N+4)):∃u T N',lY S t n b=(some u,T)/\T.room N'/\N≤N':=by
 unfold lY;split
 ·exact⟨t,S,N+4,rfl,h,by omega⟩
 ·exact AG b n 3 t h
theorem yH{S:Kor}{t:Tr}{n:Nat}{b:List UInt8}{N:Nat}(h:S.room (N+4))(hz:b≠zB)(hn:t.blk 3 n≠b):∃u T,lY S t n b=(some u,T)/\T.room N/\u.isHole=false:=by
 unfold lY;rw[if_neg hn];exact AD hz n 3 t h
theorem tZ{S:Kor}{t:Tr}{n:Nat}{b:List UInt8}(h:t.blk 3 n=b):lY S t n b=(some t,S):=by
 unfold lY;rw[if_pos h]
theorem gJ.set{t u:Tr}{bl:Nat->UInt8}(h:gJ t bl){n:Nat}{b:UInt8}(hu:∀i,i<64->u.blk 3 i=if i=n then sec b else t.blk 3 i):gJ u fun i=>if i=n then b else bl i:=fun i hi=>by
 rw[hu i hi];show _=sec (if i=n then b else bl i)
 by_cases e:i=n
 ·rw[if_pos e,if_pos e]
 ·rw[if_neg e,if_neg e,h i hi]
theorem El{S:Kor}{t:Tr}(hb:S.Bd)(ht:Tr.Ok S 3 t){f g:Nat}{r:Option Tr}{T:Kor}(h:cO 3 S t (f:Int) (g:Int)=(r,T)) :
 Beh S T/\∀u,r=some u->Tr.Ok T 3 u/\∀i,i<64->u.blk 3 i=if f≤i/\i<g then zB else t.blk 3 i:=by
 obtain⟨h1,h2⟩:=uI (Nat.le_refl 3) hb ht h;refine⟨h1,fun u hu=>?_⟩;obtain⟨h3,h4,-⟩:=h2 u hu;refine⟨h3,fun i hi=>?_⟩;rw[h4,show (4:Nat) ^ 3=64 from rfl,Nat.mod_eq_of_lt hi]
 by_cases e:f≤i/\i<g
 ·rw[if_pos e,if_pos (by omega)]
 ·rw[if_neg e,if_neg (by omega)]
theorem gJ.cut{t u:Tr}{bl:Nat->UInt8}(h:gJ t bl){f g:Nat}(hu:∀i,i<64->u.blk 3 i=if f≤i/\i<g then zB else t.blk 3 i):gJ u fun i=>if f≤i/\i<g then 0 else bl i:=fun i hi=>by
 rw[hu i hi];show _=sec (if f≤i/\i<g then 0 else bl i)
 by_cases e:f≤i/\i<g
 ·rw[if_pos e,if_pos e];rfl
 ·rw[if_neg e,if_neg e,h i hi]
def pB(bl:Nat->UInt8)(k:Nat):Nat:=((List.range k).filter fun i=>decide (bl i≠0)).length
theorem Hx(bl:Nat->UInt8)(k:Nat):pB bl (k+1)=pB bl k+if bl k≠0 then 1 else 0:=by
 unfold pB;rw[List.range_succ,List.filter_append,List.length_append]
 congr 1
 by_cases h:bl k=0
 ·simp[h]
 ·simp[h]
theorem gJ.many{S:Kor}{t:Tr}{bl:Nat->UInt8}(h:gJ t bl)(ht:Tr.Ok S 3 t):t.many 3=pB bl 64:=by
 rw[←ht.many_eq];unfold Tr.cnt pB;rw[ht.blocks_eq,List.countP_map,List.countP_eq_length_filter]
 congr 1
 refine List.filter_congr fun i hi=>?_
 have hi:i<64:=List.mem_range.1 hi;show decide (t.blk 3 i≠zB)=decide (bl i≠0);rw[h i hi,←JM];exact decide_eq_decide.2 (not_congr (L4 _ _))
theorem gJ.rows{S:Kor}{t:Tr}{bl:Nat->UInt8}(h:gJ t bl)(ht:Tr.Ok S 3 t):t.blocks 3=(List.range 64).map fun i=>sec (bl i):=by
 rw[ht.blocks_eq];exact List.map_congr_left fun i hi=>h i (List.mem_range.1 hi)
theorem Hy(f:Nat->Value)(d n c s l:Int):Tryz.prog.built 222 [(0,.agg ((List.range 32).map f).toArray),(1,.int .i64 d),(2,.int .i64 n),(3,.int .i64 c),(4,.int .i64 s),(5,.int .i64 l)]=some ((List.range 32).map f++([.int .i64 d,.int .i64 n,.int .i64 c,.int .i64 s,.int .i64 l]:List Value)).toArray:=by kernel_rfl
theorem Hz(L:Lab)(h:L.pool.length=32)(w:World):(Instr.build 222 #[(0,.agg (L.pool.map vb).toArray),(1,.int .i64 L.dev),(2,.int .i64 L.devs),(3,.int .i64 L.copies),(4,.int .i64 L.sectors),(5,.int .i64 L.life)]).run Tryz.prog w=.ok (.agg L.cells.toArray) w:=by
 refine run_build w 222 _ _ ?_;unfold Lab.cells Lab.nums;rw[Ec (L.pool.map vb) (by rw[List.length_map,h])];exact Hy _ _ _ _ _ _
def gV(b:List UInt8)(Mm:Nat->Nat->List UInt8)(d:Nat):Nat->Nat->Nat->List UInt8
 | 0=>Mm
 | k+1=>iJ (gV b Mm d k) d k (if k=0 then b else zB)
theorem H6(b:List UInt8)(Mm:Nat->Nat->List UInt8)(d:Nat):iJ Mm d 0 b=gV b Mm d 1:=rfl
theorem FE(b:List UInt8)(Mm:Nat->Nat->List UInt8)(d:Nat){k:Nat}(hk:0<k):iJ (gV b Mm d k) d k zB=gV b Mm d (k+1):=by
 show _=iJ (gV b Mm d k) d k (if k=0 then b else zB);rw[if_neg (by omega)]
theorem yI(b:List UInt8)(Mm:Nat->Nat->List UInt8)(d:Nat):∀k,0<k->gV b Mm d k d 0=b
 | 1,_=>by show iJ Mm d 0 b d 0=b;unfold iJ;rw[if_pos ⟨rfl,rfl⟩]
 | k+2,_=>by
   show iJ (gV b Mm d (k+1)) d (k+1) _ d 0=b;unfold iJ;rw[if_neg (by omega)];exact yI b Mm d (k+1) (by omega)
theorem vM(b:List UInt8)(Mm:Nat->Nat->List UInt8)(d:Nat){e s:Nat}(h:e≠d):∀k,gV b Mm d k e s=Mm e s
 | 0=>rfl
 | k+1=>by
   show iJ (gV b Mm d k) d k _ e s=_;unfold iJ;rw[if_neg (by omega)];exact vM b Mm d h k
def CZ(w:World)(a:Nat)(B:Nat->Prop)(D Z:Nat)(Mm:Nat->Nat->List UInt8)(nw d:Nat)(b:List UInt8)(k:Nat)(w':World):Prop:=
 ∃B',bN w' a B' D Z (gV b Mm d k) (nw+k)/\(∀i,B' i->B i\/w.heap.size≤i)/\aA B w w'
theorem CZ.next{w w1 w2:World}{a D Z nw d k:Nat}{B B':Nat->Prop}{Mm:Nat->Nat->List UInt8}{b b':List UInt8}(hB:∀i,B' i->B i\/w.heap.size≤i)(hk:aA B w w1){e:Ending}(h:mX w1 a B' D Z (gV b Mm d k) (nw+k) d k b' e w2)(hb:iJ (gV b Mm d k) d k b'=gV b Mm d (k+1)):CZ w a B D Z Mm nw d b (k+1) w2:=by
 obtain⟨-,B2,h1,h2,h3⟩:=h;rw[hb] at h1;refine⟨B2,h1,fun i hi=>?_,hk.trans' h3 (fun _ _ h=>h) fun i hi e=>?_⟩
 ·rcases h2 i hi with h|h
  ·exact hB i h
  ·exact .inr (Nat.le_trans hk.size h)
 ·rcases hB i e with h|h
  ·exact h
  ·omega
def C0(w:World)(a:Nat)(B:Nat->Prop)(D Z:Nat)(Mm:Nat->Nat->List UInt8)(nw d:Nat)(b:List UInt8)(e:Ending)(w':World):Prop:=
 e=.returned (.int .i64 0)/\∃B' nw',bN w' a B' D Z (gV b Mm d 5) nw'/\nw'≤nw+5/\(∀k,B' k->B k\/w.heap.size≤k)/\aA B w w'
theorem JN{w:World}{c a m:Nat}{pid:List UInt8}{cp:Nat}{lv gv:Value}{t:Int}(h:bC w c a m pid cp lv gv t){D Z nw:Nat}{B:Nat->Prop}{Mm:Nat->Nat->List UInt8}(ha:bN w a B D Z Mm nw){d:Nat}(hd:d<D)(hcB:¬B c)(hcp:1≤cp/\cp≤3/\cp≤D)(hn:nw<1000000):Calls Tryz.prog 109 #[.pointer (some ⟨c,0,none⟩),.int .i64 (d:Int),.int .i64 0] w (C0 w a B D Z Mm nw d (dW (dE pid d D cp Z))):=by
 have hbd:=ha.bd;have HM:Hid ((dE pid d D cp Z).may=true):=O (rR hd hbd hcp.1 hcp.2.1 hcp.2.2);have HPID:=O h.idl;have hpl:(pid.map vb).length=32:=by rw[List.length_map];exact h.idl
 have HBL:=O (fun w=>Hz (dE pid d D cp Z) h.idl w);have HPL:=O (tS (dE pid d D cp Z) h.idl HM.out);obtain⟨b,hbe⟩:∃b,dW (dE pid d D cp Z)=b:=⟨_,rfl⟩
 obtain⟨lc,hlc⟩:∃l,(dE pid d D cp Z).cells=l:=⟨_,rfl⟩
 have HLC:=O hlc;have HBE:=O hbe;rw[hbe] at HPL ⊢;rw[hlc] at HBL;have HC:=O h;have HA:=O ha;have HD:=O hd;have HCB:=O hcB;have HA0:=HA;have HC0:=HC;have HL:=O (Loc.nil aB aB w);have hZ5:8≤Z:=hbd.2.2.1;clear h ha hbe hlc hbd hcB;go_enter Tryz.func109,Tryz.ntmps109;go_wp2_with fail;obtain⟨S,hS0⟩:∃S:World->Prop,S=fun w'=>aA aB w.drew w':=⟨_,rfl⟩
 have HSE:=O (show ∀w',S w'->aA aB w.drew w' from fun w' h=>by rw[hS0] at h;exact h);have HSI:=O (show ∀w',aA aB w.drew w'->S w' from fun w' h=>by rw[hS0];exact h);have hS:S w.drew:=by rw[hS0];exact aA.refl _ _
 have hkd:=(aA.refl aB w).drew;clear hS0;refine wp_region_held (S:=S) (by kernel_rfl) ?_;change wpAnyH _ _ _ _ _ _ _ _ w.drew;generalize w.drew=w1 at HSE HSI hS hkd ⊢;replace HL:=O (HL.out.keeps hkd);replace HC:=O (HC.out.keep0 hkd);replace HA:=O (HA.out.keep0 hkd);clear hkd;have HLs:=HL;have HCs:=HC;have HAs:=HA;refine tna 0 (.pointer (some ⟨c,0,none⟩)) rfl hS ?_;refine tnb 1 (.pointer (some ⟨c,0,none⟩)) rfl hS ?_;refine tnb 2 (.pointer (some ⟨c,2,none⟩)) rfl hS ?_;refine tnd 3 (.agg (pid.map vb).toArray) rfl (yieldsIf_load_mid (by rfl) 24 (.tmp 14) rfl c 2 rfl (pid.map vb) _ (fun w' h=>(HSE.out w' h).rangeAt (bC.id_ HCs.out)) Tryz.underlying24 rfl (by rw[hpl];exact wF)) hS ?_;refine tna 4 (.int .i64 (d:Int)) rfl hS ?_;refine tna 5 (.pointer (some ⟨c,0,none⟩)) rfl hS ?_;refine tnb 6 (.pointer (some ⟨c,0,none⟩)) rfl hS ?_;refine tnb 7 (.pointer (some ⟨c,0,none⟩)) rfl hS ?_;refine tnd 8 (.pointer (some ⟨a,0,none⟩)) rfl (.inl ⟨by rfl,fun w' hw'=>by have c:World.cell? w' ⟨c,0,none⟩=some (.pointer (some ⟨a,0,none⟩)):=(HSE.out w' hw').cell (bC.c0 HCs.out) id;go_simp⟩) hS ?_;refine tna 10 (.pointer (some ⟨c,0,none⟩)) rfl hS ?_;refine tnb 11 (.pointer (some ⟨c,0,none⟩)) rfl hS ?_;refine tnb 12 (.pointer (some ⟨c,34,none⟩)) rfl hS ?_;refine tnd 13 (.int .i64 (cp:Int)) rfl (.inl ⟨by rfl,fun w' hw'=>by have c:World.cell? w' ⟨c,34,none⟩=some (.int .i64 (cp:Int)):=(HSE.out w' hw').cell (bC.cp_ HCs.out) id;go_simp⟩) hS ?_;refine tna 14 (.pointer (some ⟨c,0,none⟩)) rfl hS ?_;refine tnb 15 (.pointer (some ⟨c,0,none⟩)) rfl hS ?_;refine tnb 16 (.pointer (some ⟨c,0,none⟩)) rfl hS ?_;refine tnd 17 (.pointer (some ⟨a,0,none⟩)) rfl (.inl ⟨by rfl,fun w' hw'=>by have c:World.cell? w' ⟨c,0,none⟩=some (.pointer (some ⟨a,0,none⟩)):=(HSE.out w' hw').cell (bC.c0 HCs.out) id;go_simp⟩) hS ?_;refine tna 19 (.int .i64 0) rfl hS ?_;refine wA9 9 ?_;go_wp2_with fail;refine(kC HA.out).mono ?_;rintro e w2 ⟨rfl,hk⟩;have hS1:=HSI.out _ ((HSE.out _ hS).trans hk);replace HL:=O (HL.out.keeps hk);replace HC:=O (HC.out.keep0 hk);replace HA:=O (HA.out.keep0 hk);clear hS hk;go_wp2_with fail;refine⟨hS1,?_⟩;refine wA9 18 ?_;go_wp2_with fail;refine(tN HA.out).mono ?_;rintro e w3 ⟨rfl,hk⟩;have hS2:=HSI.out _ ((HSE.out _ hS1).trans hk);replace HL:=O (HL.out.keeps hk);replace HC:=O (HC.out.keep0 hk);replace HA:=O (HA.out.keep0 hk);clear hS1 hk;go_wp2_with fail;refine⟨hS2,?_⟩;refine tnd 20 (.agg lc.toArray) rfl (iV 222 #[(0,.tmp 15),(1,.tmp 16),(2,.tmp 21),(3,.tmp 25),(4,.tmp 30),(5,.tmp 31)] [(0,.agg (pid.map vb).toArray),(1,.int .i64 (d:Int)),(2,.int .i64 (D:Int)),(3,.int .i64 (cp:Int)),(4,.int .i64 (Z:Int)),(5,.int .i64 0)] (.agg lc.toArray) HBL.out) hS2 ?_;refine wA9 21 ?_;go_wp2_with fail;have HS33:=O HL.out.keep.size;refine((by rw[←HLC.out];exact CJ (dE pid d D cp Z) HPID.out w3:Calls _ _ _ w3 (CI w3 (dE pid d D cp Z)))).mono ?_;rintro e w4 ⟨v1,rfl,ho,hk⟩;rw[HM.out,if_pos rfl];rw[HBE.out,HPL.out] at ho;obtain⟨la,lc2,rfl,-,-⟩:=(Rd.of_owns ho).form;have HO:=O ho;clear ho;have hS3:=HSI.out _ ((HSE.out _ hS2).trans hk);replace HL:=O (HL.out.keeps hk);replace HC:=O (HC.out.keep0 hk);replace HA:=O (HA.out.keep0 hk);clear hS2 hk;go_wp2_with fail;refine⟨hS3,?_⟩;refine tna 22 (.tuple #[.slice la 256 lc2,.int .i64 0]) rfl hS3 ?_;refine tnb 23 (.slice la 256 lc2) rfl hS3 ?_;refine tnb 24 (.int .i64 0) rfl hS3 ?_;refine tna 25 (.slice la 256 lc2) rfl hS3 ?_;refine tna 26 (.int .i64 0) rfl hS3 ?_;refine wpAnyH_done (by kernel_rfl) ?_ _;clear hS3 HSE HSI HLs HCs HAs;go_wp2_with fail;have HSZ:=O HL.out.keep;have HOB:Hid (∀i,(Value.slice la 256 lc2).ownBlock=some i->¬B i):=O (fun i hi e=>by have h1:=bA HO.out hi;have h2:=HA0.out.lt e;have h3:=HS33.out;omega);clear HL
 go_loopw [7,39] (fun u i wr=>∃k:Nat,k≤5/\i=.int .i64 k/\(∃ua un uc,u=.slice ua un uc/\((k=0/\la=ua/\256=un/\lc2=uc)\/0<k))/\Hid (CZ w a B D Z Mm nw d b k wr)/\Hid (k=0->aA aB w4 wr)) (fun _ i _=>5-(intOf i).toNat)
 case atStart=>exact⟨0,by omega,rfl,⟨_,_,_,rfl,.inl ⟨rfl,rfl,rfl,rfl⟩⟩,O ⟨B,HA.out,fun i h=>.inl h,HSZ.out.any⟩,O fun _=>aA.refl _ _⟩
 case round =>
  obtain⟨k,hk,rfl,⟨ua,un,uc,rfl,hu⟩,HI,HK0⟩:=hrel;obtain⟨B2,ha2,hB2,hkw⟩:=HI.out;have HA2:=O ha2;have HB2:=O hB2;have HKW:=O hkw;have HC2:=O (HC0.out.keep hkw HCB.out);have HAL:=O (fun i (e:B2 i)=>ha2.lt e);clear ha2 hB2 hkw HI
  by_cases hk8:k<5
  ·have hk0:(0:Int)≤(k:Int):=by omega
   have hk1:(k:Int)<5:=by omega
   have HL:=O (Loc.nil aB aB wr);rcases hu with⟨rfl,rfl,rfl,rfl⟩|hz0
   ·clear HA2 HB2 HKW HAL
    have HA2:=O (HA.out.keep0 (HK0.out rfl));have HB2:Hid (∀i,B i->B i\/w.heap.size≤i):=O (fun i h=>.inl h);have HKW:Hid (aA B w wr):=O (HSZ.out.trans (HK0.out rfl)).any;have HAL:=O (fun i (e:B i)=>HA2.out.lt e);have HO2:=O ((HK0.out rfl).owns HO.out fun _ _=>id);have c1:wr.cell? ⟨c,0,none⟩=some (.pointer (some ⟨a,0,none⟩)):=(bC.c0 HC2.out)
    go_wp2_with fail;clear c1;refine(rO (s:=0) HA2.out HD.out (by omega) b HPL.out (.slice la 256 lc2) (Rd.of_owns HO2.out) HOB.out (by omega)).mono ?_;rintro e w5 hm;have HE:=O (CZ.next HB2.out (HKW.out.trans HL.out.keep.any) hm (H6 b Mm d));obtain⟨rfl,-⟩:=hm;clear HL HC2 HA2 HB2 HKW HAL;go_wp2_with fail
    go_roundw
    case rel=>exact⟨0+1,by omega,by go_num,⟨_,_,_,rfl,.inr (by omega)⟩,HE,O fun h=>by omega⟩
    case measure=>simp[intOf]
   ·have hz1:(0:Int)<(k:Int):=by omega
    go_wp2_with ((with_reducible show WL _ _);refine mkz (.const (.int .i64 256)) (.const (.int .i64 256)) ?_)
    intro b44 w5 hbs hk hb;replace HL:=O (HL.out.new (fun _ h=>h.elim) hbs hk hb);replace HC2:=O (HC2.out.keep0 hk);replace HA2:=O (HA2.out.keep0 hk);clear hbs hk hb;have c1:w5.cell? ⟨c,0,none⟩=some (.pointer (some ⟨a,0,none⟩)):=(bC.c0 HC2.out)
    go_wp2_with fail;clear c1;refine(rO (s:=k) HA2.out HD.out (by omega) zB rfl (.slice (some ⟨b44,0,none⟩) 256 256) (Rd.of_owns (lT (base:=0) (HL.out.b 0) rfl (Nat.zero_le _))) (fun i hi e=>by have h8:=HAL.out _ e;have h9:=(HL.out.lt 0).1;have h7:i=b44:=(by cases hi;rfl);omega) (by omega)).mono ?_;rintro e w6 hm;have HE:=O (CZ.next HB2.out (HKW.out.trans HL.out.keep.any) hm (FE b Mm d hz0));obtain⟨rfl,-⟩:=hm;clear HL HC2 HA2 HB2 HKW HAL;go_wp2_with fail
    go_roundw
    case rel=>exact⟨k+1,by omega,by go_num,⟨_,_,_,rfl,.inr (by omega)⟩,HE,O fun h=>by omega⟩
    case measure=>simp[intOf];omega
  ·obtain rfl:k=5:=by omega
   clear hu;have HL:=O (Loc.nil aB aB wr);have c1:wr.cell? ⟨c,0,none⟩=some (.pointer (some ⟨a,0,none⟩)):=(bC.c0 HC2.out)
   go_wp2_with fail;clear c1;refine(E8 HA2.out HD.out (by omega)).mono ?_;rintro e w5 ⟨rfl,B3,nw3,ha3,hn3,hB3,hk3⟩;have HP:Hid (C0 w a B D Z Mm nw d b (.returned (.int .i64 0)) w5):=O ⟨rfl,B3,nw3,ha3,hn3,fun i hi=>(hB3 i hi).elim (HB2.out i) (fun h=>.inr (Nat.le_trans (HKW.out.trans HL.out.keep.any).size h)),(HKW.out.trans HL.out.keep.any).trans' hk3 (fun _ _ h=>h) (fun i hi e=>(HB2.out i e).elim id fun h=>by omega)⟩;clear ha3 hn3 hB3 hk3 HL HC2 HA2 HB2 HKW HAL;go_wp2_with fail;go_ret;exact HP.out
end
end Go.Proofs.YtjkbekifgobeaaaGreat
