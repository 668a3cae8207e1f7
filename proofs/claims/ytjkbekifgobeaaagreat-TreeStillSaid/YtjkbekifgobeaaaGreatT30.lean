/- A part of the proof. Conditions: those told. -/
import Derived.Test.YtjkbekifgobeaaaGreatT1
import Derived.Test.YtjkbekifgobeaaaGreatT29
namespace Go.Proofs.YtjkbekifgobeaaaGreat
set_option maxHeartbeats 64000000
set_option maxRecDepth 100000
set_option linter.unusedVariables false
section
open Go.RowKit Go.Maps Go.ChangeMaps
def aP(n:Nat)(t:Tr):Nat->Tr
 | 0=>t
 | k+1=>(aP n t k).kid (n / 4 ^ (2-k) % 4)
theorem hE{S:Kor}{n:Nat}{t:Tr}(h:Tr.Ok S 3 t):∀k,k≤3->Tr.Ok S (3-k) (aP n t k)
 | 0,_=>h
 | 1,_=>(hE h 0 (by omega)).kid (gD _ _)
 | 2,_=>(hE h 1 (by omega)).kid (gD _ _)
 | 3,_=>(hE h 2 (by omega)).kid (gD _ _)
 | k+4,hk=>by omega
theorem Ax(n:Nat)(t:Tr){j:Nat}(h:aP n t j=.hole):∀i,aP n t (j+i)=.hole
 | 0=>h
 | i+1=>by
   show (aP n t (j+i)).kid _=.hole;rw[Ax n t h i];rfl
theorem wF{S:Kor}{n:Nat}{t:Tr}(h:Tr.Ok S 3 t):t.blk 3 n=(aP n t 3).blk 0 n:=by
 rw[h.blk_succ,(h.kid (gD n 2)).blk_succ,((h.kid (gD n 2)).kid (gD n 1)).blk_succ];rfl
def dJ(n:Nat)(t:Tr)(k:Nat)(pv:Value)(vs:Nat->Value):List Value:=
 aJ pv (aP n t k).ptr++(cH ((3-k:Nat):Int) vs (fun i=>((aP n t k).kid i).ptr)++[.int .i64 ((n / 4 ^ (2-k) % 4:Nat):Int)])
def gL(n:Nat)(t:Tr)(k:Nat)(pvs:Nat->Value)(vss:Nat->Nat->Value):List Value:=(List.range k).flatMap fun j=>dJ n t j (pvs j) (vss j)
def Apt(sv v:Value):Prop:=∀i,sv.ownBlock=some i->v.ownBlock≠some i
def rR(M:Nat)(v:Value):Prop:=∀i,v.ownBlock=some i->M≤i
structure bM(w0 w:World)(B:Nat->Prop)(M:Nat)(pv0:Value)(n:Nat)(t:Tr)(k:Nat)(sv:Value)(pvs:Nat->Value)(vss:Nat->Nat->Value):Prop where
 row:w.ownsRow w0.heap.size 125 177 sv k (gL n t k pvs vss)
 pvs:∀j,j<k->aL w B (pvs j) (aP n t j).ptr/\Apt sv (pvs j)/\(pvs j=pv0\/rR M (pvs j))
 vss:∀j,j<k->bQ w B (vss j) (fun i=>((aP n t j).kid i).ptr)/\∀q,q<4->Apt sv (vss j q)/\rR M (vss j q)
theorem kR{sv v2 v:Value}{w:World}{B:Nat->Prop}{p:Pt}(h:Apt sv v)(h2:v2.ownBlock=sv.ownBlock\/v2.ownBlock=some w.heap.size)(hp:aL w B v p):Apt v2 v:=fun i hi e=>by
 rcases h2 with h2|h2
 ·rw[h2] at hi;exact h i hi e
 ·rw[h2] at hi
  have:=(hp.off i e).2.lt;injection hi with hi
  omega
section
variable {w0 w w' wE:World}{B:Nat->Prop}{M:Nat}{pv0:Value}{n:Nat}{t:Tr}{k:Nat}{sv v2:Value}{pvs:Nat->Value}{vss:Nat->Nat->Value}
theorem bM.keepT{T:Nat->Prop}(h:bM w0 w B M pv0 n t k sv pvs vss)(kp:aA T w w')(h1:∀i,sv.ownBlock=some i->¬T i)(h2:∀i,pv0.ownBlock=some i->¬T i)(h3:∀i,M≤i->¬T i):bM w0 w' B M pv0 n t k sv pvs vss:=
 ⟨kp.owns h.row h1,fun j hj=>⟨(h.pvs j hj).1.keepT kp fun i hi=>((h.pvs j hj).2.2).elim (fun e=>h2 i (e▸hi)) fun e=>h3 i (e i hi),(h.pvs j hj).2⟩,fun j hj=>⟨fun q hq=>((h.vss j hj).1 q hq).keepT kp fun i hi=>h3 i (((h.vss j hj).2 q hq).2 i hi),(h.vss j hj).2⟩⟩
theorem bM.keep0(h:bM w0 w B M pv0 n t k sv pvs vss)(kp:aA aB w w'):bM w0 w' B M pv0 n t k sv pvs vss:=h.keepT kp (fun _ _=>id) (fun _ _=>id) fun _ _=>id
theorem bM.next(h:bM w0 w B M pv0 n t k sv pvs vss)(kE:aA aB w wE){pv:Value}{vs:Nat->Value}(hp:aL w B pv (aP n t k).ptr)(ap:Apt sv pv)(fp:pv=pv0\/rR M pv)(hv:bQ w B vs (fun i=>((aP n t k).kid i).ptr))(av:∀q,q<4->Apt sv (vs q)/\rR M (vs q))
 (ho:w'.ownsRow w0.heap.size 125 177 v2 (k+1) (gL n t k pvs vss++dJ n t k pv vs)) (kr:aA (fun i=>sv.ownBlock=some i) wE w') (h2:v2.ownBlock=sv.ownBlock\/v2.ownBlock=some wE.heap.size):bM w0 w' B M pv0 n t (k+1) v2 (fun j=>if j=k then pv else pvs j) (fun j=>if j=k then vs else vss j):=by
 have e:gL n t (k+1) (fun j=>if j=k then pv else pvs j) (fun j=>if j=k then vs else vss j)=gL n t k pvs vss++dJ n t k pv vs:=by
  unfold gL;rw[List.range_succ,List.flatMap_append,List.flatMap_cons,List.flatMap_nil,List.append_nil]
  congr 1
  ·rw[List.flatMap_def,List.flatMap_def]
   congr 1
   refine List.map_congr_left fun j hj=>?_
   have:=List.mem_range.1 hj;show dJ n t j (if j=k then pv else pvs j) (if j=k then vs else vss j)=_;rw[if_neg (by omega),if_neg (by omega)]
  ·show dJ n t k (if k=k then pv else pvs k) (if k=k then vs else vss k)=_
   rw[if_pos rfl,if_pos rfl]
 refine⟨by rw[e];exact ho,fun j hj=>?_,fun j hj=>?_⟩
 ·by_cases ej:j=k
  ·subst ej
   rw[if_pos rfl];exact⟨(hp.keep0 kE).keepT kr fun i hi e=>ap i e hi,kR ap h2 (hp.keep0 kE),fp⟩
  ·rw[if_neg ej]
   obtain⟨h3,h4,h5⟩:=h.pvs j (by omega);exact⟨(h3.keep0 kE).keepT kr fun i hi e=>h4 i e hi,kR h4 h2 (h3.keep0 kE),h5⟩
 ·by_cases ej:j=k
  ·subst ej
   rw[if_pos rfl];exact⟨fun q hq=>((hv q hq).keep0 kE).keepT kr fun i hi e=>(av q hq).1 i e hi,fun q hq=>⟨kR (av q hq).1 h2 ((hv q hq).keep0 kE),(av q hq).2⟩⟩
  ·rw[if_neg ej]
   obtain⟨h3,h4⟩:=h.vss j (by omega);exact⟨fun q hq=>((h3 q hq).keep0 kE).keepT kr fun i hi e=>(h4 q hq).1 i e hi,fun q hq=>⟨kR (h4 q hq).1 h2 ((h3 q hq).keep0 kE),(h4 q hq).2⟩⟩
theorem bM.nil(w0 w:World)(B:Nat->Prop)(M:Nat)(pv0:Value)(n:Nat)(t:Tr):bM w0 w B M pv0 n t 0 (.slice none 0 0) (fun _=>.slice none 0 0) (fun _ _=>.slice none 0 0):=⟨World.ownsRow_nil _ _ _ _,fun j hj=>by omega,fun j hj=>by omega⟩
end
structure cO(w:World)(B:Nat->Prop)(M:Nat)(pv0 sv pv:Value)(p:Pt):Prop where
 val:aL w B pv p
 apt:Apt sv pv
 far:pv=pv0\/rR M pv
theorem cO.keepT{T:Nat->Prop}{w w':World}{B:Nat->Prop}{M:Nat}{pv0 sv pv:Value}{p:Pt}(h:cO w B M pv0 sv pv p)(k:aA T w w')(h2:∀i,pv0.ownBlock=some i->¬T i)(h3:∀i,M≤i->¬T i):cO w' B M pv0 sv pv p:=
 ⟨h.val.keepT k fun i hi=>h.far.elim (fun e=>h2 i (e▸hi)) fun e=>h3 i (e i hi),h.apt,h.far⟩
theorem cO.keep0{w w':World}{B:Nat->Prop}{M:Nat}{pv0 sv pv:Value}{p:Pt}(h:cO w B M pv0 sv pv p)(k:aA aB w w'):cO w' B M pv0 sv pv p:=h.keepT k (fun _ _=>id) fun _ _=>id
theorem iM{w:World}{a b:Nat}{c1 c2:Array Value}{T1 T2:TypeId}{f1 f2:Nat×Nat}(h1:w.heap[a]?=some (.cells c1 T1 f1))(h2:w.heap[b]?=some (.cells c2 T2 f2))(hT:T1≠T2):a≠b:=fun e=>by
 rw[e,h2] at h1;injection h1 with h1
 injection h1 with h1 h3
 exact hT h3.symm
def qN(w:World)(B:Nat->Prop)(pv0:Value)(n:Nat)(t:Tr)(short:Bool)(e:Ending)(w':World):Prop:=
 ∃sv pvf k pvs vss M,e=.returned (.tuple #[sv,.agg (aJ pvf (aP n t 3).ptr).toArray,.int .i64 0])/\(short=false->k=3)/\w.heap.size≤M/\bM w w' B M pv0 n t k sv pvs vss/\cO w' B M pv0 sv pvf (aP n t 3).ptr/\aA aB w w'
theorem pW{P:Program}{fn:Func}{a p q:Tmp}{ty:TypeId}(h:fn.results=#[.tmp a,.cell p ty,.tmp q])(tmps:Array Value)(w:World)(g:Nat)(t:TypeId)(cs:Array Value)(fr:Nat×Nat)(d:TypeDesc)
 (hp:tmps.getD p undef=.pointer (some ⟨g,0,none⟩)) (hg:w.heap[g]?=some (.cells cs t fr)) (hu:P.underlying ty=some d) (hd:(match d with|.struct _|.array _ _=>true|_=>false)=true) (hi:(P.info? ty).map (·.size)=some cs.size):(results fn tmps).run P w=.ok (.tuple #[tmps.getD a undef,.agg cs,tmps.getD q undef]) w:=by
 simp only[Array.getD_eq_getD_getElem?] at hp;simp[results,h,hp,asAddr,Result.andThen,run_loadVar_row w g t ty cs fr d hg hu hd hi]
def eV:List Value:=aH++(dY++[.int .i64 0])
theorem eJ:eV.length=177:=rfl
theorem qO:Hid (∀w,(zeroValue 125).run Tryz.prog w=.ok (.agg eV.toArray) w):=H' fun w=>by kernel_rfl
theorem jH:(Tryz.prog.info? 125).map (·.size)=some 177:=by kernel_rfl
theorem mZ:(Tryz.prog.info? 125).map (fun i=>(i.zero,i.size,i.bytes))=some (some (.agg eV.toArray),177,376):=by kernel_rfl
theorem GT(N:Nat)(uc:List Value)(h:uc.length=N):uc=(List.range N).map fun i=>uc.getD i undef:=by
 apply List.ext_getElem?;intro i;rw[List.getElem?_map]
 by_cases hi:i<N
 ·rw[List.getElem?_range hi,List.getElem?_eq_getElem (by omega)]
  simp[List.getD,List.getElem?_eq_getElem (show i<uc.length by omega)]
 ·rw[List.getElem?_eq_none (by omega),List.getElem?_eq_none (by simp;omega)];rfl
theorem EX(f g:Nat->Value)(d:Int):Tryz.prog.built 125 [(0,.agg ((List.range 35).map f).toArray),(1,.agg ((List.range 141).map g).toArray),(2,.int .i64 d)]=some ((List.range 35).map f++((List.range 141).map g++([.int .i64 d]:List Value))).toArray:=by kernel_rfl
theorem Ay(pc nn:List Value)(d:Int)(h1:pc.length=35)(h2:nn.length=141)(w:World):(Instr.build 125 #[(0,.agg pc.toArray),(1,.agg nn.toArray),(2,.int .i64 d)]).run Tryz.prog w=.ok (.agg (pc++(nn++([.int .i64 d]:List Value))).toArray) w:=by
 refine run_build w 125 _ _ ?_;rw[GT 35 pc h1,GT 141 nn h2];exact EX _ _ _
theorem Az{w:World}{c:Nat}{S:Kor}{B:Nat->Prop}(hK:KI w c S B)(pv:Value)(t:Tr)(ht:Tr.Ok S 3 t)(hp:aL w B pv t.ptr)(n:Nat)(hn:n<64):Calls Tryz.prog 47 #[.pointer (some ⟨c,0,none⟩),.agg (aJ pv t.ptr).toArray,.int .i64 (n:Int),.bool false] w (qN w B pv n t false):=by
 have HT:=H' ht;have HN:=H' hn;have HPT:=H' hp;have HK:=H' hK;obtain⟨p,hpe⟩:∃p,t.ptr=p:=⟨_,rfl⟩
 have HPE:=H' hpe;rw[hpe] at HPT hp ⊢;obtain⟨pc,HPC,hpc,HOP⟩:=nmPt hp.pt;rw[HPC.out];have HL:=H' (Loc.nil aB aB w);clear hp ht hK hpe;have HPT0:=HPT;have HK0:=HK;go_enter Tryz.func47,Tryz.ntmps47
 go_wp2_with (first
  | ((with_reducible show WL (some 5) (.box 26 _));refine bx 26 (.tmp 1) (pc.toArray) ?_))
 intro b5 w1 hbs hk hb;replace HL:=H' (HL.out.new (fun _ h=>h.elim) hbs hk hb);replace HPT:=H' (aL.keep0 HPT.out hk);replace HK:=H' (HK.out.keep0 hk);clear hbs hk hb
 go_wp2_with (first
  | ((with_reducible show WL (some 9) (.alloc 26));refine al 26 (.agg aH.toArray) (aH.toArray) aU ?_))
 intro b9 w2 hbs hk hb;replace HL:=H' (HL.out.new (fun _ h=>h.elim) hbs hk hb);replace HPT:=H' (aL.keep0 HPT.out hk);replace HK:=H' (HK.out.keep0 hk);clear hbs hk hb
 go_wp2_with (first
  | ((with_reducible show WL (some 17) (.load 26 _));refine wpList_load_mid rfl 26 (.tmp 5) rfl b5 0 rfl pc _ (aC (HL.out.b 1)) aI rfl (by rw[hpc];exact aE) ?_)
  | ((with_reducible show WL (some 12) (.alloc 26));refine al 26 (.agg aH.toArray) (aH.toArray) aU ?_))
 intro b12 w3 hbs hk0 hb0_
 go_wp2_with (first
  | ((with_reducible show WL _ (.store 26 (.tmp 12) (.tmp 17)));refine sta 26 (.tmp 12) (.tmp 17) b12 0 pc hb0_ (by first|decide|(rw[List.size_toArray,hpc];exact Nat.le_refl _)|simp[hpc,aG]) (by rw[hpc];exact aE) HOP.out ?_))
 intro w4 hk hb;rw[aK _ _ (by first|rfl|(rw[List.size_toArray,hpc];rfl)|simp[hpc,aG])] at hb;replace hk:=hk0.trans' hk (U:=aB) (fun _ _ h=>h) (fun i hi e=>by omega);replace HL:=H' (HL.out.new (fun _ h=>h.elim) hbs hk hb);replace HPT:=H' (aL.keep0 HPT.out hk);replace HK:=H' (HK.out.keep0 hk);clear hbs hk hb hk0 hb0_;go_wp2_with fail;have HB9:=H' (HL.out.b 1);have HB12:=H' (HL.out.b 0);have HGE:=H' (And.intro (HL.out.lt 1) (HL.out.lt 0));have HNE:Hid (b9≠b12):=H' (fun e=>bK (i:=0) HL.out.nd rfl 1 (by decide) rfl e);have HKW:=H' HL.out.keep;obtain⟨M,hM⟩:∃M,w4.heap.size=M:=⟨_,rfl⟩
 rw[hM] at HGE;have HM:=H' (show w.heap.size≤M from by have:=HKW.out.size;omega);have HMW:=H' (Nat.le_of_eq hM.symm);obtain⟨Wh,hWh⟩:∃W,w4=W:=⟨_,rfl⟩
 rw[hWh] at HPT HK HB9 HB12 HKW HMW ⊢;have HP0:=H' (fun i (hi:pv.ownBlock=some i)=>(HPT0.out.off i hi).2.lt);clear HL hWh hM
 go_loopw [11,13] (fun s i wr=>∃(l:Nat) (sa:Option Addr) (sn sc:Nat),sn+l=3/\i=.int .i64 (l:Int)/\s=.slice sa sn sc/\Hid (aA aB w wr/\M≤wr.heap.size)/\Hid (∃pvs vss,bM w wr B M pv n t sn (.slice sa sn sc) pvs vss)/\Hid (∃pvc,cO wr B M pv (.slice sa sn sc) pvc (aP n t sn).ptr/\wr.heap[b12]?=some (.cells (aJ pvc (aP n t sn).ptr).toArray 26 (0,0)))/\Hid (wr.heap[b9]?=some (.cells aH.toArray 26 (0,0)))) (fun _ i _=>(intOf i).toNat)
 case atStart=>exact⟨3,none,0,0,by omega,rfl,rfl,H' ⟨HKW.out,HMW.out⟩,H' ⟨_,_,bM.nil _ _ _ _ _ _ _⟩,H' ⟨pv,⟨by show aL _ B pv t.ptr;rw[HPE.out];exact HPT.out,(fun i hi=>by cases hi),.inl rfl⟩,by have h:=HB12.out;rw[←HPC.out,←HPE.out] at h;exact h⟩,HB9⟩
 case round =>
  obtain⟨l,sa,sn,sc_,hsn,rfl,rfl,HK8,HWR,HPV,HB9⟩:=hrel;obtain⟨pvs,vss,hwr⟩:=HWR.out;obtain⟨pvc,hpv1,hpv3⟩:=HPV.out;obtain⟨q,hq⟩:∃q,(aP n t sn).ptr=q:=⟨_,rfl⟩
  have HQ:=H' hq;rw[hq] at hpv1 hpv3;have hqc:=aN (v:=pvc) hpv1.val.pt.sum;have HOQ0:=bC hpv1.val.pt;obtain⟨qc,hqce⟩:∃x,aJ pvc q=x:=⟨_,rfl⟩
  have HOQ:Hid (∀u∈qc,u.oneCell'=true):=H' (by rw[←hqce];exact HOQ0);have HQC:=H' hqce;rw[hqce] at hqc hpv3;have HR:=H' hwr;have HWP:=H' hpv1;have HB12:=H' hpv3;have HKi:=H' (HK0.out.keep0 HK8.out.1);clear hwr hpv1 hpv3 HWR HPV hq hqce HOQ0;have HL:=H' (Loc.nil aB aB wr);have HRr:=HR;have HWB:=H' HK8.out.1.size;have HKWR:=H' (Nat.le_refl wr.heap.size)
  by_cases hl0:l=0
  ·subst hl0
   go_wp2_with fail;have HQ3:Hid ((aP n t 3).ptr=q):=H' (by have e:sn=3:=(by omega);rw[←e];exact HQ.out);have HKR:=H' HL.out.keep;clear HL;obtain⟨S',hS0⟩:∃S:World->Prop,S=fun w'=>bM w w' B M pv n t sn (.slice sa sn sc_) pvs vss/\cO w' B M pv (.slice sa sn sc_) pvc q/\w'.heap[b12]?=some (.cells qc.toArray 26 (0,0))/\aA aB w w':=⟨_,rfl⟩
   have HSE:=H' (show ∀w',S' w'->_ from fun w' h=>by rw[hS0] at h;exact h);have HSI:=H' (show ∀w',_->S' w' from fun w' h=>by rw[hS0];exact h);have hkd:=(aA.refl aB wr).drew;have hS:S' wr.drew:=HSI.out _ ⟨HR.out.keep0 hkd,HWP.out.keep0 hkd,hkd.blk HB12.out id,(HK8.out.1.trans HKR.out).trans hkd⟩;have HB9d:=H' (hkd.blk HB9.out id);clear hS0 hkd;refine wp_region_held (S:=S') (by kernel_rfl) ?_;change wpAnyH _ _ _ _ _ _ _ _ wr.drew;generalize wr.drew=wy at hS HB9d ⊢;refine tna 0 (.slice sa sn sc_) rfl hS ?_;refine tnd 1 (.agg qc.toArray) rfl (yieldsIf_load_mid (by rfl) 26 (.tmp 12) rfl b12 0 rfl qc _ (fun w' h=>aC (HSE.out w' h).2.2.1) aI rfl (by rw[hqc];exact aE)) hS ?_;refine tna 2 (.slice sa sn sc_) rfl hS ?_;refine aF (k:=3) rfl (by kernel_rfl) ?_;refine sta 26 (.tmp 9) (.tmp 57) b9 0 qc HB9d.out (by rw[List.size_toArray,aG,hqc];omega) (by rw[hqc];exact aE) HOQ.out ?_;intro wz hk hb;rw[aK _ _ (by rw[List.size_toArray,aG,hqc])] at hb;have HB9z:=H' hb
   have hS1:S' wz:=HSI.out _ (by
    obtain⟨h1,h2,h3,h4⟩:=HSE.out _ hS;have g0:=HGE.out.1;refine⟨h1.keepT hk (fun i hi e=>?_) (fun i hi e=>?_) (fun i hi e=>by omega),h2.keepT hk (fun i hi e=>?_) (fun i hi e=>by omega),hk.blk h3 HNE.out.symm,h4.trans' hk (fun _ _ h=>h) (fun i hi e=>by omega)⟩
    ·obtain⟨cur,hc⟩:=aO h1.row hi
     exact iM hc HB9d.out (by decide) e
    ·have:=HP0.out i hi;omega
    ·have:=HP0.out i hi;omega)
   clear hS hk hb;refine wpList_nil ?_;refine⟨hS1,?_⟩;refine tna 4 (.int .i64 0) rfl hS1 ?_;refine wpAnyH_done (by kernel_rfl) ?_ _;have HF:=H' (HSE.out _ hS1);clear hS1 HSE HSI HR HWP HB12 HB9 HB9d;go_wp2_with fail;refine bodyPost_ret (pW rfl _ _ b9 _ _ _ _ rfl HB9z.out aI rfl (by rw[List.size_toArray,hqc];exact aE)) rfl ?_;exact⟨_,pvc,sn,pvs,vss,M,by rw[HQ3.out,HQC.out];rfl,(fun _=>by omega),HM.out,HF.out.1,by rw[HQ3.out];exact HF.out.2.1,HF.out.2.2.2⟩
  ·obtain⟨l2,rfl⟩:∃l2,l=l2+1:=⟨l-1,by omega⟩
   have hl2:l2≤2:=by omega
   have HOKP:=H' (hE (n:=n) HT.out sn (by omega));have e4:3-sn=l2+1:=by omega
   rw[e4] at HOKP;clear e4 hl0;have hl20:(0:Int)≤(l2:Int):=by omega
   go_wp2_with (first
    | ((with_reducible show WL (some 32) (.load 26 _));refine wpList_load_mid rfl 26 (.tmp 12) rfl b12 0 rfl qc _ (aC HB12.out) aI rfl (by rw[hqc];exact aE) ?_))
   refine((by rw[←HQC.out,←HQ.out];exact pG HKi.out hl2 pvc (aP n t sn) HOKP.out (by rw[HQ.out];exact HWP.out.val.pt):Calls _ _ _ wr (iC wr B l2 (aP n t sn)))).mono ?_;rintro e w6 ⟨vs,rfl,hvs,hnew,hk⟩;have HNN:=H' hvs;have HNW:=H' hnew;have HWS:=H' HL.out.keep.size;have hnn:=dF ((l2+1:Nat):Int) vs hvs.nv;have HOF0:=dS ((l2+1:Nat):Int) hvs.nv;obtain⟨nn,hnne⟩:∃x,cH ((l2+1:Nat):Int) vs (fun i=>((aP n t sn).kid i).ptr)=x:=⟨_,rfl⟩
   have HOF:Hid (∀u∈nn,u.oneCell'=true):=H' (by rw[←hnne];exact HOF0);have HNF:=H' hnne;rw[hnne] at hnn ⊢;clear HOF0 hnne hvs hnew;replace HL:=H' (HL.out.keeps hk);replace HR:=H' (bM.keep0 HR.out hk);replace HWP:=H' (cO.keep0 HWP.out hk);replace HKi:=H' (HKi.out.keep0 hk);replace HB12:=H' (hk.blk HB12.out id);replace HB9:=H' (hk.blk HB9.out id);clear hk;have HKR:=H' HL.out.keep;replace HL:=H' (Loc.nil aB aB w6);have HR1:=HR;have HWP1:=HWP;have HKi1:=HKi;have HB121:=HB12;have HB91:=HB9;have HNN1:=HNN
   go_wp2_with (first
    | ((with_reducible show WL (some 14) (.alloc 123));refine al 123 (.agg dY.toArray) (dY.toArray) kY ?_))
   intro b14 w7 hbs hk0 hb0_
   go_wp2_with (first
    | ((with_reducible show WL _ (.store 123 (.tmp 14) (.tmp 35)));refine sta 123 (.tmp 14) (.tmp 35) b14 0 nn hb0_ (by first|decide|(rw[List.size_toArray,hnn];exact Nat.le_refl _)|simp[hnn,cN]) (by rw[hnn];exact dZ) HOF.out ?_))
   intro w8 hk hb;rw[aK _ _ (by first|rfl|(rw[List.size_toArray,hnn];rfl)|simp[hnn,cN])] at hb;replace hk:=hk0.trans' hk (U:=aB) (fun _ _ h=>h) (fun i hi e=>by omega);replace HL:=H' (HL.out.new (fun _ h=>h.elim) hbs hk hb);replace HR:=H' (bM.keep0 HR.out hk);replace HWP:=H' (cO.keep0 HWP.out hk);replace HKi:=H' (HKi.out.keep0 hk);replace HB12:=H' (hk.blk HB12.out id);replace HB9:=H' (hk.blk HB9.out id);replace HNN:=H' (bQ.keep0 HNN.out hk);clear hbs hk hb hk0 hb0_;obtain⟨d,hde⟩:∃d,n / 4 ^ l2 % 4=d:=⟨_,rfl⟩
   have HDE:=H' hde;have hd4:d<4:=by rw[←hde];exact gD n l2
   have hbs:=Ay qc nn ((d:Nat):Int) hqc hnn;have hsc:(qc++(nn++([.int .i64 ((d:Nat):Int)]:List Value))).length=177:=by simp[hqc,hnn]
   obtain⟨sc,hsce⟩:∃x,qc++(nn++([.int .i64 ((d:Nat):Int)]:List Value))=x:=⟨_,rfl⟩
   have HOSC:Hid (∀u∈sc,u.oneCell'=true):=H' (by
    intro u hu;rw[←hsce] at hu;rcases List.mem_append.1 hu with hu|hu
    ·exact HOQ.out u hu
    rcases List.mem_append.1 hu with hu|hu
    ·exact HOF.out u hu
    ·rcases List.mem_singleton.1 hu with rfl;rfl)
   have HSC:=H' hsce;rw[hsce] at hbs hsc;have HBS:=H' hbs;clear hde hbs hsce;go_wp2_with fail;obtain⟨S,hS0⟩:∃S:World->Prop,S=fun w'=>aA aB w8.drew w':=⟨_,rfl⟩
   have HSE:=H' (show ∀w',S w'->aA aB w8.drew w' from fun w' h=>by rw[hS0] at h;exact h);have HSI:=H' (show ∀w',aA aB w8.drew w'->S w' from fun w' h=>by rw[hS0];exact h);have hS:S w8.drew:=by rw[hS0];exact aA.refl _ _
   have hkd:=(aA.refl aB w8).drew;clear hS0;refine wp_region_held (S:=S) (by kernel_rfl) ?_;change wpAnyH _ _ _ _ _ _ _ _ w8.drew;generalize w8.drew=w9 at HSE HSI hS hkd ⊢;replace HL:=H' (HL.out.keeps hkd);replace HR:=H' (bM.keep0 HR.out hkd);replace HWP:=H' (cO.keep0 HWP.out hkd);replace HKi:=H' (HKi.out.keep0 hkd);replace HB12:=H' (hkd.blk HB12.out id);replace HB9:=H' (hkd.blk HB9.out id);replace HNN:=H' (bQ.keep0 HNN.out hkd);clear hkd;have HLs:=HL;have HRs:=HR;have HWPs:=HWP;have HKis:=HKi;have HB12s:=HB12;have HB9s:=HB9;have HNNs:=HNN;refine tnd 0 (.agg qc.toArray) rfl (yieldsIf_load_mid (by rfl) 26 (.tmp 12) rfl b12 0 rfl qc _ (fun w' h=>(HSE.out w' h).rangeAt (aC HB12s.out)) aI rfl (by rw[hqc];exact aE)) hS ?_;refine tnd 1 (.agg nn.toArray) rfl (yieldsIf_load_mid (by rfl) 123 (.tmp 14) rfl b14 0 rfl nn _ (fun w' h=>aC ((HSE.out w' h).blk (HLs.out.b 0) id)) Tryz.underlying123 rfl (by rw[hnn];exact dZ)) hS ?_;refine tna 2 (.int .i64 (n:Int)) rfl hS ?_;refine tna 3 (.int .i64 ((l2+1:Nat):Int)) rfl hS ?_;refine dN (k:=4) (l:=6) rfl rfl (by kernel_rfl) ?_ ?_
   ·go_wp2_with fail
    refine(pF w9 n l2 HN.out (by omega)).mono ?_;rintro e wa ⟨rfl,hk⟩;have hS1:=HSI.out _ ((HSE.out _ hS).trans hk);replace HL:=H' (HL.out.keeps hk);replace HR:=H' (bM.keep0 HR.out hk);replace HWP:=H' (cO.keep0 HWP.out hk);replace HKi:=H' (HKi.out.keep0 hk);replace HB12:=H' (hk.blk HB12.out id);replace HB9:=H' (hk.blk HB9.out id);replace HNN:=H' (bQ.keep0 HNN.out hk);clear hS hk;rw[HDE.out];go_wp2_with fail;refine⟨hS1,?_⟩;refine tnd 5 (.agg sc.toArray) rfl (fT 125 #[(0,.tmp 41),(1,.tmp 42),(2,.tmp 45)] [(0,.agg qc.toArray),(1,.agg nn.toArray),(2,.int .i64 ((d:Nat):Int))] (.agg sc.toArray) HBS.out) hS1 ?_;refine aF (k:=6) rfl (by kernel_rfl) ?_;refine al 125 (.agg eV.toArray) (eV.toArray) qO ?_;intro b16 wb hbs hk hb;have HNb16:=H' (show w9.heap.size≤b16 from by have:=(HSE.out _ hS1).size;omega);have hS2:=HSI.out _ ((HSE.out _ hS1).trans hk);clear hS1;replace HL:=H' (HL.out.new (fun _ h=>h.elim) hbs hk hb);replace HR:=H' (bM.keep0 HR.out hk);replace HWP:=H' (cO.keep0 HWP.out hk);replace HKi:=H' (HKi.out.keep0 hk);replace HB12:=H' (hk.blk HB12.out id);replace HB9:=H' (hk.blk HB9.out id);replace HNN:=H' (bQ.keep0 HNN.out hk);clear hbs hk hb;refine wpList_nil ?_;refine⟨hS2,?_⟩;refine aF (k:=7) rfl (by kernel_rfl) ?_;refine sta 125 (.tmp 16) (.tmp 46) b16 0 sc (HL.out.b 0) (by first|decide|(rw[hsc];exact Nat.le_refl _)|simp[hsc,eJ]) (by rw[hsc];exact jH) HOSC.out ?_;intro wc hk hb;rw[aK _ _ (by first|rfl|simp[hsc,eJ])] at hb;have hS3:=HSI.out _ ((HSE.out _ hS2).trans' hk (fun _ _ h=>h) (fun i hi e=>by have:=HNb16.out;omega));clear hS2;replace HL:=H' (HL.out.set 0 hk hb);replace HR:=H' (bM.keep0 HR1.out HL.out.keep);replace HWP:=H' (cO.keep0 HWP1.out HL.out.keep);replace HKi:=H' (HKi1.out.keep0 HL.out.keep);replace HB12:=H' (HL.out.keep.blk HB121.out id);replace HB9:=H' (HL.out.keep.blk HB91.out id);replace HNN:=H' (bQ.keep0 HNN1.out HL.out.keep);clear hk hb;refine wpList_nil ?_;refine⟨hS3,?_⟩;refine wpAnyH_done (by kernel_rfl) ?_ _;clear hS3 HSE HSI HLs HRs HWPs HKis HB12s HB9s HNNs;have HOR:=H' HR.out.row;have HSL:=H' (fun i (hi:(Value.slice sa sn sc_).ownBlock=some i)=>show i<wr.heap.size from by obtain⟨cur,hc⟩:=aO HRr.out.row hi;exact lt_of_block hc);have HKB:=H' HL.out.keep;have HB16:=H' (HL.out.b 0);have HB14:=H' (HL.out.b 1);have hGB:=And.intro (HL.out.lt 0).1 (HL.out.lt 1).1;have HGB:=H' hGB;have HMWR:=H' HK8.out.2;obtain⟨wE,hwe,hke,hbe,-⟩:=aX wc sc.toArray 125;obtain⟨bx,hbx⟩:∃x,wc.heap.size=x:=⟨_,rfl⟩
    rw[hbx] at hbe;have HRN:Hid (Rd wE 177 (.slice (some ⟨bx,0,none⟩) 1 1) 1 sc):=H' (eX (n:=1) (size:=177) hbe (by rw[hsc]) (by unfold maxLen;omega));have HO_:=H' (hke.owns HOR.out fun _ _=>id);have HSE_:=H' hke.size;have HBW_:=H' HL.out.keep.size;have HKE:=H' hke;have HBX:=H' hbx;have hsn2:sn≤2:=by omega
    clear hbe hke hGB HL
    go_wp2_with (first
     | ((with_reducible show WL (some 48) (.load 125 _));refine wpList_load_mid rfl 125 (.tmp 16) rfl b16 0 rfl sc _ (aC HB16.out) Tryz.underlying125 rfl (by rw[hsc];exact jH) ?_)
     | ((with_reducible show WL _ (.buildSlice _ 1 _));refine bS rfl 112 125 (.tmp 48) rfl Tryz.underlying112 mZ (by decide) sc hsc (by decide) rfl ?_;rw[hwe,hbx])
     | (at_builtin;refine aR rfl (.tmp 47) (.tmp 49) 112 rfl w.heap.size 125 (.agg eV.toArray) 177 376 Tryz.underlying112 mZ rfl (by decide) (.slice sa sn sc_) sn (gL n t sn pvs vss) rfl HO_.out (.slice (some ⟨bx,0,none⟩) 1 1) 1 sc rfl HRN.out HOSC.out (by unfold maxLen;omega) (by omega) (by have h1:=HSE_.out;have h2:=HBW_.out;have h3:=HWB.out;have h4:=HKR.out.size;omega) ?_))
    intro v2 w8 ho5 hk5 hn5 hb5;obtain⟨g5,c5,rfl⟩:=ownsRow_succ ho5;clear hwe hbx hn5 HRN HO_;have HAV:Hid (∀q,q<4->Apt (.slice sa sn sc_) (vs q)/\rR M (vs q)):=H' (fun q hq=>⟨fun i hi e=>by have h1:=HSL.out i hi;have h2:=HNW.out q hq i e;have h3:=HWS.out;omega,fun i hi=>by have h2:=HNW.out q hq i hi;have h3:=HWS.out;have h4:=HMWR.out;omega⟩)
    have HR8:Hid (bM w w8 B M pv n t (sn+1) (.slice (some ⟨g5,0,none⟩) (sn+1) c5) (fun j=>if j=sn then pvc else pvs j) (fun j=>if j=sn then vs else vss j)):=H' (HR.out.next HKE.out (by rw[HQ.out];exact HWP.out.val) HWP.out.apt HWP.out.far HNN.out HAV.out (by
     have e:dJ n t sn pvc vs=sc:=by
      unfold dJ;rw[HQ.out,HQC.out,←HSC.out,←HNF.out,←HDE.out,show 3-sn=l2+1 by omega,show 2-sn=l2 by omega]
     rw[e];exact ho5) hk5 hb5)
    have HO8:Hid (∀i,(Value.slice sa sn sc_).ownBlock=some i->i≠b9/\i≠b12/\i≠b14/\i≠b16):=H' (fun i hi=>by
     have h1:=HSL.out i hi;obtain⟨cur,hc⟩:=aO HOR.out hi;exact⟨iM hc HB9.out (by decide),iM hc HB12.out (by decide),by have:=HGB.out.2;have:=HKR.out.size;omega,by have:=HGB.out.1;have:=HKR.out.size;omega⟩)
    have HB9e:=H' (hk5.blk (HKE.out.blk HB9.out id) (fun e=>(HO8.out _ e).1 rfl));have HB12e:=H' (hk5.blk (HKE.out.blk HB12.out id) (fun e=>(HO8.out _ e).2.1 rfl));have HB14e:=H' (hk5.blk (HKE.out.blk HB14.out id) (fun e=>(HO8.out _ e).2.2.1 rfl));have HB16e:=H' (hk5.blk (HKE.out.blk HB16.out id) (fun e=>(HO8.out _ e).2.2.2 rfl));have HOWB:=H' (fun i (hi:(Value.slice sa sn sc_).ownBlock=some i)=>show w.heap.size≤i from bH HOR.out hi);have HK9:Hid (aA aB w w8):=H' ((((HK8.out.1.trans HKR.out).trans HKB.out).trans HKE.out).trans' hk5 (fun _ _ h=>h) (fun i hi e=>by have:=HOWB.out i e;omega));have HMS:=H' (show M≤w8.heap.size from by have h1:=HMWR.out;have h2:=HKR.out.size;have h3:=HKB.out.size;have h4:=HKE.out.size;have h5:=hk5.size;omega);have HVD:Hid (cO w8 B M pv (.slice (some ⟨g5,0,none⟩) (sn+1) c5) (vs d) ((aP n t sn).kid d).ptr):=H' ⟨(((HNN.out d hd4).keep0 HKE.out).keepT hk5 (fun i hi e=>(HAV.out d hd4).1 i e hi)),kR (HAV.out d hd4).1 hb5 ((HNN.out d hd4).keep0 HKE.out),.inr (HAV.out d hd4).2⟩;have hkc:=aN (v:=vs d) HVD.out.val.pt.sum;have HOKC0:=bC HVD.out.val.pt;have HKA0:=kM HNN.out.nv (by rw[HNF.out];exact aC HB14e.out) hd4;obtain⟨kc,hkce⟩:∃x,aJ (vs d) ((aP n t sn).kid d).ptr=x:=⟨_,rfl⟩
    have HOKC:Hid (∀u∈kc,u.oneCell'=true):=H' (by rw[←hkce];exact HOKC0);have HKC:=H' hkce;rw[hkce] at hkc HKA0;have HKA:=H' HKA0;have hdi0:(0:Int)≤(d:Int):=by omega
    have hdi1:(d:Int)<4:=by omega
    have hcd:w8.cell? ⟨b16,176,none⟩=some (.int .i64 (d:Int)):=aD (i:=176) HB16e.out (by
     rw[←HSC.out,List.getElem?_toArray,List.getElem?_append_right (by omega),List.getElem?_append_right (by omega),hqc,hnn];rfl)
    clear ho5 hk5 hb5 HKA0 HOKC0 hkce HR HWP HKi HB12 HB9 HNN HB14 HB16 HOR
    go_wp2_with (first
     | ((with_reducible show WL (some 55) (.load 26 _));refine wpList_load_mid rfl 26 (.tmp 54) rfl b14 (1+d*35) rfl kc _ HKA.out aI rfl (by rw[hkc];exact aE) ?_)
     | ((with_reducible show WL _ (.store 26 (.tmp 12) (.tmp 55)));refine sta 26 (.tmp 12) (.tmp 55) b12 0 kc HB12e.out (by rw[List.size_toArray,hqc,hkc];omega) (by rw[hkc];exact aE) HOKC.out ?_))
    intro w9 hk hb;rw[aK _ _ (by rw[List.size_toArray,hqc,hkc])] at hb;have HG12:=HGE.out.2;have HX12:Hid (∀i,i=b12->w.heap.size≤i/\i<M):=H' (fun i e=>by rw[e];exact HG12);have HR9:=H' (HR8.out.keepT hk (fun i hi e=>by obtain⟨cur,hc⟩:=aO HR8.out.row hi;exact iM hc HB12e.out (by decide) e) (fun i hi e=>by have:=HP0.out i hi;have:=(HX12.out i e).1;omega) (fun i hi e=>by have:=(HX12.out i e).2;omega));have HP9:=H' (HVD.out.keepT hk (fun i hi e=>by have:=HP0.out i hi;have:=(HX12.out i e).1;omega) (fun i hi e=>by have:=(HX12.out i e).2;omega));have HK99:=H' (And.intro (HK9.out.trans' hk (fun _ _ h=>h) (fun i hi e=>by have:=(HX12.out i e).1;omega):aA aB w w9) (show M≤w9.heap.size from by have h1:=HMS.out;have h2:=hk.size;omega));have HB99:=H' (hk.blk HB9e.out HNE.out);have HNX:Hid (aP n t (sn+1)=(aP n t sn).kid d):=H' (by show (aP n t sn).kid (n / 4 ^ (2-sn) % 4)=_;rw[show 2-sn=l2 by omega,HDE.out]);have HB129:Hid (w9.heap[b12]?=some (.cells (aJ (vs d) (aP n t (sn+1)).ptr).toArray 26 (0,0))):=H' (by rw[hb,HNX.out,HKC.out]);rw[←HNX.out] at HP9;clear hk hb hcd HR8 HVD HB9e HB12e HB14e HB16e HKA;go_wp2_with fail
    go_roundw
    case rel=>exact⟨l2,some ⟨g5,0,none⟩,sn+1,c5,by omega,by first|rfl|go_num,rfl,HK99,H' ⟨_,_,HR9.out⟩,H' ⟨_,HP9.out,HB129.out⟩,HB99⟩
    case measure=>simp[intOf]
   ·refine al 125 (.agg eV.toArray) (eV.toArray) qO ?_
    intro b16 wa hbs hk hb;have HNb16:=H' (show w9.heap.size≤b16 from by have:=(HSE.out _ hS).size;omega);have hS1:=HSI.out _ ((HSE.out _ hS).trans hk);clear hS;replace HL:=H' (HL.out.new (fun _ h=>h.elim) hbs hk hb);replace HR:=H' (bM.keep0 HR.out hk);replace HWP:=H' (cO.keep0 HWP.out hk);replace HKi:=H' (HKi.out.keep0 hk);replace HB12:=H' (hk.blk HB12.out id);replace HB9:=H' (hk.blk HB9.out id);replace HNN:=H' (bQ.keep0 HNN.out hk);clear hbs hk hb;refine wpList_nil ?_;refine⟨hS1,?_⟩;refine aF (k:=4) rfl (by kernel_rfl) ?_;go_wp2_with fail;refine(pF wa n l2 HN.out (by omega)).mono ?_;rintro e wb ⟨rfl,hk⟩;have hS2:=HSI.out _ ((HSE.out _ hS1).trans hk);replace HL:=H' (HL.out.keeps hk);replace HR:=H' (bM.keep0 HR.out hk);replace HWP:=H' (cO.keep0 HWP.out hk);replace HKi:=H' (HKi.out.keep0 hk);replace HB12:=H' (hk.blk HB12.out id);replace HB9:=H' (hk.blk HB9.out id);replace HNN:=H' (bQ.keep0 HNN.out hk);clear hS1 hk;rw[HDE.out];go_wp2_with fail;refine⟨hS2,?_⟩;refine tnd 5 (.agg sc.toArray) rfl (fT 125 #[(0,.tmp 41),(1,.tmp 42),(2,.tmp 45)] [(0,.agg qc.toArray),(1,.agg nn.toArray),(2,.int .i64 ((d:Nat):Int))] (.agg sc.toArray) HBS.out) hS2 ?_;refine aF (k:=7) rfl (by kernel_rfl) ?_;refine sta 125 (.tmp 16) (.tmp 46) b16 0 sc (HL.out.b 0) (by first|decide|(rw[hsc];exact Nat.le_refl _)|simp[hsc,eJ]) (by rw[hsc];exact jH) HOSC.out ?_;intro wc hk hb;rw[aK _ _ (by first|rfl|simp[hsc,eJ])] at hb;have hS3:=HSI.out _ ((HSE.out _ hS2).trans' hk (fun _ _ h=>h) (fun i hi e=>by have:=HNb16.out;omega));clear hS2;replace HL:=H' (HL.out.set 0 hk hb);replace HR:=H' (bM.keep0 HR1.out HL.out.keep);replace HWP:=H' (cO.keep0 HWP1.out HL.out.keep);replace HKi:=H' (HKi1.out.keep0 HL.out.keep);replace HB12:=H' (HL.out.keep.blk HB121.out id);replace HB9:=H' (HL.out.keep.blk HB91.out id);replace HNN:=H' (bQ.keep0 HNN1.out HL.out.keep);clear hk hb;refine wpList_nil ?_;refine⟨hS3,?_⟩;refine wpAnyH_done (by kernel_rfl) ?_ _;clear hS3 HSE HSI HLs HRs HWPs HKis HB12s HB9s HNNs;have HOR:=H' HR.out.row;have HSL:=H' (fun i (hi:(Value.slice sa sn sc_).ownBlock=some i)=>show i<wr.heap.size from by obtain⟨cur,hc⟩:=aO HRr.out.row hi;exact lt_of_block hc);have HKB:=H' HL.out.keep;have HB16:=H' (HL.out.b 0);have HB14:=H' (HL.out.b 1);have hGB:=And.intro (HL.out.lt 0).1 (HL.out.lt 1).1;have HGB:=H' hGB;have HMWR:=H' HK8.out.2;obtain⟨wE,hwe,hke,hbe,-⟩:=aX wc sc.toArray 125;obtain⟨bx,hbx⟩:∃x,wc.heap.size=x:=⟨_,rfl⟩
    rw[hbx] at hbe;have HRN:Hid (Rd wE 177 (.slice (some ⟨bx,0,none⟩) 1 1) 1 sc):=H' (eX (n:=1) (size:=177) hbe (by rw[hsc]) (by unfold maxLen;omega));have HO_:=H' (hke.owns HOR.out fun _ _=>id);have HSE_:=H' hke.size;have HBW_:=H' HL.out.keep.size;have HKE:=H' hke;have HBX:=H' hbx;have hsn2:sn≤2:=by omega
    clear hbe hke hGB HL
    go_wp2_with (first
     | ((with_reducible show WL (some 48) (.load 125 _));refine wpList_load_mid rfl 125 (.tmp 16) rfl b16 0 rfl sc _ (aC HB16.out) Tryz.underlying125 rfl (by rw[hsc];exact jH) ?_)
     | ((with_reducible show WL _ (.buildSlice _ 1 _));refine bS rfl 112 125 (.tmp 48) rfl Tryz.underlying112 mZ (by decide) sc hsc (by decide) rfl ?_;rw[hwe,hbx])
     | (at_builtin;refine aR rfl (.tmp 47) (.tmp 49) 112 rfl w.heap.size 125 (.agg eV.toArray) 177 376 Tryz.underlying112 mZ rfl (by decide) (.slice sa sn sc_) sn (gL n t sn pvs vss) rfl HO_.out (.slice (some ⟨bx,0,none⟩) 1 1) 1 sc rfl HRN.out HOSC.out (by unfold maxLen;omega) (by omega) (by have h1:=HSE_.out;have h2:=HBW_.out;have h3:=HWB.out;have h4:=HKR.out.size;omega) ?_))
    intro v2 w8 ho5 hk5 hn5 hb5;obtain⟨g5,c5,rfl⟩:=ownsRow_succ ho5;clear hwe hbx hn5 HRN HO_;have HAV:Hid (∀q,q<4->Apt (.slice sa sn sc_) (vs q)/\rR M (vs q)):=H' (fun q hq=>⟨fun i hi e=>by have h1:=HSL.out i hi;have h2:=HNW.out q hq i e;have h3:=HWS.out;omega,fun i hi=>by have h2:=HNW.out q hq i hi;have h3:=HWS.out;have h4:=HMWR.out;omega⟩)
    have HR8:Hid (bM w w8 B M pv n t (sn+1) (.slice (some ⟨g5,0,none⟩) (sn+1) c5) (fun j=>if j=sn then pvc else pvs j) (fun j=>if j=sn then vs else vss j)):=H' (HR.out.next HKE.out (by rw[HQ.out];exact HWP.out.val) HWP.out.apt HWP.out.far HNN.out HAV.out (by
     have e:dJ n t sn pvc vs=sc:=by
      unfold dJ;rw[HQ.out,HQC.out,←HSC.out,←HNF.out,←HDE.out,show 3-sn=l2+1 by omega,show 2-sn=l2 by omega]
     rw[e];exact ho5) hk5 hb5)
    have HO8:Hid (∀i,(Value.slice sa sn sc_).ownBlock=some i->i≠b9/\i≠b12/\i≠b14/\i≠b16):=H' (fun i hi=>by
     have h1:=HSL.out i hi;obtain⟨cur,hc⟩:=aO HOR.out hi;exact⟨iM hc HB9.out (by decide),iM hc HB12.out (by decide),by have:=HGB.out.2;have:=HKR.out.size;omega,by have:=HGB.out.1;have:=HKR.out.size;omega⟩)
    have HB9e:=H' (hk5.blk (HKE.out.blk HB9.out id) (fun e=>(HO8.out _ e).1 rfl));have HB12e:=H' (hk5.blk (HKE.out.blk HB12.out id) (fun e=>(HO8.out _ e).2.1 rfl));have HB14e:=H' (hk5.blk (HKE.out.blk HB14.out id) (fun e=>(HO8.out _ e).2.2.1 rfl));have HB16e:=H' (hk5.blk (HKE.out.blk HB16.out id) (fun e=>(HO8.out _ e).2.2.2 rfl));have HOWB:=H' (fun i (hi:(Value.slice sa sn sc_).ownBlock=some i)=>show w.heap.size≤i from bH HOR.out hi);have HK9:Hid (aA aB w w8):=H' ((((HK8.out.1.trans HKR.out).trans HKB.out).trans HKE.out).trans' hk5 (fun _ _ h=>h) (fun i hi e=>by have:=HOWB.out i e;omega));have HMS:=H' (show M≤w8.heap.size from by have h1:=HMWR.out;have h2:=HKR.out.size;have h3:=HKB.out.size;have h4:=HKE.out.size;have h5:=hk5.size;omega);have HVD:Hid (cO w8 B M pv (.slice (some ⟨g5,0,none⟩) (sn+1) c5) (vs d) ((aP n t sn).kid d).ptr):=H' ⟨(((HNN.out d hd4).keep0 HKE.out).keepT hk5 (fun i hi e=>(HAV.out d hd4).1 i e hi)),kR (HAV.out d hd4).1 hb5 ((HNN.out d hd4).keep0 HKE.out),.inr (HAV.out d hd4).2⟩;have hkc:=aN (v:=vs d) HVD.out.val.pt.sum;have HOKC0:=bC HVD.out.val.pt;have HKA0:=kM HNN.out.nv (by rw[HNF.out];exact aC HB14e.out) hd4;obtain⟨kc,hkce⟩:∃x,aJ (vs d) ((aP n t sn).kid d).ptr=x:=⟨_,rfl⟩
    have HOKC:Hid (∀u∈kc,u.oneCell'=true):=H' (by rw[←hkce];exact HOKC0);have HKC:=H' hkce;rw[hkce] at hkc HKA0;have HKA:=H' HKA0;have hdi0:(0:Int)≤(d:Int):=by omega
    have hdi1:(d:Int)<4:=by omega
    have hcd:w8.cell? ⟨b16,176,none⟩=some (.int .i64 (d:Int)):=aD (i:=176) HB16e.out (by
     rw[←HSC.out,List.getElem?_toArray,List.getElem?_append_right (by omega),List.getElem?_append_right (by omega),hqc,hnn];rfl)
    clear ho5 hk5 hb5 HKA0 HOKC0 hkce HR HWP HKi HB12 HB9 HNN HB14 HB16 HOR
    go_wp2_with (first
     | ((with_reducible show WL (some 55) (.load 26 _));refine wpList_load_mid rfl 26 (.tmp 54) rfl b14 (1+d*35) rfl kc _ HKA.out aI rfl (by rw[hkc];exact aE) ?_)
     | ((with_reducible show WL _ (.store 26 (.tmp 12) (.tmp 55)));refine sta 26 (.tmp 12) (.tmp 55) b12 0 kc HB12e.out (by rw[List.size_toArray,hqc,hkc];omega) (by rw[hkc];exact aE) HOKC.out ?_))
    intro w9 hk hb;rw[aK _ _ (by rw[List.size_toArray,hqc,hkc])] at hb;have HG12:=HGE.out.2;have HX12:Hid (∀i,i=b12->w.heap.size≤i/\i<M):=H' (fun i e=>by rw[e];exact HG12);have HR9:=H' (HR8.out.keepT hk (fun i hi e=>by obtain⟨cur,hc⟩:=aO HR8.out.row hi;exact iM hc HB12e.out (by decide) e) (fun i hi e=>by have:=HP0.out i hi;have:=(HX12.out i e).1;omega) (fun i hi e=>by have:=(HX12.out i e).2;omega));have HP9:=H' (HVD.out.keepT hk (fun i hi e=>by have:=HP0.out i hi;have:=(HX12.out i e).1;omega) (fun i hi e=>by have:=(HX12.out i e).2;omega));have HK99:=H' (And.intro (HK9.out.trans' hk (fun _ _ h=>h) (fun i hi e=>by have:=(HX12.out i e).1;omega):aA aB w w9) (show M≤w9.heap.size from by have h1:=HMS.out;have h2:=hk.size;omega));have HB99:=H' (hk.blk HB9e.out HNE.out);have HNX:Hid (aP n t (sn+1)=(aP n t sn).kid d):=H' (by show (aP n t sn).kid (n / 4 ^ (2-sn) % 4)=_;rw[show 2-sn=l2 by omega,HDE.out]);have HB129:Hid (w9.heap[b12]?=some (.cells (aJ (vs d) (aP n t (sn+1)).ptr).toArray 26 (0,0))):=H' (by rw[hb,HNX.out,HKC.out]);rw[←HNX.out] at HP9;clear hk hb hcd HR8 HVD HB9e HB12e HB14e HB16e HKA;go_wp2_with fail
    go_roundw
    case rel=>exact⟨l2,some ⟨g5,0,none⟩,sn+1,c5,by omega,by first|rfl|go_num,rfl,HK99,H' ⟨_,_,HR9.out⟩,H' ⟨_,HP9.out,HB129.out⟩,HB99⟩
    case measure=>simp[intOf]
theorem EY{w:World}{c:Nat}{S:Kor}{B:Nat->Prop}(hK:KI w c S B)(pv:Value)(t:Tr)(ht:Tr.Ok S 3 t)(hp:aL w B pv t.ptr)(n:Nat)(hn:n<64):Calls Tryz.prog 47 #[.pointer (some ⟨c,0,none⟩),.agg (aJ pv t.ptr).toArray,.int .i64 (n:Int),.bool true] w (qN w B pv n t true):=by
 have HT:=H' ht;have HN:=H' hn;have HPT:=H' hp;have HK:=H' hK;obtain⟨p,hpe⟩:∃p,t.ptr=p:=⟨_,rfl⟩
 have HPE:=H' hpe;rw[hpe] at HPT hp ⊢;obtain⟨pc,HPC,hpc,HOP⟩:=nmPt hp.pt;rw[HPC.out];have HL:=H' (Loc.nil aB aB w);clear hp ht hK hpe;have HPT0:=HPT;have HK0:=HK;go_enter Tryz.func47,Tryz.ntmps47
 go_wp2_with (first
  | ((with_reducible show WL (some 5) (.box 26 _));refine bx 26 (.tmp 1) (pc.toArray) ?_))
 intro b5 w1 hbs hk hb;replace HL:=H' (HL.out.new (fun _ h=>h.elim) hbs hk hb);replace HPT:=H' (aL.keep0 HPT.out hk);replace HK:=H' (HK.out.keep0 hk);clear hbs hk hb
 go_wp2_with (first
  | ((with_reducible show WL (some 9) (.alloc 26));refine al 26 (.agg aH.toArray) (aH.toArray) aU ?_))
 intro b9 w2 hbs hk hb;replace HL:=H' (HL.out.new (fun _ h=>h.elim) hbs hk hb);replace HPT:=H' (aL.keep0 HPT.out hk);replace HK:=H' (HK.out.keep0 hk);clear hbs hk hb
 go_wp2_with (first
  | ((with_reducible show WL (some 17) (.load 26 _));refine wpList_load_mid rfl 26 (.tmp 5) rfl b5 0 rfl pc _ (aC (HL.out.b 1)) aI rfl (by rw[hpc];exact aE) ?_)
  | ((with_reducible show WL (some 12) (.alloc 26));refine al 26 (.agg aH.toArray) (aH.toArray) aU ?_))
 intro b12 w3 hbs hk0 hb0_
 go_wp2_with (first
  | ((with_reducible show WL _ (.store 26 (.tmp 12) (.tmp 17)));refine sta 26 (.tmp 12) (.tmp 17) b12 0 pc hb0_ (by first|decide|(rw[List.size_toArray,hpc];exact Nat.le_refl _)|simp[hpc,aG]) (by rw[hpc];exact aE) HOP.out ?_))
 intro w4 hk hb;rw[aK _ _ (by first|rfl|(rw[List.size_toArray,hpc];rfl)|simp[hpc,aG])] at hb;replace hk:=hk0.trans' hk (U:=aB) (fun _ _ h=>h) (fun i hi e=>by omega);replace HL:=H' (HL.out.new (fun _ h=>h.elim) hbs hk hb);replace HPT:=H' (aL.keep0 HPT.out hk);replace HK:=H' (HK.out.keep0 hk);clear hbs hk hb hk0 hb0_;go_wp2_with fail;have HB9:=H' (HL.out.b 1);have HB12:=H' (HL.out.b 0);have HGE:=H' (And.intro (HL.out.lt 1) (HL.out.lt 0));have HNE:Hid (b9≠b12):=H' (fun e=>bK (i:=0) HL.out.nd rfl 1 (by decide) rfl e);have HKW:=H' HL.out.keep;obtain⟨M,hM⟩:∃M,w4.heap.size=M:=⟨_,rfl⟩
 rw[hM] at HGE;have HM:=H' (show w.heap.size≤M from by have:=HKW.out.size;omega);have HMW:=H' (Nat.le_of_eq hM.symm);obtain⟨Wh,hWh⟩:∃W,w4=W:=⟨_,rfl⟩
 rw[hWh] at HPT HK HB9 HB12 HKW HMW ⊢;have HP0:=H' (fun i (hi:pv.ownBlock=some i)=>(HPT0.out.off i hi).2.lt);clear HL hWh hM
 go_loopw [11,13] (fun s i wr=>∃(l:Nat) (sa:Option Addr) (sn sc:Nat),sn+l=3/\i=.int .i64 (l:Int)/\s=.slice sa sn sc/\Hid (aA aB w wr/\M≤wr.heap.size)/\Hid (∃pvs vss,bM w wr B M pv n t sn (.slice sa sn sc) pvs vss)/\Hid (∃pvc,cO wr B M pv (.slice sa sn sc) pvc (aP n t sn).ptr/\wr.heap[b12]?=some (.cells (aJ pvc (aP n t sn).ptr).toArray 26 (0,0)))/\Hid (wr.heap[b9]?=some (.cells aH.toArray 26 (0,0)))) (fun _ i _=>(intOf i).toNat)
 case atStart=>exact⟨3,none,0,0,by omega,rfl,rfl,H' ⟨HKW.out,HMW.out⟩,H' ⟨_,_,bM.nil _ _ _ _ _ _ _⟩,H' ⟨pv,⟨by show aL _ B pv t.ptr;rw[HPE.out];exact HPT.out,(fun i hi=>by cases hi),.inl rfl⟩,by have h:=HB12.out;rw[←HPC.out,←HPE.out] at h;exact h⟩,HB9⟩
 case round =>
  obtain⟨l,sa,sn,sc_,hsn,rfl,rfl,HK8,HWR,HPV,HB9⟩:=hrel;obtain⟨pvs,vss,hwr⟩:=HWR.out;obtain⟨pvc,hpv1,hpv3⟩:=HPV.out;obtain⟨q,hq⟩:∃q,(aP n t sn).ptr=q:=⟨_,rfl⟩
  have HQ:=H' hq;rw[hq] at hpv1 hpv3;have hqc:=aN (v:=pvc) hpv1.val.pt.sum;have HOQ0:=bC hpv1.val.pt;obtain⟨qc,hqce⟩:∃x,aJ pvc q=x:=⟨_,rfl⟩
  have HOQ:Hid (∀u∈qc,u.oneCell'=true):=H' (by rw[←hqce];exact HOQ0);have HQC:=H' hqce;rw[hqce] at hqc hpv3;have HR:=H' hwr;have HWP:=H' hpv1;have HB12:=H' hpv3;have HKi:=H' (HK0.out.keep0 HK8.out.1);clear hwr hpv1 hpv3 HWR HPV hq hqce HOQ0;have HL:=H' (Loc.nil aB aB wr);have HRr:=HR;have HWB:=H' HK8.out.1.size;have HKWR:=H' (Nat.le_refl wr.heap.size)
  by_cases hl0:l=0
  ·subst hl0
   go_wp2_with fail;have HQ3:Hid ((aP n t 3).ptr=q):=H' (by have e:sn=3:=(by omega);rw[←e];exact HQ.out);have HKR:=H' HL.out.keep;clear HL;obtain⟨S',hS0⟩:∃S:World->Prop,S=fun w'=>bM w w' B M pv n t sn (.slice sa sn sc_) pvs vss/\cO w' B M pv (.slice sa sn sc_) pvc q/\w'.heap[b12]?=some (.cells qc.toArray 26 (0,0))/\aA aB w w':=⟨_,rfl⟩
   have HSE:=H' (show ∀w',S' w'->_ from fun w' h=>by rw[hS0] at h;exact h);have HSI:=H' (show ∀w',_->S' w' from fun w' h=>by rw[hS0];exact h);have hkd:=(aA.refl aB wr).drew;have hS:S' wr.drew:=HSI.out _ ⟨HR.out.keep0 hkd,HWP.out.keep0 hkd,hkd.blk HB12.out id,(HK8.out.1.trans HKR.out).trans hkd⟩;have HB9d:=H' (hkd.blk HB9.out id);clear hS0 hkd;refine wp_region_held (S:=S') (by kernel_rfl) ?_;change wpAnyH _ _ _ _ _ _ _ _ wr.drew;generalize wr.drew=wy at hS HB9d ⊢;refine tna 0 (.slice sa sn sc_) rfl hS ?_;refine tnd 1 (.agg qc.toArray) rfl (yieldsIf_load_mid (by rfl) 26 (.tmp 12) rfl b12 0 rfl qc _ (fun w' h=>aC (HSE.out w' h).2.2.1) aI rfl (by rw[hqc];exact aE)) hS ?_;refine tna 2 (.slice sa sn sc_) rfl hS ?_;refine aF (k:=3) rfl (by kernel_rfl) ?_;refine sta 26 (.tmp 9) (.tmp 57) b9 0 qc HB9d.out (by rw[List.size_toArray,aG,hqc];omega) (by rw[hqc];exact aE) HOQ.out ?_;intro wz hk hb;rw[aK _ _ (by rw[List.size_toArray,aG,hqc])] at hb;have HB9z:=H' hb
   have hS1:S' wz:=HSI.out _ (by
    obtain⟨h1,h2,h3,h4⟩:=HSE.out _ hS;have g0:=HGE.out.1;refine⟨h1.keepT hk (fun i hi e=>?_) (fun i hi e=>?_) (fun i hi e=>by omega),h2.keepT hk (fun i hi e=>?_) (fun i hi e=>by omega),hk.blk h3 HNE.out.symm,h4.trans' hk (fun _ _ h=>h) (fun i hi e=>by omega)⟩
    ·obtain⟨cur,hc⟩:=aO h1.row hi
     exact iM hc HB9d.out (by decide) e
    ·have:=HP0.out i hi;omega
    ·have:=HP0.out i hi;omega)
   clear hS hk hb;refine wpList_nil ?_;refine⟨hS1,?_⟩;refine tna 4 (.int .i64 0) rfl hS1 ?_;refine wpAnyH_done (by kernel_rfl) ?_ _;have HF:=H' (HSE.out _ hS1);clear hS1 HSE HSI HR HWP HB12 HB9 HB9d;go_wp2_with fail;refine bodyPost_ret (pW rfl _ _ b9 _ _ _ _ rfl HB9z.out aI rfl (by rw[List.size_toArray,hqc];exact aE)) rfl ?_;exact⟨_,pvc,sn,pvs,vss,M,by rw[HQ3.out,HQC.out];rfl,(fun h=>by cases h),HM.out,HF.out.1,by rw[HQ3.out];exact HF.out.2.1,HF.out.2.2.2⟩
  ·obtain⟨l2,rfl⟩:∃l2,l=l2+1:=⟨l-1,by omega⟩
   have hl2:l2≤2:=by omega
   have HOKP:=H' (hE (n:=n) HT.out sn (by omega));have e4:3-sn=l2+1:=by omega
   rw[e4] at HOKP;clear e4 hl0;cases hh:(aP n t sn).isHole
   ·have HHQ:Hid (q.hole=false):=H' (by rw[←HQ.out,HOKP.out.hole_eq];exact hh)
    clear hh
    go_wp2_with (first
     | ((with_reducible show WL (some 23) (.load 26 _));refine aV (by rfl) 26 (.tmp 12) rfl b12 0 rfl qc _ (aC HB12.out) aI rfl (by rw[hqc];exact aE) ?_))
    refine((by rw[←HQC.out];exact cK wr pvc q HWP.out.val.pt:Calls _ _ _ wr (bE wr q.hole))).mono ?_;rintro e w6 ⟨rfl,hk⟩;replace HL:=H' (HL.out.keeps hk);replace HR:=H' (bM.keep0 HR.out hk);replace HWP:=H' (cO.keep0 HWP.out hk);replace HKi:=H' (HKi.out.keep0 hk);replace HB12:=H' (hk.blk HB12.out id);replace HB9:=H' (hk.blk HB9.out id);clear hk;rw[HHQ.out]
    go_wp2_with (first
     | ((with_reducible show WL (some 32) (.load 26 _));refine wpList_load_mid rfl 26 (.tmp 12) rfl b12 0 rfl qc _ (aC HB12.out) aI rfl (by rw[hqc];exact aE) ?_))
    refine((by rw[←HQC.out,←HQ.out];exact pG HKi.out hl2 pvc (aP n t sn) HOKP.out (by rw[HQ.out];exact HWP.out.val.pt):Calls _ _ _ w6 (iC w6 B l2 (aP n t sn)))).mono ?_;rintro e w7 ⟨vs,rfl,hvs,hnew,hk⟩;have HNN:=H' hvs;have HNW:=H' hnew;have HWS:=H' HL.out.keep.size;have hnn:=dF ((l2+1:Nat):Int) vs hvs.nv;have HOF0:=dS ((l2+1:Nat):Int) hvs.nv;obtain⟨nn,hnne⟩:∃x,cH ((l2+1:Nat):Int) vs (fun i=>((aP n t sn).kid i).ptr)=x:=⟨_,rfl⟩
    have HOF:Hid (∀u∈nn,u.oneCell'=true):=H' (by rw[←hnne];exact HOF0);have HNF:=H' hnne;rw[hnne] at hnn ⊢;clear HOF0 hnne hvs hnew;replace HL:=H' (HL.out.keeps hk);replace HR:=H' (bM.keep0 HR.out hk);replace HWP:=H' (cO.keep0 HWP.out hk);replace HKi:=H' (HKi.out.keep0 hk);replace HB12:=H' (hk.blk HB12.out id);replace HB9:=H' (hk.blk HB9.out id);clear hk;have HKR:=H' HL.out.keep;replace HL:=H' (Loc.nil aB aB w7);have HR1:=HR;have HWP1:=HWP;have HKi1:=HKi;have HB121:=HB12;have HB91:=HB9;have HNN1:=HNN
    go_wp2_with (first
     | ((with_reducible show WL (some 14) (.alloc 123));refine al 123 (.agg dY.toArray) (dY.toArray) kY ?_))
    intro b14 w8 hbs hk0 hb0_
    go_wp2_with (first
     | ((with_reducible show WL _ (.store 123 (.tmp 14) (.tmp 35)));refine sta 123 (.tmp 14) (.tmp 35) b14 0 nn hb0_ (by first|decide|(rw[List.size_toArray,hnn];exact Nat.le_refl _)|simp[hnn,cN]) (by rw[hnn];exact dZ) HOF.out ?_))
    intro w9 hk hb;rw[aK _ _ (by first|rfl|(rw[List.size_toArray,hnn];rfl)|simp[hnn,cN])] at hb;replace hk:=hk0.trans' hk (U:=aB) (fun _ _ h=>h) (fun i hi e=>by omega);replace HL:=H' (HL.out.new (fun _ h=>h.elim) hbs hk hb);replace HR:=H' (bM.keep0 HR.out hk);replace HWP:=H' (cO.keep0 HWP.out hk);replace HKi:=H' (HKi.out.keep0 hk);replace HB12:=H' (hk.blk HB12.out id);replace HB9:=H' (hk.blk HB9.out id);replace HNN:=H' (bQ.keep0 HNN.out hk);clear hbs hk hb hk0 hb0_;obtain⟨d,hde⟩:∃d,n / 4 ^ l2 % 4=d:=⟨_,rfl⟩
    have HDE:=H' hde;have hd4:d<4:=by rw[←hde];exact gD n l2
    have hbs:=Ay qc nn ((d:Nat):Int) hqc hnn;have hsc:(qc++(nn++([.int .i64 ((d:Nat):Int)]:List Value))).length=177:=by simp[hqc,hnn]
    obtain⟨sc,hsce⟩:∃x,qc++(nn++([.int .i64 ((d:Nat):Int)]:List Value))=x:=⟨_,rfl⟩
    have HOSC:Hid (∀u∈sc,u.oneCell'=true):=H' (by
     intro u hu;rw[←hsce] at hu;rcases List.mem_append.1 hu with hu|hu
     ·exact HOQ.out u hu
     rcases List.mem_append.1 hu with hu|hu
     ·exact HOF.out u hu
     ·rcases List.mem_singleton.1 hu with rfl;rfl)
    have HSC:=H' hsce;rw[hsce] at hbs hsc;have HBS:=H' hbs;clear hde hbs hsce;go_wp2_with fail;obtain⟨S,hS0⟩:∃S:World->Prop,S=fun w'=>aA aB w9.drew w':=⟨_,rfl⟩
    have HSE:=H' (show ∀w',S w'->aA aB w9.drew w' from fun w' h=>by rw[hS0] at h;exact h);have HSI:=H' (show ∀w',aA aB w9.drew w'->S w' from fun w' h=>by rw[hS0];exact h);have hS:S w9.drew:=by rw[hS0];exact aA.refl _ _
    have hkd:=(aA.refl aB w9).drew;clear hS0;refine wp_region_held (S:=S) (by kernel_rfl) ?_;change wpAnyH _ _ _ _ _ _ _ _ w9.drew;generalize w9.drew=wa at HSE HSI hS hkd ⊢;replace HL:=H' (HL.out.keeps hkd);replace HR:=H' (bM.keep0 HR.out hkd);replace HWP:=H' (cO.keep0 HWP.out hkd);replace HKi:=H' (HKi.out.keep0 hkd);replace HB12:=H' (hkd.blk HB12.out id);replace HB9:=H' (hkd.blk HB9.out id);replace HNN:=H' (bQ.keep0 HNN.out hkd);clear hkd;have HLs:=HL;have HRs:=HR;have HWPs:=HWP;have HKis:=HKi;have HB12s:=HB12;have HB9s:=HB9;have HNNs:=HNN;refine tnd 0 (.agg qc.toArray) rfl (yieldsIf_load_mid (by rfl) 26 (.tmp 12) rfl b12 0 rfl qc _ (fun w' h=>(HSE.out w' h).rangeAt (aC HB12s.out)) aI rfl (by rw[hqc];exact aE)) hS ?_;refine tnd 1 (.agg nn.toArray) rfl (yieldsIf_load_mid (by rfl) 123 (.tmp 14) rfl b14 0 rfl nn _ (fun w' h=>aC ((HSE.out w' h).blk (HLs.out.b 0) id)) Tryz.underlying123 rfl (by rw[hnn];exact dZ)) hS ?_;refine tna 2 (.int .i64 (n:Int)) rfl hS ?_;refine tna 3 (.int .i64 ((l2+1:Nat):Int)) rfl hS ?_;refine dN (k:=4) (l:=6) rfl rfl (by kernel_rfl) ?_ ?_
    ·go_wp2_with fail
     refine(pF wa n l2 HN.out (by omega)).mono ?_;rintro e wb ⟨rfl,hk⟩;have hS1:=HSI.out _ ((HSE.out _ hS).trans hk);replace HL:=H' (HL.out.keeps hk);replace HR:=H' (bM.keep0 HR.out hk);replace HWP:=H' (cO.keep0 HWP.out hk);replace HKi:=H' (HKi.out.keep0 hk);replace HB12:=H' (hk.blk HB12.out id);replace HB9:=H' (hk.blk HB9.out id);replace HNN:=H' (bQ.keep0 HNN.out hk);clear hS hk;rw[HDE.out];go_wp2_with fail;refine⟨hS1,?_⟩;refine tnd 5 (.agg sc.toArray) rfl (fT 125 #[(0,.tmp 41),(1,.tmp 42),(2,.tmp 45)] [(0,.agg qc.toArray),(1,.agg nn.toArray),(2,.int .i64 ((d:Nat):Int))] (.agg sc.toArray) HBS.out) hS1 ?_;refine aF (k:=6) rfl (by kernel_rfl) ?_;refine al 125 (.agg eV.toArray) (eV.toArray) qO ?_;intro b16 wc hbs hk hb;have HNb16:=H' (show wa.heap.size≤b16 from by have:=(HSE.out _ hS1).size;omega);have hS2:=HSI.out _ ((HSE.out _ hS1).trans hk);clear hS1;replace HL:=H' (HL.out.new (fun _ h=>h.elim) hbs hk hb);replace HR:=H' (bM.keep0 HR.out hk);replace HWP:=H' (cO.keep0 HWP.out hk);replace HKi:=H' (HKi.out.keep0 hk);replace HB12:=H' (hk.blk HB12.out id);replace HB9:=H' (hk.blk HB9.out id);replace HNN:=H' (bQ.keep0 HNN.out hk);clear hbs hk hb;refine wpList_nil ?_;refine⟨hS2,?_⟩;refine aF (k:=7) rfl (by kernel_rfl) ?_;refine sta 125 (.tmp 16) (.tmp 46) b16 0 sc (HL.out.b 0) (by first|decide|(rw[hsc];exact Nat.le_refl _)|simp[hsc,eJ]) (by rw[hsc];exact jH) HOSC.out ?_;intro wd hk hb;rw[aK _ _ (by first|rfl|simp[hsc,eJ])] at hb;have hS3:=HSI.out _ ((HSE.out _ hS2).trans' hk (fun _ _ h=>h) (fun i hi e=>by have:=HNb16.out;omega));clear hS2;replace HL:=H' (HL.out.set 0 hk hb);replace HR:=H' (bM.keep0 HR1.out HL.out.keep);replace HWP:=H' (cO.keep0 HWP1.out HL.out.keep);replace HKi:=H' (HKi1.out.keep0 HL.out.keep);replace HB12:=H' (HL.out.keep.blk HB121.out id);replace HB9:=H' (HL.out.keep.blk HB91.out id);replace HNN:=H' (bQ.keep0 HNN1.out HL.out.keep);clear hk hb;refine wpList_nil ?_;refine⟨hS3,?_⟩;refine wpAnyH_done (by kernel_rfl) ?_ _;clear hS3 HSE HSI HLs HRs HWPs HKis HB12s HB9s HNNs;have HOR:=H' HR.out.row;have HSL:=H' (fun i (hi:(Value.slice sa sn sc_).ownBlock=some i)=>show i<wr.heap.size from by obtain⟨cur,hc⟩:=aO HRr.out.row hi;exact lt_of_block hc);have HKB:=H' HL.out.keep;have HB16:=H' (HL.out.b 0);have HB14:=H' (HL.out.b 1);have hGB:=And.intro (HL.out.lt 0).1 (HL.out.lt 1).1;have HGB:=H' hGB;have HMWR:=H' HK8.out.2;obtain⟨wE,hwe,hke,hbe,-⟩:=aX wd sc.toArray 125;obtain⟨bx,hbx⟩:∃x,wd.heap.size=x:=⟨_,rfl⟩
     rw[hbx] at hbe;have HRN:Hid (Rd wE 177 (.slice (some ⟨bx,0,none⟩) 1 1) 1 sc):=H' (eX (n:=1) (size:=177) hbe (by rw[hsc]) (by unfold maxLen;omega));have HO_:=H' (hke.owns HOR.out fun _ _=>id);have HSE_:=H' hke.size;have HBW_:=H' HL.out.keep.size;have HKE:=H' hke;have HBX:=H' hbx;have hsn2:sn≤2:=by omega
     clear hbe hke hGB HL
     go_wp2_with (first
      | ((with_reducible show WL (some 48) (.load 125 _));refine wpList_load_mid rfl 125 (.tmp 16) rfl b16 0 rfl sc _ (aC HB16.out) Tryz.underlying125 rfl (by rw[hsc];exact jH) ?_)
      | ((with_reducible show WL _ (.buildSlice _ 1 _));refine bS rfl 112 125 (.tmp 48) rfl Tryz.underlying112 mZ (by decide) sc hsc (by decide) rfl ?_;rw[hwe,hbx])
      | (at_builtin;refine aR rfl (.tmp 47) (.tmp 49) 112 rfl w.heap.size 125 (.agg eV.toArray) 177 376 Tryz.underlying112 mZ rfl (by decide) (.slice sa sn sc_) sn (gL n t sn pvs vss) rfl HO_.out (.slice (some ⟨bx,0,none⟩) 1 1) 1 sc rfl HRN.out HOSC.out (by unfold maxLen;omega) (by omega) (by have h1:=HSE_.out;have h2:=HBW_.out;have h3:=HWB.out;have h4:=HKR.out.size;omega) ?_))
     intro v2 w8 ho5 hk5 hn5 hb5;obtain⟨g5,c5,rfl⟩:=ownsRow_succ ho5;clear hwe hbx hn5 HRN HO_;have HAV:Hid (∀q,q<4->Apt (.slice sa sn sc_) (vs q)/\rR M (vs q)):=H' (fun q hq=>⟨fun i hi e=>by have h1:=HSL.out i hi;have h2:=HNW.out q hq i e;have h3:=HWS.out;omega,fun i hi=>by have h2:=HNW.out q hq i hi;have h3:=HWS.out;have h4:=HMWR.out;omega⟩)
     have HR8:Hid (bM w w8 B M pv n t (sn+1) (.slice (some ⟨g5,0,none⟩) (sn+1) c5) (fun j=>if j=sn then pvc else pvs j) (fun j=>if j=sn then vs else vss j)):=H' (HR.out.next HKE.out (by rw[HQ.out];exact HWP.out.val) HWP.out.apt HWP.out.far HNN.out HAV.out (by
      have e:dJ n t sn pvc vs=sc:=by
       unfold dJ;rw[HQ.out,HQC.out,←HSC.out,←HNF.out,←HDE.out,show 3-sn=l2+1 by omega,show 2-sn=l2 by omega]
      rw[e];exact ho5) hk5 hb5)
     have HO8:Hid (∀i,(Value.slice sa sn sc_).ownBlock=some i->i≠b9/\i≠b12/\i≠b14/\i≠b16):=H' (fun i hi=>by
      have h1:=HSL.out i hi;obtain⟨cur,hc⟩:=aO HOR.out hi;exact⟨iM hc HB9.out (by decide),iM hc HB12.out (by decide),by have:=HGB.out.2;have:=HKR.out.size;omega,by have:=HGB.out.1;have:=HKR.out.size;omega⟩)
     have HB9e:=H' (hk5.blk (HKE.out.blk HB9.out id) (fun e=>(HO8.out _ e).1 rfl));have HB12e:=H' (hk5.blk (HKE.out.blk HB12.out id) (fun e=>(HO8.out _ e).2.1 rfl));have HB14e:=H' (hk5.blk (HKE.out.blk HB14.out id) (fun e=>(HO8.out _ e).2.2.1 rfl));have HB16e:=H' (hk5.blk (HKE.out.blk HB16.out id) (fun e=>(HO8.out _ e).2.2.2 rfl));have HOWB:=H' (fun i (hi:(Value.slice sa sn sc_).ownBlock=some i)=>show w.heap.size≤i from bH HOR.out hi);have HK9:Hid (aA aB w w8):=H' ((((HK8.out.1.trans HKR.out).trans HKB.out).trans HKE.out).trans' hk5 (fun _ _ h=>h) (fun i hi e=>by have:=HOWB.out i e;omega));have HMS:=H' (show M≤w8.heap.size from by have h1:=HMWR.out;have h2:=HKR.out.size;have h3:=HKB.out.size;have h4:=HKE.out.size;have h5:=hk5.size;omega);have HVD:Hid (cO w8 B M pv (.slice (some ⟨g5,0,none⟩) (sn+1) c5) (vs d) ((aP n t sn).kid d).ptr):=H' ⟨(((HNN.out d hd4).keep0 HKE.out).keepT hk5 (fun i hi e=>(HAV.out d hd4).1 i e hi)),kR (HAV.out d hd4).1 hb5 ((HNN.out d hd4).keep0 HKE.out),.inr (HAV.out d hd4).2⟩;have hkc:=aN (v:=vs d) HVD.out.val.pt.sum;have HOKC0:=bC HVD.out.val.pt;have HKA0:=kM HNN.out.nv (by rw[HNF.out];exact aC HB14e.out) hd4;obtain⟨kc,hkce⟩:∃x,aJ (vs d) ((aP n t sn).kid d).ptr=x:=⟨_,rfl⟩
     have HOKC:Hid (∀u∈kc,u.oneCell'=true):=H' (by rw[←hkce];exact HOKC0);have HKC:=H' hkce;rw[hkce] at hkc HKA0;have HKA:=H' HKA0;have hdi0:(0:Int)≤(d:Int):=by omega
     have hdi1:(d:Int)<4:=by omega
     have hcd:w8.cell? ⟨b16,176,none⟩=some (.int .i64 (d:Int)):=aD (i:=176) HB16e.out (by
      rw[←HSC.out,List.getElem?_toArray,List.getElem?_append_right (by omega),List.getElem?_append_right (by omega),hqc,hnn];rfl)
     clear ho5 hk5 hb5 HKA0 HOKC0 hkce HR HWP HKi HB12 HB9 HNN HB14 HB16 HOR
     go_wp2_with (first
      | ((with_reducible show WL (some 55) (.load 26 _));refine wpList_load_mid rfl 26 (.tmp 54) rfl b14 (1+d*35) rfl kc _ HKA.out aI rfl (by rw[hkc];exact aE) ?_)
      | ((with_reducible show WL _ (.store 26 (.tmp 12) (.tmp 55)));refine sta 26 (.tmp 12) (.tmp 55) b12 0 kc HB12e.out (by rw[List.size_toArray,hqc,hkc];omega) (by rw[hkc];exact aE) HOKC.out ?_))
     intro w9 hk hb;rw[aK _ _ (by rw[List.size_toArray,hqc,hkc])] at hb;have HG12:=HGE.out.2;have HX12:Hid (∀i,i=b12->w.heap.size≤i/\i<M):=H' (fun i e=>by rw[e];exact HG12);have HR9:=H' (HR8.out.keepT hk (fun i hi e=>by obtain⟨cur,hc⟩:=aO HR8.out.row hi;exact iM hc HB12e.out (by decide) e) (fun i hi e=>by have:=HP0.out i hi;have:=(HX12.out i e).1;omega) (fun i hi e=>by have:=(HX12.out i e).2;omega));have HP9:=H' (HVD.out.keepT hk (fun i hi e=>by have:=HP0.out i hi;have:=(HX12.out i e).1;omega) (fun i hi e=>by have:=(HX12.out i e).2;omega));have HK99:=H' (And.intro (HK9.out.trans' hk (fun _ _ h=>h) (fun i hi e=>by have:=(HX12.out i e).1;omega):aA aB w w9) (show M≤w9.heap.size from by have h1:=HMS.out;have h2:=hk.size;omega));have HB99:=H' (hk.blk HB9e.out HNE.out);have HNX:Hid (aP n t (sn+1)=(aP n t sn).kid d):=H' (by show (aP n t sn).kid (n / 4 ^ (2-sn) % 4)=_;rw[show 2-sn=l2 by omega,HDE.out]);have HB129:Hid (w9.heap[b12]?=some (.cells (aJ (vs d) (aP n t (sn+1)).ptr).toArray 26 (0,0))):=H' (by rw[hb,HNX.out,HKC.out]);rw[←HNX.out] at HP9;clear hk hb hcd HR8 HVD HB9e HB12e HB14e HB16e HKA;go_wp2_with fail
     go_roundw
     case rel=>exact⟨l2,some ⟨g5,0,none⟩,sn+1,c5,by omega,by first|rfl|go_num,rfl,HK99,H' ⟨_,_,HR9.out⟩,H' ⟨_,HP9.out,HB129.out⟩,HB99⟩
     case measure=>simp[intOf]
    ·refine al 125 (.agg eV.toArray) (eV.toArray) qO ?_
     intro b16 wb hbs hk hb;have HNb16:=H' (show wa.heap.size≤b16 from by have:=(HSE.out _ hS).size;omega);have hS1:=HSI.out _ ((HSE.out _ hS).trans hk);clear hS;replace HL:=H' (HL.out.new (fun _ h=>h.elim) hbs hk hb);replace HR:=H' (bM.keep0 HR.out hk);replace HWP:=H' (cO.keep0 HWP.out hk);replace HKi:=H' (HKi.out.keep0 hk);replace HB12:=H' (hk.blk HB12.out id);replace HB9:=H' (hk.blk HB9.out id);replace HNN:=H' (bQ.keep0 HNN.out hk);clear hbs hk hb;refine wpList_nil ?_;refine⟨hS1,?_⟩;refine aF (k:=4) rfl (by kernel_rfl) ?_;go_wp2_with fail;refine(pF wb n l2 HN.out (by omega)).mono ?_;rintro e wc ⟨rfl,hk⟩;have hS2:=HSI.out _ ((HSE.out _ hS1).trans hk);replace HL:=H' (HL.out.keeps hk);replace HR:=H' (bM.keep0 HR.out hk);replace HWP:=H' (cO.keep0 HWP.out hk);replace HKi:=H' (HKi.out.keep0 hk);replace HB12:=H' (hk.blk HB12.out id);replace HB9:=H' (hk.blk HB9.out id);replace HNN:=H' (bQ.keep0 HNN.out hk);clear hS1 hk;rw[HDE.out];go_wp2_with fail;refine⟨hS2,?_⟩;refine tnd 5 (.agg sc.toArray) rfl (fT 125 #[(0,.tmp 41),(1,.tmp 42),(2,.tmp 45)] [(0,.agg qc.toArray),(1,.agg nn.toArray),(2,.int .i64 ((d:Nat):Int))] (.agg sc.toArray) HBS.out) hS2 ?_;refine aF (k:=7) rfl (by kernel_rfl) ?_;refine sta 125 (.tmp 16) (.tmp 46) b16 0 sc (HL.out.b 0) (by first|decide|(rw[hsc];exact Nat.le_refl _)|simp[hsc,eJ]) (by rw[hsc];exact jH) HOSC.out ?_;intro wd hk hb;rw[aK _ _ (by first|rfl|simp[hsc,eJ])] at hb;have hS3:=HSI.out _ ((HSE.out _ hS2).trans' hk (fun _ _ h=>h) (fun i hi e=>by have:=HNb16.out;omega));clear hS2;replace HL:=H' (HL.out.set 0 hk hb);replace HR:=H' (bM.keep0 HR1.out HL.out.keep);replace HWP:=H' (cO.keep0 HWP1.out HL.out.keep);replace HKi:=H' (HKi1.out.keep0 HL.out.keep);replace HB12:=H' (HL.out.keep.blk HB121.out id);replace HB9:=H' (HL.out.keep.blk HB91.out id);replace HNN:=H' (bQ.keep0 HNN1.out HL.out.keep);clear hk hb;refine wpList_nil ?_;refine⟨hS3,?_⟩;refine wpAnyH_done (by kernel_rfl) ?_ _;clear hS3 HSE HSI HLs HRs HWPs HKis HB12s HB9s HNNs;have HOR:=H' HR.out.row;have HSL:=H' (fun i (hi:(Value.slice sa sn sc_).ownBlock=some i)=>show i<wr.heap.size from by obtain⟨cur,hc⟩:=aO HRr.out.row hi;exact lt_of_block hc);have HKB:=H' HL.out.keep;have HB16:=H' (HL.out.b 0);have HB14:=H' (HL.out.b 1);have hGB:=And.intro (HL.out.lt 0).1 (HL.out.lt 1).1;have HGB:=H' hGB;have HMWR:=H' HK8.out.2;obtain⟨wE,hwe,hke,hbe,-⟩:=aX wd sc.toArray 125;obtain⟨bx,hbx⟩:∃x,wd.heap.size=x:=⟨_,rfl⟩
     rw[hbx] at hbe;have HRN:Hid (Rd wE 177 (.slice (some ⟨bx,0,none⟩) 1 1) 1 sc):=H' (eX (n:=1) (size:=177) hbe (by rw[hsc]) (by unfold maxLen;omega));have HO_:=H' (hke.owns HOR.out fun _ _=>id);have HSE_:=H' hke.size;have HBW_:=H' HL.out.keep.size;have HKE:=H' hke;have HBX:=H' hbx;have hsn2:sn≤2:=by omega
     clear hbe hke hGB HL
     go_wp2_with (first
      | ((with_reducible show WL (some 48) (.load 125 _));refine wpList_load_mid rfl 125 (.tmp 16) rfl b16 0 rfl sc _ (aC HB16.out) Tryz.underlying125 rfl (by rw[hsc];exact jH) ?_)
      | ((with_reducible show WL _ (.buildSlice _ 1 _));refine bS rfl 112 125 (.tmp 48) rfl Tryz.underlying112 mZ (by decide) sc hsc (by decide) rfl ?_;rw[hwe,hbx])
      | (at_builtin;refine aR rfl (.tmp 47) (.tmp 49) 112 rfl w.heap.size 125 (.agg eV.toArray) 177 376 Tryz.underlying112 mZ rfl (by decide) (.slice sa sn sc_) sn (gL n t sn pvs vss) rfl HO_.out (.slice (some ⟨bx,0,none⟩) 1 1) 1 sc rfl HRN.out HOSC.out (by unfold maxLen;omega) (by omega) (by have h1:=HSE_.out;have h2:=HBW_.out;have h3:=HWB.out;have h4:=HKR.out.size;omega) ?_))
     intro v2 w8 ho5 hk5 hn5 hb5;obtain⟨g5,c5,rfl⟩:=ownsRow_succ ho5;clear hwe hbx hn5 HRN HO_;have HAV:Hid (∀q,q<4->Apt (.slice sa sn sc_) (vs q)/\rR M (vs q)):=H' (fun q hq=>⟨fun i hi e=>by have h1:=HSL.out i hi;have h2:=HNW.out q hq i e;have h3:=HWS.out;omega,fun i hi=>by have h2:=HNW.out q hq i hi;have h3:=HWS.out;have h4:=HMWR.out;omega⟩)
     have HR8:Hid (bM w w8 B M pv n t (sn+1) (.slice (some ⟨g5,0,none⟩) (sn+1) c5) (fun j=>if j=sn then pvc else pvs j) (fun j=>if j=sn then vs else vss j)):=H' (HR.out.next HKE.out (by rw[HQ.out];exact HWP.out.val) HWP.out.apt HWP.out.far HNN.out HAV.out (by
      have e:dJ n t sn pvc vs=sc:=by
       unfold dJ;rw[HQ.out,HQC.out,←HSC.out,←HNF.out,←HDE.out,show 3-sn=l2+1 by omega,show 2-sn=l2 by omega]
      rw[e];exact ho5) hk5 hb5)
     have HO8:Hid (∀i,(Value.slice sa sn sc_).ownBlock=some i->i≠b9/\i≠b12/\i≠b14/\i≠b16):=H' (fun i hi=>by
      have h1:=HSL.out i hi;obtain⟨cur,hc⟩:=aO HOR.out hi;exact⟨iM hc HB9.out (by decide),iM hc HB12.out (by decide),by have:=HGB.out.2;have:=HKR.out.size;omega,by have:=HGB.out.1;have:=HKR.out.size;omega⟩)
     have HB9e:=H' (hk5.blk (HKE.out.blk HB9.out id) (fun e=>(HO8.out _ e).1 rfl));have HB12e:=H' (hk5.blk (HKE.out.blk HB12.out id) (fun e=>(HO8.out _ e).2.1 rfl));have HB14e:=H' (hk5.blk (HKE.out.blk HB14.out id) (fun e=>(HO8.out _ e).2.2.1 rfl));have HB16e:=H' (hk5.blk (HKE.out.blk HB16.out id) (fun e=>(HO8.out _ e).2.2.2 rfl));have HOWB:=H' (fun i (hi:(Value.slice sa sn sc_).ownBlock=some i)=>show w.heap.size≤i from bH HOR.out hi);have HK9:Hid (aA aB w w8):=H' ((((HK8.out.1.trans HKR.out).trans HKB.out).trans HKE.out).trans' hk5 (fun _ _ h=>h) (fun i hi e=>by have:=HOWB.out i e;omega));have HMS:=H' (show M≤w8.heap.size from by have h1:=HMWR.out;have h2:=HKR.out.size;have h3:=HKB.out.size;have h4:=HKE.out.size;have h5:=hk5.size;omega);have HVD:Hid (cO w8 B M pv (.slice (some ⟨g5,0,none⟩) (sn+1) c5) (vs d) ((aP n t sn).kid d).ptr):=H' ⟨(((HNN.out d hd4).keep0 HKE.out).keepT hk5 (fun i hi e=>(HAV.out d hd4).1 i e hi)),kR (HAV.out d hd4).1 hb5 ((HNN.out d hd4).keep0 HKE.out),.inr (HAV.out d hd4).2⟩;have hkc:=aN (v:=vs d) HVD.out.val.pt.sum;have HOKC0:=bC HVD.out.val.pt;have HKA0:=kM HNN.out.nv (by rw[HNF.out];exact aC HB14e.out) hd4;obtain⟨kc,hkce⟩:∃x,aJ (vs d) ((aP n t sn).kid d).ptr=x:=⟨_,rfl⟩
     have HOKC:Hid (∀u∈kc,u.oneCell'=true):=H' (by rw[←hkce];exact HOKC0);have HKC:=H' hkce;rw[hkce] at hkc HKA0;have HKA:=H' HKA0;have hdi0:(0:Int)≤(d:Int):=by omega
     have hdi1:(d:Int)<4:=by omega
     have hcd:w8.cell? ⟨b16,176,none⟩=some (.int .i64 (d:Int)):=aD (i:=176) HB16e.out (by
      rw[←HSC.out,List.getElem?_toArray,List.getElem?_append_right (by omega),List.getElem?_append_right (by omega),hqc,hnn];rfl)
     clear ho5 hk5 hb5 HKA0 HOKC0 hkce HR HWP HKi HB12 HB9 HNN HB14 HB16 HOR
     go_wp2_with (first
      | ((with_reducible show WL (some 55) (.load 26 _));refine wpList_load_mid rfl 26 (.tmp 54) rfl b14 (1+d*35) rfl kc _ HKA.out aI rfl (by rw[hkc];exact aE) ?_)
      | ((with_reducible show WL _ (.store 26 (.tmp 12) (.tmp 55)));refine sta 26 (.tmp 12) (.tmp 55) b12 0 kc HB12e.out (by rw[List.size_toArray,hqc,hkc];omega) (by rw[hkc];exact aE) HOKC.out ?_))
     intro w9 hk hb;rw[aK _ _ (by rw[List.size_toArray,hqc,hkc])] at hb;have HG12:=HGE.out.2;have HX12:Hid (∀i,i=b12->w.heap.size≤i/\i<M):=H' (fun i e=>by rw[e];exact HG12);have HR9:=H' (HR8.out.keepT hk (fun i hi e=>by obtain⟨cur,hc⟩:=aO HR8.out.row hi;exact iM hc HB12e.out (by decide) e) (fun i hi e=>by have:=HP0.out i hi;have:=(HX12.out i e).1;omega) (fun i hi e=>by have:=(HX12.out i e).2;omega));have HP9:=H' (HVD.out.keepT hk (fun i hi e=>by have:=HP0.out i hi;have:=(HX12.out i e).1;omega) (fun i hi e=>by have:=(HX12.out i e).2;omega));have HK99:=H' (And.intro (HK9.out.trans' hk (fun _ _ h=>h) (fun i hi e=>by have:=(HX12.out i e).1;omega):aA aB w w9) (show M≤w9.heap.size from by have h1:=HMS.out;have h2:=hk.size;omega));have HB99:=H' (hk.blk HB9e.out HNE.out);have HNX:Hid (aP n t (sn+1)=(aP n t sn).kid d):=H' (by show (aP n t sn).kid (n / 4 ^ (2-sn) % 4)=_;rw[show 2-sn=l2 by omega,HDE.out]);have HB129:Hid (w9.heap[b12]?=some (.cells (aJ (vs d) (aP n t (sn+1)).ptr).toArray 26 (0,0))):=H' (by rw[hb,HNX.out,HKC.out]);rw[←HNX.out] at HP9;clear hk hb hcd HR8 HVD HB9e HB12e HB14e HB16e HKA;go_wp2_with fail
     go_roundw
     case rel=>exact⟨l2,some ⟨g5,0,none⟩,sn+1,c5,by omega,by first|rfl|go_num,rfl,HK99,H' ⟨_,_,HR9.out⟩,H' ⟨_,HP9.out,HB129.out⟩,HB99⟩
     case measure=>simp[intOf]
   ·have HHQ:Hid (q.hole=true):=H' (by rw[←HQ.out,HOKP.out.hole_eq];exact hh)
    have HHE:Hid ((aP n t 3).ptr=q):=H' (by
     have h1:=Ax n t (fV hh) (3-sn);rw[show sn+(3-sn)=3 by omega] at h1;rw[h1,←HQ.out,fV hh])
    clear hh
    go_wp2_with (first
     | ((with_reducible show WL (some 23) (.load 26 _));refine aV (by rfl) 26 (.tmp 12) rfl b12 0 rfl qc _ (aC HB12.out) aI rfl (by rw[hqc];exact aE) ?_))
    refine((by rw[←HQC.out];exact cK wr pvc q HWP.out.val.pt:Calls _ _ _ wr (bE wr q.hole))).mono ?_;rintro e w6 ⟨rfl,hk⟩;replace HL:=H' (HL.out.keeps hk);replace HR:=H' (bM.keep0 HR.out hk);replace HWP:=H' (cO.keep0 HWP.out hk);replace HKi:=H' (HKi.out.keep0 hk);replace HB12:=H' (hk.blk HB12.out id);replace HB9:=H' (hk.blk HB9.out id);clear hk;rw[HHQ.out];go_wp2_with fail;have HQ3:Hid ((aP n t 3).ptr=q):=H' HHE.out;have HKR:=H' HL.out.keep;clear HL;obtain⟨S',hS0⟩:∃S:World->Prop,S=fun w'=>bM w w' B M pv n t sn (.slice sa sn sc_) pvs vss/\cO w' B M pv (.slice sa sn sc_) pvc q/\w'.heap[b12]?=some (.cells qc.toArray 26 (0,0))/\aA aB w w':=⟨_,rfl⟩
    have HSE:=H' (show ∀w',S' w'->_ from fun w' h=>by rw[hS0] at h;exact h);have HSI:=H' (show ∀w',_->S' w' from fun w' h=>by rw[hS0];exact h);have hkd:=(aA.refl aB w6).drew;have hS:S' w6.drew:=HSI.out _ ⟨HR.out.keep0 hkd,HWP.out.keep0 hkd,hkd.blk HB12.out id,(HK8.out.1.trans HKR.out).trans hkd⟩;have HB9d:=H' (hkd.blk HB9.out id);clear hS0 hkd;refine wp_region_held (S:=S') (by kernel_rfl) ?_;change wpAnyH _ _ _ _ _ _ _ _ w6.drew;generalize w6.drew=wy at hS HB9d ⊢;refine tna 0 (.slice sa sn sc_) rfl hS ?_;refine tnd 1 (.agg qc.toArray) rfl (yieldsIf_load_mid (by rfl) 26 (.tmp 12) rfl b12 0 rfl qc _ (fun w' h=>aC (HSE.out w' h).2.2.1) aI rfl (by rw[hqc];exact aE)) hS ?_;refine tna 2 (.slice sa sn sc_) rfl hS ?_;refine aF (k:=3) rfl (by kernel_rfl) ?_;refine sta 26 (.tmp 9) (.tmp 57) b9 0 qc HB9d.out (by rw[List.size_toArray,aG,hqc];omega) (by rw[hqc];exact aE) HOQ.out ?_;intro wz hk hb;rw[aK _ _ (by rw[List.size_toArray,aG,hqc])] at hb;have HB9z:=H' hb
    have hS1:S' wz:=HSI.out _ (by
     obtain⟨h1,h2,h3,h4⟩:=HSE.out _ hS;have g0:=HGE.out.1;refine⟨h1.keepT hk (fun i hi e=>?_) (fun i hi e=>?_) (fun i hi e=>by omega),h2.keepT hk (fun i hi e=>?_) (fun i hi e=>by omega),hk.blk h3 HNE.out.symm,h4.trans' hk (fun _ _ h=>h) (fun i hi e=>by omega)⟩
     ·obtain⟨cur,hc⟩:=aO h1.row hi
      exact iM hc HB9d.out (by decide) e
     ·have:=HP0.out i hi;omega
     ·have:=HP0.out i hi;omega)
    clear hS hk hb;refine wpList_nil ?_;refine⟨hS1,?_⟩;refine tna 4 (.int .i64 0) rfl hS1 ?_;refine wpAnyH_done (by kernel_rfl) ?_ _;have HF:=H' (HSE.out _ hS1);clear hS1 HSE HSI HR HWP HB12 HB9 HB9d;go_wp2_with fail;refine bodyPost_ret (pW rfl _ _ b9 _ _ _ _ rfl HB9z.out aI rfl (by rw[List.size_toArray,hqc];exact aE)) rfl ?_;exact⟨_,pvc,sn,pvs,vss,M,by rw[HQ3.out,HQC.out];rfl,(fun h=>by cases h),HM.out,HF.out.1,by rw[HQ3.out];exact HF.out.2.1,HF.out.2.2.2⟩
theorem Tr.Ok.root{S:Kor}{t:Tr}(h:Tr.Ok S 3 t):t.ptr.root=true:=by
 unfold Pt.root;cases t with
 | hole=>rw[show Tr.hole.ptr.hole=true from kL];rfl
 | leaf p b=>exact h.elim
 | node p k =>
   have h1:p.may=true:=h.1.may;have h2:p.level=3:=h.1.lev;show (p.hole || (p.may && decide (p.level=3)))=true;rw[h1,h2];simp
theorem rS{w:World}{c:Nat}{S:Kor}{B:Nat->Prop}(hK:KI w c S B)(pv:Value)(t:Tr)(ht:Tr.Ok S 0 t)(hp:PtV w pv t.ptr)(i:Nat):Calls Tryz.prog 48 #[.pointer (some ⟨c,0,none⟩),.agg (aJ pv t.ptr).toArray] w (eT w (t.blk 0 i)):=by
 cases t with
 | hole=>exact Dc pv zPt hp kL
 | leaf p b=>exact EU hK pv p hp ht.1
 | node p k=>exact ht.elim
theorem I5{w:World}{c:Nat}{S:Kor}{B:Nat->Prop}(hK:KI w c S B)(pv:Value)(t:Tr)(ht:Tr.Ok S 3 t)(hp:aL w B pv t.ptr)(n:Nat)(hn:n<64):Calls Tryz.prog 13 #[.pointer (some ⟨c,0,none⟩),.agg (aJ pv t.ptr).toArray,.int .i64 (n:Int)] w (eT w (t.blk 3 n)):=by
 have HT:=H' ht;have HN:=H' hn;have HPT:=H' hp;have HK:=H' hK;have HBK:=H' (wF (n:=n) ht);have HO3:=H' (hE (n:=n) ht 3 (by omega));rw[HBK.out];obtain⟨bs,hbs⟩:∃x,(aP n t 3).blk 0 n=x:=⟨_,rfl⟩
 have HBS:=H' hbs;have hn0:(0:Int)≤(n:Int):=by omega
 have hn1:(n:Int)<64:=by omega
 rw[hbs];obtain⟨p,hpe⟩:∃p,t.ptr=p:=⟨_,rfl⟩
 have HPE:=H' hpe;rw[hpe] at HPT hp ⊢;obtain⟨pc,HPC,hpc,HOP⟩:=nmPt hp.pt;rw[HPC.out];have HL:=H' (Loc.nil aB aB w);clear hp ht hK hpe hbs;go_enter Tryz.func13,Tryz.ntmps13
 go_wp2_with (first
  | ((with_reducible show WL (some 4) (.box 26 _));refine bx 26 (.tmp 1) (pc.toArray) ?_))
 intro b4 w1 hbs hk hb;replace HL:=H' (HL.out.new (fun _ h=>h.elim) hbs hk hb);replace HPT:=H' (aL.keep0 HPT.out hk);replace HK:=H' (HK.out.keep0 hk);clear hbs hk hb
 go_wp2_with (first
  | ((with_reducible show WL (some 13) (.load 26 _));refine wpList_load_mid rfl 26 (.tmp 4) rfl b4 0 rfl pc _ (aC (HL.out.b 0)) aI rfl (by rw[hpc];exact aE) ?_))
 refine((by rw[←HPC.out];exact lB HK.out pv p HPT.out.pt (by rw[←HPE.out];exact HT.out.root):Calls _ _ _ w1 (aM w1 (.int .i64 0)))).mono ?_;rintro e w2 ⟨rfl,hk⟩;replace HL:=H' (HL.out.keeps hk);replace HPT:=H' (aL.keep0 HPT.out hk);replace HK:=H' (HK.out.keep0 hk);clear hk
 go_wp2_with (first
  | ((with_reducible show WL (some 26) (.load 26 _));refine wpList_load_mid rfl 26 (.tmp 4) rfl b4 0 rfl pc _ (aC (HL.out.b 0)) aI rfl (by rw[hpc];exact aE) ?_))
 refine((by rw[←HPC.out,←HPE.out];exact EY HK.out pv t HT.out (by rw[HPE.out];exact HPT.out) n HN.out:Calls _ _ _ w2 (qN w2 B pv n t true))).mono ?_;rintro e w3 ⟨sv,pvf,k,pvs,vss,M,rfl,-,hM,hwr,hwp,hk⟩;obtain⟨sa,sc_,hsv,-,-⟩:=(Rd.of_owns hwr.row).form;clear hwr;subst hsv;have HPF:=H' hwp.val;obtain⟨qc,HQC,hqc,HOQ⟩:=nmPt hwp.val.pt;rw[HQC.out];clear hwp hM;replace HL:=H' (HL.out.keeps hk);replace HPT:=H' (aL.keep0 HPT.out hk);replace HK:=H' (HK.out.keep0 hk);clear hk
 go_wp2_with (first
  | ((with_reducible show WL (some 10) (.alloc 26));refine al 26 (.agg aH.toArray) (aH.toArray) aU ?_))
 intro b10 w4 hbs hk0 hb0_
 go_wp2_with (first
  | ((with_reducible show WL _ (.store 26 (.tmp 10) (.tmp 30)));refine sta 26 (.tmp 10) (.tmp 30) b10 0 qc hb0_ (by first|decide|(rw[List.size_toArray,hqc];exact Nat.le_refl _)|simp[hqc,aG]) (by rw[hqc];exact aE) HOQ.out ?_))
 intro w5 hk hb;rw[aK _ _ (by first|rfl|(rw[List.size_toArray,hqc];rfl)|simp[hqc,aG])] at hb;replace hk:=hk0.trans' hk (U:=aB) (fun _ _ h=>h) (fun i hi e=>by omega);replace HL:=H' (HL.out.new (fun _ h=>h.elim) hbs hk hb);replace HPT:=H' (aL.keep0 HPT.out hk);replace HK:=H' (HK.out.keep0 hk);replace HPF:=H' (aL.keep0 HPF.out hk);clear hbs hk hb hk0 hb0_
 go_wp2_with (first
  | ((with_reducible show WL (some 36) (.load 26 _));refine wpList_load_mid rfl 26 (.tmp 10) rfl b10 0 rfl qc _ (aC (HL.out.b 0)) aI rfl (by rw[hqc];exact aE) ?_))
 have HSZ:=H' HL.out.keep.size;refine((by rw[←HQC.out];exact rS HK.out pvf (aP n t 3) HO3.out HPF.out.pt n:Calls _ _ _ w5 (eT w5 ((aP n t 3).blk 0 n)))).mono ?_;rintro e w6 ⟨v1,rfl,ho,hk⟩;rw[HBS.out] at ho;obtain⟨va,vc,rfl,-,-⟩:=(Rd.of_owns ho).form;have HO:=H' (bD ho HSZ.out);clear ho;replace HL:=H' (HL.out.keeps hk);replace HPT:=H' (aL.keep0 HPT.out hk);replace HK:=H' (HK.out.keep0 hk);replace HPF:=H' (aL.keep0 HPF.out hk);clear hk;go_wp2_with fail
 go_ret2
 exact⟨_,rfl,HO.out,HL.out.keep⟩
def fF{α:Type}(f:α->Tr->Nat->α):Nat->α->Tr->α
 | l,a,.hole=>f a .hole l
 | 0,a,.leaf p b=>f a (.leaf p b) 0
 | 0,a,.node p k=>a
 | l+1,a,.leaf p b=>a
 | l+1,a,.node p k=>fF f l (fF f l (fF f l (fF f l a (k 0)) (k 1)) (k 2)) (k 3)
def nX{α:Type}(f:α->Tr->Nat->α)(l:Nat)(k:Nat->Tr)(a:α):Nat->α
 | 0=>a
 | i+1=>fF f l (nX f l k a i) (k i)
theorem AA{α:Type}(f:α->Tr->Nat->α){S:Kor}{l:Nat}{t:Tr}(h:Tr.Ok S l t)(h2:l=0\/t.isHole=true)(a:α):fF f l a t=f a t l:=by
 cases t with
 | hole=>cases l<;>rfl
 | leaf p b =>
    rcases h2 with rfl|h2
    ·rfl
    ·cases h2
 | node p k =>
    rcases h2 with rfl|h2
    ·exact h.elim
    ·cases h2
theorem qP{α:Type}{f:α->Tr->Nat->α}{P:α->Prop}(hPm:∀a t l,P (f a t l)->P a):∀(l:Nat) (a:α) (t:Tr),P (fF f l a t)->P a
 | 0,a,.hole,h=>hPm _ _ _ h
 | _+1,a,.hole,h=>hPm _ _ _ h
 | 0,a,.leaf p b,h=>hPm _ _ _ h
 | 0,a,.node p k,h=>h
 | l+1,a,.leaf p b,h=>h
 | l+1,a,.node p k,h=>qP hPm l _ _ (qP hPm l _ _ (qP hPm l _ _ (qP hPm l _ _ h)))
theorem DI{α:Type}{f:α->Tr->Nat->α}{P:α->Prop}(hPm:∀a t l,P (f a t l)->P a)(l:Nat)(k:Nat->Tr)(a:α):∀(j i:Nat),i≤j->P (nX f l k a j)->P (nX f l k a i)
 | 0,i,hi,h=>by
    obtain rfl:i=0:=by omega
    exact h
 | j+1,i,hi,h=>by
   by_cases e:i=j+1
   ·subst e;exact h
   ·exact DI hPm l k a j i (by omega) (qP hPm l _ _ h)
def Off(w:World)(J:Nat->Prop)(k:Nat):Prop:=¬J k/\k<w.heap.size
theorem Off.keep{w w':World}{J J':Nat->Prop}{k:Nat}(h:Off w J k)(kp:aA J w w')(hJ:∀k,J' k->J k\/w.heap.size≤k):Off w' J' k:=
 ⟨fun e=>(hJ k e).elim h.1 fun e=>by have:=h.2;omega,by have:=h.2;have:=kp.size;omega⟩
structure Yld{α:Type}(I:α->(Nat->Prop)->World->Prop):Prop where
 keep:∀a J w w',I a J w->aA aB w w'->I a J w'
 lt:∀a J w k,I a J w->J k->k<w.heap.size
def fN{α:Type}(I:α->(Nat->Prop)->World->Prop)(w:World)(J:Nat->Prop)(a:α)(e:Ending)(w':World):Prop:=
 e=.returned (.int .i64 0)/\∃J',I a J' w'/\(∀k,J' k->J k\/w.heap.size≤k)/\aA J w w'
def EZ{α:Type}(I:α->(Nat->Prop)->World->Prop)(f:α->Tr->Nat->α)(P:α->Prop)(S:Kor)(c:Nat)(B:Nat->Prop)(G:Nat)(fr:Array Value):Prop:=
 ∀(a:α) (J:Nat->Prop) (w:World) (pv:Value) (t:Tr) (l:Nat),I a J w->KI w c S B->(∀k,B k->¬J k)->l≤3->(l=0\/t.isHole=true)->Tr.Ok S l t->aL w J pv t.ptr->P (f a t l)->Calls Tryz.prog G (#[.agg (aJ pv t.ptr).toArray,.int .i64 (l:Int)]++fr) w (fN I w J (f a t l))
theorem fN.trans{α:Type}{I:α->(Nat->Prop)->World->Prop}{w w1 w':World}{J J1:Nat->Prop}{a:α}{e:Ending}(h:fN I w1 J1 a e w')(hJ:∀k,J1 k->J k\/w.heap.size≤k)(k:aA J w w1):fN I w J a e w':=by
 obtain⟨h1,J',h2,h3,h4⟩:=h;refine⟨h1,J',h2,fun i hi=>?_,k.trans' h4 (fun _ _ h=>h) fun i hi e=>(hJ i e).elim id fun h=>by omega⟩;rcases h3 i hi with h|h
 ·exact hJ i h
 ·exact .inr (Nat.le_trans k.size h)
structure VCl(w:World)(J:Nat->Prop)(b5 b3 b7 c:Nat)(G:Nat)(fr:Array Value):Prop where
 y:w.heap[b5]?=some (.cells #[.func (.func G) #[] fr] 102 (0,0))
 c:w.heap[b3]?=some (.cells #[.pointer (some ⟨c,0,none⟩)] 36 (0,0))
 d:w.heap[b7]?=some (.cells #[.func (.func 101) #[] #[.pointer (some ⟨b5,0,none⟩),.pointer (some ⟨b3,0,none⟩),.pointer (some ⟨b7,0,none⟩)]] 102 (0,0))
 o5:Off w J b5
 o3:Off w J b3
 o7:Off w J b7
theorem VCl.keep{w w':World}{J J':Nat->Prop}{b5 b3 b7 c G:Nat}{fr:Array Value}(h:VCl w J b5 b3 b7 c G fr)(k:aA J w w')(hJ:∀k,J' k->J k\/w.heap.size≤k):VCl w' J' b5 b3 b7 c G fr:=
 ⟨k.blk h.y h.o5.1,k.blk h.c h.o3.1,k.blk h.d h.o7.1,h.o5.keep k hJ,h.o3.keep k hJ,h.o7.keep k hJ⟩
theorem VCl.keep0{w w':World}{J:Nat->Prop}{b5 b3 b7 c G:Nat}{fr:Array Value}(h:VCl w J b5 b3 b7 c G fr)(k:aA aB w w'):VCl w' J b5 b3 b7 c G fr:=h.keep k.any fun _ h=>.inl h
theorem Co{α:Type}{I:α->(Nat->Prop)->World->Prop}(hI:Yld I){f:α->Tr->Nat->α}{P:α->Prop}(hPm:∀a t l,P (f a t l)->P a){S:Kor}{c:Nat}{B:Nat->Prop}{G:Nat}{fr:Array Value}(eg:∀args w,(callFunc G args).run Tryz.prog w=.ok (.enter G args) w)(hY:EZ I f P S c B G fr){b5 b3 b7:Nat}(a:α)(J:Nat->Prop)(w:World)(pv:Value)(t:Tr)(l:Nat)(hi:I a J w)(hK:KI w c S B)(hBJ:∀k,B k->¬J k)(hl:l≤3)(h0:l=0\/t.isHole=true)(ht:Tr.Ok S l t)(hp:aL w J pv t.ptr)(hv:VCl w J b5 b3 b7 c G fr)(hP:P (f a t l)):Calls Tryz.prog 101 #[.agg (aJ pv t.ptr).toArray,.int .i64 (l:Int),.pointer (some ⟨b5,0,none⟩),.pointer (some ⟨b3,0,none⟩),.pointer (some ⟨b7,0,none⟩)] w (fN I w J (f a t l)):=by
 have HYI:=H' hI;have HYC:=H' hY;have HI:=H' hi;have HK:=H' hK;have HBJ:=H' hBJ;have HT:=H' ht;have HV:=H' hv;have H0:=H' h0;have HPP:=H' hP;clear hP hPm;have HPT:=H' hp;obtain⟨p,hpe⟩:∃p,t.ptr=p:=⟨_,rfl⟩
 have HPE:=H' hpe;rw[hpe] at HPT hp ⊢;obtain⟨pc,HPC,hpc,HOP⟩:=nmPt hp.pt;rw[HPC.out];have HL:=H' (Loc.nil aB aB w);have hll:0≤(l:Int):=by omega
 clear hp hpe hi hK hBJ ht hv h0
 by_cases hz:l=0
 ·subst hz
  go_enter Tryz.func101,Tryz.ntmps101
  go_wp2_with (first
   | ((with_reducible show WL (some 5) (.box 26 _));refine bx 26 (.tmp 0) (pc.toArray) ?_))
  intro b55 w1 hbs hk hb;replace HL:=H' (HL.out.new (fun _ h=>h.elim) hbs hk hb);replace HPT:=H' (aL.keep0 HPT.out hk);replace HK:=H' (HK.out.keep0 hk);replace HI:=H' (HYI.out.keep _ _ _ _ HI.out hk);replace HV:=H' (VCl.keep0 HV.out hk);clear hbs hk hb;have c1:w1.cell? ⟨b5,0,none⟩=some (.func (.func G) #[] fr):=(aD (i:=0) HV.out.y rfl)
  go_wp2_with (first
   | ((with_reducible show WL (some 18) (.load 26 _));refine wpList_load_mid rfl 26 (.tmp 5) rfl b55 0 rfl pc _ (aC (HL.out.b 0)) aI rfl (by rw[hpc];exact aE) ?_))
  clear c1;have HC:=(HYC.out a J w1 pv t 0 HI.out HK.out HBJ.out (by omega) (.inl rfl) HT.out (by rw[HPE.out];exact HPT.out) HPP.out:Calls _ _ _ w1 (fN I w1 J (f a t 0)))
  rw[HPE.out,HPC.out] at HC;refine HC.mono ?_;rintro e w9 hm;have HP:=H' (hm.trans (J:=J) (w:=w) (fun k h=>.inl h) HL.out.keep.any);obtain⟨rfl,-⟩:=hm;clear HC HL HPT HK HI HV;go_wp2_with fail;go_ret;exact HP.out
 ·have hz2:((l:Int) == 0)=false:=by rw[beq_eq_false_iff_ne];omega
  have hz3:decide (l=0)=false:=decide_eq_false hz;have HH:Hid (p.hole=true):=H' (by rw[←HPE.out,HT.out.hole_eq];exact H0.out.resolve_left hz);clear hz;go_enter Tryz.func101,Tryz.ntmps101
  go_wp2_with (first
   | ((with_reducible show WL (some 5) (.box 26 _));refine bx 26 (.tmp 0) (pc.toArray) ?_))
  intro b55 w1 hbs hk hb;replace HL:=H' (HL.out.new (fun _ h=>h.elim) hbs hk hb);replace HPT:=H' (aL.keep0 HPT.out hk);replace HK:=H' (HK.out.keep0 hk);replace HI:=H' (HYI.out.keep _ _ _ _ HI.out hk);replace HV:=H' (VCl.keep0 HV.out hk);clear hbs hk hb
  go_wp2_with (first
   | ((with_reducible show WL (some 14) (.load 26 _));refine aV (by rfl) 26 (.tmp 5) rfl b55 0 rfl pc _ (aC (HL.out.b 0)) aI rfl (by rw[hpc];exact aE) ?_))
  refine((by rw[←HPC.out];exact cK w1 pv p HPT.out.pt:Calls _ _ _ w1 (bE w1 p.hole))).mono ?_;rintro e w2 ⟨rfl,hk⟩;replace HL:=H' (HL.out.keeps hk);replace HPT:=H' (aL.keep0 HPT.out hk);replace HK:=H' (HK.out.keep0 hk);replace HI:=H' (HYI.out.keep _ _ _ _ HI.out hk);replace HV:=H' (VCl.keep0 HV.out hk);clear hk;rw[HH.out];have c1:w2.cell? ⟨b5,0,none⟩=some (.func (.func G) #[] fr):=(aD (i:=0) HV.out.y rfl)
  go_wp2_with (first
   | ((with_reducible show WL (some 18) (.load 26 _));refine wpList_load_mid rfl 26 (.tmp 5) rfl b55 0 rfl pc _ (aC (HL.out.b 0)) aI rfl (by rw[hpc];exact aE) ?_))
  clear c1;have HC:=(HYC.out a J w2 pv t l HI.out HK.out HBJ.out (by omega) H0.out HT.out (by rw[HPE.out];exact HPT.out) HPP.out:Calls _ _ _ w2 (fN I w2 J (f a t l)))
  rw[HPE.out,HPC.out] at HC;refine HC.mono ?_;rintro e w9 hm;have HP:=H' (hm.trans (J:=J) (w:=w) (fun k h=>.inl h) HL.out.keep.any);obtain⟨rfl,-⟩:=hm;clear HC HL HPT HK HI HV;go_wp2_with fail;go_ret;exact HP.out
def Js{α:Type}(I:α->(Nat->Prop)->World->Prop)(w:World)(J:Nat->Prop)(a:α)(w':World):Prop:=∃J',I a J' w'/\(∀k,J' k->J k\/w.heap.size≤k)/\aA J w w'
theorem I6{α:Type}{I:α->(Nat->Prop)->World->Prop}(hI:Yld I){f:α->Tr->Nat->α}{P:α->Prop}(hPm:∀a t l,P (f a t l)->P a){S:Kor}{c:Nat}{B:Nat->Prop}{G:Nat}{fr:Array Value}(eg:∀args w,(callFunc G args).run Tryz.prog w=.ok (.enter G args) w)(hY:EZ I f P S c B G fr){b5 b3 b7:Nat}:∀(l:Nat),l≤3->∀(a:α) (J:Nat->Prop) (w:World) (pv:Value) (t:Tr),I a J w->KI w c S B->(∀k,B k->¬J k)->Tr.Ok S l t->aL w J pv t.ptr->VCl w J b5 b3 b7 c G fr->P (fF f l a t)->Calls Tryz.prog 101 #[.agg (aJ pv t.ptr).toArray,.int .i64 (l:Int),.pointer (some ⟨b5,0,none⟩),.pointer (some ⟨b3,0,none⟩),.pointer (some ⟨b7,0,none⟩)] w (fN I w J (fF f l a t)):=by
 intro l
 induction l with
 | zero =>
   intro hl a J w pv t hi hK hBJ ht hp hv hP;rw[AA f ht (.inl rfl)] at hP ⊢;exact Co hI hPm eg hY a J w pv t 0 hi hK hBJ hl (.inl rfl) ht hp hv hP
 | succ l ih =>
   intro hl a J w pv t hi hK hBJ ht hp hv hP;cases hh:t.isHole with
   | true =>
     rw[AA f ht (.inr hh)] at hP ⊢;exact Co hI hPm eg hY a J w pv t (l+1) hi hK hBJ hl (.inr hh) ht hp hv hP
   | false =>
     have hfold:fF f (l+1) a t=nX f l t.kid a 4:=by
      cases t with
      | hole=>cases hh
      | leaf p b=>exact ht.elim
      | node p k=>rfl
     rw[hfold] at hP ⊢;have HPK:=H' (fun i (hi:i≤4)=>DI hPm l t.kid a 4 i hi hP);have HIH:=H' (ih (by omega));have HYI:=H' hI;have HYC:=H' hY;have HI:=H' hi;have HK:=H' hK;have HBJ:=H' hBJ;have HT:=H' ht;have HV:=H' hv;have HPT:=H' hp;have hl2:l≤2:=by omega
     obtain⟨p,hpe⟩:∃p,t.ptr=p:=⟨_,rfl⟩
     have HPE:=H' hpe;rw[hpe] at HPT hp ⊢;have HH:Hid (p.hole=false):=H' (by rw[←hpe,ht.hole_eq];exact hh);obtain⟨pc,HPC,hpc,HOP⟩:=nmPt hp.pt;rw[HPC.out];have HLX:=H' (fun k (e:J k)=>HYI.out.lt _ _ _ _ HI.out e);have HL:=H' (Loc.nil aB aB w);have hll:0≤((l+1:Nat):Int):=by omega
     have hl0:(0:Int)≤(l:Int):=by omega
     have hz2:(((l:Int)+1) == 0)=false:=by rw[beq_eq_false_iff_ne];omega
     clear hp hpe hi hK hBJ ht hv hh hfold ih hP hPm;go_enter Tryz.func101,Tryz.ntmps101
     go_wp2_with (first
      | ((with_reducible show WL (some 5) (.box 26 _));refine bx 26 (.tmp 0) (pc.toArray) ?_))
     intro b55 w1 hbs hk hb;replace HL:=H' (HL.out.new (fun _ h=>h.elim) hbs hk hb);replace HPT:=H' (aL.keep0 HPT.out hk);replace HK:=H' (HK.out.keep0 hk);replace HI:=H' (HYI.out.keep _ _ _ _ HI.out hk);replace HV:=H' (VCl.keep0 HV.out hk);clear hbs hk hb
     go_wp2_with (first
      | ((with_reducible show WL (some 14) (.load 26 _));refine aV (by rfl) 26 (.tmp 5) rfl b55 0 rfl pc _ (aC (HL.out.b 0)) aI rfl (by rw[hpc];exact aE) ?_))
     refine((by rw[←HPC.out];exact cK w1 pv p HPT.out.pt:Calls _ _ _ w1 (bE w1 p.hole))).mono ?_;rintro e w2 ⟨rfl,hk⟩;replace HL:=H' (HL.out.keeps hk);replace HPT:=H' (aL.keep0 HPT.out hk);replace HK:=H' (HK.out.keep0 hk);replace HI:=H' (HYI.out.keep _ _ _ _ HI.out hk);replace HV:=H' (VCl.keep0 HV.out hk);clear hk;rw[HH.out];have c1:w2.cell? ⟨b3,0,none⟩=some (.pointer (some ⟨c,0,none⟩)):=(aD (i:=0) HV.out.c rfl)
     go_wp2_with (first
      | ((with_reducible show WL (some 23) (.load 26 _));refine wpList_load_mid rfl 26 (.tmp 5) rfl b55 0 rfl pc _ (aC (HL.out.b 0)) aI rfl (by rw[hpc];exact aE) ?_))
     clear c1;have HLW:=H' (fun k (e:J k)=>HYI.out.lt _ _ _ _ HI.out e);refine((by rw[←HPC.out,←HPE.out];exact pG HK.out hl2 pv t HT.out (by rw[HPE.out];exact HPT.out.pt):Calls _ _ _ w2 (iC w2 B l t))).mono ?_;rintro e w3 ⟨vs,rfl,hvs,hnew,hk⟩;have HNN:Hid (bQ w3 J vs (fun i=>(t.kid i).ptr)):=H' (fun q hq=>⟨(hvs q hq).pt,fun i hi=>⟨fun e=>by have:=hnew q hq i hi;have:=HLW.out i e;omega,((hvs q hq).off i hi).2⟩⟩);have hnn:=dF ((l+1:Nat):Int) vs hvs.nv;have HOF0:=dS ((l+1:Nat):Int) hvs.nv;obtain⟨nn,hnne⟩:∃x,cH ((l+1:Nat):Int) vs (fun i=>(t.kid i).ptr)=x:=⟨_,rfl⟩
     have HOF:Hid (∀u∈nn,u.oneCell'=true):=H' (by rw[←hnne];exact HOF0);have HNF:=H' hnne;rw[hnne] at hnn ⊢;clear HOF0 hnne hvs hnew;replace HL:=H' (HL.out.keeps hk);replace HPT:=H' (aL.keep0 HPT.out hk);replace HK:=H' (HK.out.keep0 hk);replace HI:=H' (HYI.out.keep _ _ _ _ HI.out hk);replace HV:=H' (VCl.keep0 HV.out hk);clear hk
     go_wp2_with (first
      | ((with_reducible show WL (some 8) (.alloc 123));refine al 123 (.agg dY.toArray) (dY.toArray) kY ?_))
     intro b8 w4 hbs hk0 hb0_
     go_wp2_with (first
      | ((with_reducible show WL _ (.store 123 (.tmp 8) (.tmp 26)));refine sta 123 (.tmp 8) (.tmp 26) b8 0 nn hb0_ (by first|decide|(rw[List.size_toArray,hnn];exact Nat.le_refl _)|simp[hnn,cN]) (by rw[hnn];exact dZ) HOF.out ?_))
     intro w5 hk hb;rw[aK _ _ (by first|rfl|(rw[List.size_toArray,hnn];rfl)|simp[hnn,cN])] at hb;replace hk:=hk0.trans' hk (U:=aB) (fun _ _ h=>h) (fun i hi e=>by omega);replace HL:=H' (HL.out.new (fun _ h=>h.elim) hbs hk hb);replace HPT:=H' (aL.keep0 HPT.out hk);replace HK:=H' (HK.out.keep0 hk);replace HI:=H' (HYI.out.keep _ _ _ _ HI.out hk);replace HV:=H' (VCl.keep0 HV.out hk);replace HNN:=H' (bQ.keep0 HNN.out hk);clear hbs hk hb hk0 hb0_;go_wp2_with fail;have HB8:=H' (HL.out.b 0);have HG8:=H' (HL.out.lt 0);have HJ8:=H' (fun k (e:J k)=>HLW.out k e);have HO8:Hid (Off w5 J b8):=H' ⟨fun e=>by have:=HLX.out _ e;have:=HG8.out.1;omega,HG8.out.2⟩;have HKW:=H' HL.out.keep;obtain⟨W0,hW0⟩:∃W,w5=W:=⟨_,rfl⟩
     rw[hW0] at HI HK HV HNN HB8 HO8 HKW ⊢;clear HL HPT hW0
     go_loopw [9,10] (fun e i wr=>∃k:Nat,k≤4/\i=.int .i64 k/\e=.int .i64 0/\Hid (Js I W0 J (nX f l t.kid a k) wr)) (fun _ i _=>4-(intOf i).toNat)
     case atStart=>exact⟨0,by omega,rfl,rfl,H' ⟨J,HI.out,fun k h=>.inl h,aA.refl _ _⟩⟩
     case round =>
      obtain⟨k,hk,rfl,rfl,HD⟩:=hrel;obtain⟨J2,hi2,hJ2,hk2⟩:=HD.out;have HI2:=H' hi2;have HJ2:=H' hJ2;have HK2:=H' hk2;have HKI2:=H' (HK.out.keepT hk2 (fun i e hb=>HBJ.out i hb e));have HBJ2:=H' (fun i (hb:B i) (e:J2 i)=>show False from(hJ2 i e).elim (HBJ.out i hb) fun h=>by have:=HK.out.lt hb;omega);have HV2:=H' (HV.out.keep hk2 hJ2);have HB82:=H' (hk2.blk HB8.out HO8.out.1);have HO82:=H' (HO8.out.keep hk2 hJ2);have HNN2:=H' (HNN.out.keep hk2 hJ2);clear hi2 hJ2 hk2 HD
      by_cases hk8:k<4
      ·have hk0:(0:Int)≤(k:Int):=by omega
       have hk1:(k:Int)<4:=by omega
       have HQV:=H' (HNN2.out k hk8);have hqc:=aN (v:=vs k) HQV.out.pt.sum;have HOQ0:=bC HQV.out.pt;have HX0:=kM HNN2.out.nv (by rw[HNF.out];exact aC HB82.out) hk8;obtain⟨qc,hqce⟩:∃x,aJ (vs k) ((t.kid k).ptr)=x:=⟨_,rfl⟩
       have HOQ:Hid (∀u∈qc,u.oneCell'=true):=H' (by rw[←hqce];exact HOQ0);have HQC:=H' hqce;rw[hqce] at hqc HX0;have HX:=H' HX0;have HL:=H' (Loc.nil J2 J2 wr);clear hqce HOQ0 HX0;go_wp2_with fail;obtain⟨S,hS0⟩:∃S:World->Prop,S=fun w'=>aA J2 wr.drew w':=⟨_,rfl⟩
       have HSE:=H' (show ∀w',S w'->aA J2 wr.drew w' from fun w' h=>by rw[hS0] at h;exact h);have HSI:=H' (show ∀w',aA J2 wr.drew w'->S w' from fun w' h=>by rw[hS0];exact h);have hS:S wr.drew:=by rw[hS0];exact aA.refl _ _
       have hkd:=(aA.refl aB wr).drew;clear hS0;refine wp_region_held (S:=S) (by kernel_rfl) ?_;change wpAnyH _ _ _ _ _ _ _ _ wr.drew;generalize wr.drew=w7 at HSE HSI hS hkd ⊢;replace HL:=H' (HL.out.keeps hkd);replace HI2:=H' (HYI.out.keep _ _ _ _ HI2.out hkd);replace HKI2:=H' (HKI2.out.keep0 hkd);replace HV2:=H' (VCl.keep0 HV2.out hkd);replace HX:=H' (hkd.rangeAt HX.out);replace HQV:=H' (aL.keep0 HQV.out hkd);clear hkd;have HLs:=HL;have HI2s:=HI2;have HKI2s:=HKI2;have HV2s:=HV2;have HXs:=HX;have HQVs:=HQV;refine tnd 0 (.func (.func 101) #[] #[.pointer (some ⟨b5,0,none⟩),.pointer (some ⟨b3,0,none⟩),.pointer (some ⟨b7,0,none⟩)]) rfl (.inl ⟨by rfl,fun w' hw'=>by have c:World.cell? w' ⟨b7,0,none⟩=some (.func (.func 101) #[] #[.pointer (some ⟨b5,0,none⟩),.pointer (some ⟨b3,0,none⟩),.pointer (some ⟨b7,0,none⟩)]):=(HSE.out w' hw').cell (cell_of_one HV2s.out.d) HV2s.out.o7.1;go_simp⟩) hS ?_;refine tna 1 (.int .i64 (k:Int)) rfl hS ?_;refine tnb 2 (.pointer (some ⟨b8,1,none⟩)) rfl hS ?_;refine tnd 3 (.pointer (some ⟨b8,1+k*35,none⟩)) rfl (.inl ⟨by rfl,fun _ _=>by go_simp<;>omega⟩) hS ?_;refine tnd 4 (.agg qc.toArray) rfl (yieldsIf_load_mid (by rfl) 26 (.tmp 39) rfl b8 (1+k*35) rfl qc _ (fun w' h=>(HSE.out w' h).rangeAt2 HXs.out HO82.out.1) aI rfl (by rw[hqc];exact aE)) hS ?_;refine tna 5 (.int .i64 ((l+1:Nat):Int)) rfl hS ?_;refine tnd 6 (.int .i64 (l:Int)) rfl (.inl ⟨by rfl,fun _ _=>by go_simp;exact IntWalk.i64_in _ (by omega)⟩) hS ?_;refine aF (k:=7) rfl (by kernel_rfl) ?_;go_wp2_with fail;refine((by rw[←HQC.out];exact HIH.out (nX f l t.kid a k) J2 w7 (vs k) (t.kid k) HI2.out HKI2.out HBJ2.out (HT.out.kid hk8) HQV.out HV2.out (HPK.out (k+1) (by omega)):Calls _ _ _ w7 (fN I w7 J2 (fF f l (nX f l t.kid a k) (t.kid k))))).mono ?_;rintro e w8 hm;have hmk:aA J2 w7 w8:=by obtain⟨-,J3,-,-,h⟩:=hm;exact h
       have HM:Hid (fN I wr J2 (nX f l t.kid a (k+1)) e w8):=H' (hm.trans (w:=wr) (J:=J2) (fun k h=>.inl h) HL.out.keep);obtain⟨rfl,-⟩:=hm;have hS1:=HSI.out _ ((HSE.out _ hS).trans hmk);clear hS hmk HL HI2 HKI2 HV2 HX HQV;go_wp2_with fail;refine⟨hS1,?_⟩;refine tna 8 (.int .i64 0) rfl hS1 ?_;refine wpAnyH_done (by kernel_rfl) ?_ _;clear hS1 HSE HSI HLs HI2s HKI2s HV2s HXs HQVs
       have HE:Hid (Js I W0 J (nX f l t.kid a (k+1)) w8):=H' (by
        obtain⟨-,J3,h1,h2,h3⟩:=HM.out;exact⟨J3,h1,fun i hi=>(h2 i hi).elim (HJ2.out i) (fun h=>.inr (Nat.le_trans HK2.out.size h)),HK2.out.trans' h3 (fun _ _ h=>h) (fun i hi e=>(HJ2.out i e).elim id fun h=>by omega)⟩)
       clear HM HK2 HJ2 HB82 HNN2;go_wp2_with fail
       go_roundw
       case rel=>exact⟨k+1,by omega,by go_num,rfl,HE⟩
       case measure=>simp[intOf];omega
      ·obtain rfl:k=4:=by omega
       go_wp2_with fail;go_ret;exact⟨rfl,J2,HI2.out,fun i hi=>(HJ2.out i hi).imp id (fun h=>Nat.le_trans HKW.out.size h),HKW.out.any.trans' HK2.out (fun _ _ h=>h) (fun _ _ h=>h)⟩
theorem LY:Hid (∀w,(zeroValue 102).run Tryz.prog w=.ok .nilFunc w):=H' fun w=>by kernel_rfl
theorem E0{α:Type}{I:α->(Nat->Prop)->World->Prop}(hI:Yld I){f:α->Tr->Nat->α}{P:α->Prop}(hPm:∀a t l,P (f a t l)->P a){S:Kor}{c:Nat}{B:Nat->Prop}{G:Nat}{fr:Array Value}(eg:∀args w,(callFunc G args).run Tryz.prog w=.ok (.enter G args) w)(hY:EZ I f P S c B G fr)(a:α)(J:Nat->Prop)(w:World)(pv:Value)(t:Tr)(hi:I a J w)(hK:KI w c S B)(hBJ:∀k,B k->¬J k)(ht:Tr.Ok S 3 t)(hp:aL w J pv t.ptr)(hP:P (fF f 3 a t)):Calls Tryz.prog 57 #[.pointer (some ⟨c,0,none⟩),.agg (aJ pv t.ptr).toArray,.func (.func G) #[] fr] w (fN I w J (fF f 3 a t)):=by
 have HDN:=H' (fun b5 b3 b7=>I6 (b5:=b5) (b3:=b3) (b7:=b7) hI hPm eg hY 3 (by omega) a J);have HYI:=H' hI;have HI:=H' hi;have HK:=H' hK;have HBJ:=H' hBJ;have HT:=H' ht;have HPP:=H' hP;have HPT:=H' hp;have HLX:=H' (fun k (e:J k)=>HYI.out.lt _ _ _ _ HI.out e);obtain⟨p,hpe⟩:∃p,t.ptr=p:=⟨_,rfl⟩
 have HPE:=H' hpe;rw[hpe] at HPT hp ⊢;obtain⟨pc,HPC,hpc,HOP⟩:=nmPt hp.pt;rw[HPC.out];have HL:=H' (Loc.nil aB aB w);clear hp hpe hi hK hBJ ht hP hPm;have HPT0:=HPT;have HK0:=HK;have HI0:=HI;go_enter Tryz.func57,Tryz.ntmps57
 go_wp2_with (first
  | ((with_reducible show WL (some 3) (.box 36 _));refine bx 36 (.tmp 0) (#[.pointer (some ⟨c,0,none⟩)]) ?_))
 intro b3 w1 hbs hk hb;replace HL:=H' (HL.out.new (fun _ h=>h.elim) hbs hk hb);replace HPT:=H' (aL.keep0 HPT.out hk);replace HK:=H' (HK.out.keep0 hk);replace HI:=H' (HYI.out.keep _ _ _ _ HI.out hk);clear hbs hk hb
 go_wp2_with (first
  | ((with_reducible show WL (some 4) (.box 26 _));refine bx 26 (.tmp 1) (pc.toArray) ?_))
 intro b4 w2 hbs hk hb;replace HL:=H' (HL.out.new (fun _ h=>h.elim) hbs hk hb);replace HPT:=H' (aL.keep0 HPT.out hk);replace HK:=H' (HK.out.keep0 hk);replace HI:=H' (HYI.out.keep _ _ _ _ HI.out hk);clear hbs hk hb
 go_wp2_with (first
  | ((with_reducible show WL (some 5) (.box 102 _));refine bx 102 (.tmp 2) (#[.func (.func G) #[] fr]) ?_))
 intro b5 w3 hbs hk hb;replace HL:=H' (HL.out.new (fun _ h=>h.elim) hbs hk hb);replace HPT:=H' (aL.keep0 HPT.out hk);replace HK:=H' (HK.out.keep0 hk);replace HI:=H' (HYI.out.keep _ _ _ _ HI.out hk);clear hbs hk hb
 go_wp2_with (first
  | ((with_reducible show WL (some 7) (.alloc 102));refine al 102 (.nilFunc) (#[.nilFunc]) LY ?_))
 intro b7 w4 hbs hk hb;replace HL:=H' (HL.out.new (fun _ h=>h.elim) hbs hk hb);replace HPT:=H' (aL.keep0 HPT.out hk);replace HK:=H' (HK.out.keep0 hk);replace HI:=H' (HYI.out.keep _ _ _ _ HI.out hk);clear hbs hk hb
 go_wp2_with (first
  | ((with_reducible show WL _ (.store 102 (.tmp 7) (.tmp 8)));refine sta 102 (.tmp 7) (.tmp 8) b7 0 ([.func (.func 101) #[] #[.pointer (some ⟨b5,0,none⟩),.pointer (some ⟨b3,0,none⟩),.pointer (some ⟨b7,0,none⟩)]]) (HL.out.b 0) (by simp) (by kernel_rfl) (by intro v hv;simp only[List.mem_cons,List.not_mem_nil,or_false] at hv;subst hv;rfl) ?_))
 intro w5 hk hb;replace hb:w5.heap[b7]?=some (.cells #[.func (.func 101) #[] #[.pointer (some ⟨b5,0,none⟩),.pointer (some ⟨b3,0,none⟩),.pointer (some ⟨b7,0,none⟩)]] 102 (0,0)):=hb;replace HL:=H' (HL.out.set 0 hk hb);replace HPT:=H' (aL.keep0 HPT0.out HL.out.keep);replace HK:=H' (HK0.out.keep0 HL.out.keep);replace HI:=H' (HYI.out.keep _ _ _ _ HI0.out HL.out.keep);clear hk hb;have HV:=H' (VCl.mk (J:=J) (HL.out.b 1) (HL.out.b 3) (HL.out.b 0) ⟨fun e=>by have:=HLX.out _ e;have:=(HL.out.lt 1).1;omega,(HL.out.lt 1).2⟩ ⟨fun e=>by have:=HLX.out _ e;have:=(HL.out.lt 3).1;omega,(HL.out.lt 3).2⟩ ⟨fun e=>by have:=HLX.out _ e;have:=(HL.out.lt 0).1;omega,(HL.out.lt 0).2⟩:VCl w5 J b5 b3 b7 c G fr);have HB7:=H' (cell_of_one (HL.out.b 0));have c1:w5.cell? ⟨b7,0,none⟩=some (.func (.func 101) #[] #[.pointer (some ⟨b5,0,none⟩),.pointer (some ⟨b3,0,none⟩),.pointer (some ⟨b7,0,none⟩)]):=HB7.out
 go_wp2_with (first
  | ((with_reducible show WL (some 10) (.load 26 _));refine wpList_load_mid rfl 26 (.tmp 4) rfl b4 0 rfl pc _ (aC (HL.out.b 2)) aI rfl (by rw[hpc];exact aE) ?_))
 clear c1;have HC:=(HDN.out b5 b3 b7 w5 pv t HI.out HK.out HBJ.out HT.out (by rw[HPE.out];exact HPT.out) HV.out HPP.out:Calls _ _ _ w5 (fN I w5 J (fF f 3 a t)))
 rw[HPE.out,HPC.out] at HC;refine HC.mono ?_;rintro e w9 hm;have HP:=H' (hm.trans (J:=J) (w:=w) (fun k h=>.inl h) HL.out.keep.any);obtain⟨rfl,-⟩:=hm;clear HC HL HPT HK HI HV HB7;go_wp2_with fail;go_ret;exact HP.out
def E1(bn:Nat)(a:Nat)(J:Nat->Prop)(w:World):Prop:=w.heap[bn]?=some (.cells #[.int .i64 (a:Int)] 3 (0,0))/\J=fun k=>k=bn
def kN(a:Nat)(t:Tr)(l:Nat):Nat:=if t.isHole then a else a+1
theorem Kt(bn:Nat):Yld (E1 bn):=⟨fun a J w w' h k=>⟨k.blk h.1 id,h.2⟩,fun a J w k h hk=>by obtain⟨h1,rfl⟩:=h;rw[show k=bn from hk];exact lt_of_block h1⟩
theorem I7:∀a t l,(fun a=>a≤1000) (kN a t l)->(fun a=>a≤1000) a:=fun a t l h=>by
 unfold kN at h;show a≤1000;have h:(if t.isHole then a else a+1)≤1000:=h;split at h<;>omega
theorem lX{S:Kor}:∀{l:Nat}{t:Tr},Tr.Ok S l t->∀a,fF kN l a t=a+t.many l
 | 0,.hole,h,a=>rfl
 | l+1,.hole,h,a=>rfl
 | 0,.leaf p b,h,a=>rfl
 | 0,.node p k,h,a=>h.elim
 | l+1,.leaf p b,h,a=>h.elim
 | l+1,.node p k,h,a=>by
   show fF kN l (fF kN l (fF kN l (fF kN l a (k 0)) (k 1)) (k 2)) (k 3)=a+((k 0).many l+(k 1).many l+(k 2).many l+(k 3).many l);rw[lX (h.2.1 0 (by omega)),lX (h.2.1 1 (by omega)),lX (h.2.1 2 (by omega)),lX (h.2.1 3 (by omega))];omega
theorem GU(S:Kor)(c:Nat)(B:Nat->Prop)(bn:Nat):EZ (E1 bn) kN (fun a=>a≤1000) S c B 59 #[.pointer (some ⟨bn,0,none⟩)]:=by
 intro a J w pv t l hi hK hBJ hl h0 ht hp hP;obtain⟨hb,rfl⟩:=hi;have HHE:=H' ht.hole_eq;have HBN:=H' hb;have HNB:=H' hp.off;have HPT:Hid (PtV w pv t.ptr):=H' hp.pt;obtain⟨p,hpe⟩:∃p,t.ptr=p:=⟨_,rfl⟩
 have HPE:=H' hpe;rw[hpe] at HPT hp HHE ⊢;obtain⟨pc,HPC,hpc,HOP⟩:=nmPt hp.pt;rw[HPC.out];have HL:=H' (Loc.nil aB aB w);have hbl:=lt_of_block hb;have HBL:=H' hbl;clear hp hpe hb hbl hK hBJ ht h0;cases hh:t.isHole with
 | true =>
   rw[hh] at HHE;have HF:Hid (kN a t l=a):=H' (by unfold kN;rw[hh];rfl);clear hh hP;have HPT0:=HPT;have HBN0:=HBN;go_enter Tryz.func59,Tryz.ntmps59
   go_wp2_with (first
    | ((with_reducible show WL (some 3) (.box 26 _));refine bx 26 (.tmp 0) (pc.toArray) ?_))
   intro b3 w1 hbs hk hb;replace HL:=H' (HL.out.new (fun _ h=>h.elim) hbs hk hb);replace HPT:=H' (HPT.out.keep hk fun _ _=>id);replace HBN:=H' (hk.blk HBN.out id);clear hbs hk hb
   go_wp2_with (first
    | ((with_reducible show WL (some 6) (.load 26 _));refine wpList_load_mid rfl 26 (.tmp 3) rfl b3 0 rfl pc _ (aC (HL.out.b 0)) aI rfl (by rw[hpc];exact aE) ?_))
   refine((by rw[←HPC.out];exact cK w1 pv p HPT.out:Calls _ _ _ w1 (bE w1 p.hole))).mono ?_;rintro e w2 ⟨rfl,hk⟩;replace HL:=H' (HL.out.keeps hk);replace HPT:=H' (HPT.out.keep hk fun _ _=>id);replace HBN:=H' (hk.blk HBN.out id);clear hk;rw[HHE.out];go_wp2_with fail;go_ret;exact⟨rfl,_,⟨by rw[HF.out];exact HBN.out,rfl⟩,fun k h=>.inl h,HL.out.keep.any⟩
 | false =>
   rw[hh] at HHE;have HF:Hid (kN a t l=a+1):=H' (by unfold kN;rw[hh];rfl);have hP2:a+1≤1000:=by rw[←HF.out];exact hP
   have ha0:(0:Int)≤(a:Int):=by omega
   have ha1:(a:Int)≤1000:=by omega
   clear hh hP;have HPT0:=HPT;have HBN0:=HBN;go_enter Tryz.func59,Tryz.ntmps59
   go_wp2_with (first
    | ((with_reducible show WL (some 3) (.box 26 _));refine bx 26 (.tmp 0) (pc.toArray) ?_))
   intro b3 w1 hbs hk hb;replace HL:=H' (HL.out.new (fun _ h=>h.elim) hbs hk hb);replace HPT:=H' (HPT.out.keep hk fun _ _=>id);replace HBN:=H' (hk.blk HBN.out id);clear hbs hk hb
   go_wp2_with (first
    | ((with_reducible show WL (some 6) (.load 26 _));refine wpList_load_mid rfl 26 (.tmp 3) rfl b3 0 rfl pc _ (aC (HL.out.b 0)) aI rfl (by rw[hpc];exact aE) ?_))
   refine((by rw[←HPC.out];exact cK w1 pv p HPT.out:Calls _ _ _ w1 (bE w1 p.hole))).mono ?_;rintro e w2 ⟨rfl,hk⟩;replace HL:=H' (HL.out.keeps hk);replace HPT:=H' (HPT.out.keep hk fun _ _=>id);replace HBN:=H' (hk.blk HBN.out id);clear hk;rw[HHE.out];have HKW:=H' HL.out.keep;have c1:w2.cell? ⟨bn,0,none⟩=some (.int .i64 (a:Int)):=(cell_of_one HBN.out)
   go_wp2_with (first
    | ((with_reducible show WL _ (.store 3 _ _));refine sta 3 (.tmp 2) (.tmp 10) bn 0 [.int .i64 ((a:Int)+1)] HBN.out (by simp) (by kernel_rfl) (by intro v hv;simp only[List.mem_cons,List.not_mem_nil,or_false] at hv;subst hv;rfl) ?_))
   clear c1;intro w9 hk hb;replace hb:w9.heap[bn]?=some (.cells #[.int .i64 ((a+1:Nat):Int)] 3 (0,0)):=hb;have HP:Hid (fN (E1 bn) w (fun k=>k=bn) (kN a t l) (.returned (.int .i64 0)) w9):=H' ⟨rfl,_,⟨by rw[HF.out];exact hb,rfl⟩,fun k h=>.inl h,HKW.out.any.trans hk⟩;clear hk hb HL HPT HBN;go_wp2_with fail;go_ret;exact HP.out
def AB(w:World)(t:Tr)(e:Ending)(w':World):Prop:=e=.returned (.tuple #[.int .i64 (t.many 3:Int),.int .i64 0])/\aA aB w w'
theorem Ku{S:Kor}{l:Nat}{t:Tr}(h:Tr.Ok S l t):t.many l≤4 ^ l:=by
 rw[←h.many_eq,←h.blocks_len];exact List.countP_le_length
theorem GV{w:World}{c:Nat}{S:Kor}{B:Nat->Prop}(hK:KI w c S B)(pv:Value)(t:Tr)(ht:Tr.Ok S 3 t)(hp:aL w B pv t.ptr):Calls Tryz.prog 17 #[.pointer (some ⟨c,0,none⟩),.agg (aJ pv t.ptr).toArray] w (AB w t):=by
 have HT:=H' ht;have HPT:=H' hp;have HK:=H' hK;have HM:=H' (Ku ht);have HBLT:=H' (fun i (e:B i)=>hK.lt e);obtain⟨p,hpe⟩:∃p,t.ptr=p:=⟨_,rfl⟩
 have HPE:=H' hpe;rw[hpe] at HPT hp ⊢;obtain⟨pc,HPC,hpc,HOP⟩:=nmPt hp.pt;rw[HPC.out];have HL:=H' (Loc.nil aB aB w);clear hp ht hK hpe;have HPT0:=HPT;have HK0:=HK;go_enter Tryz.func17,Tryz.ntmps17
 go_wp2_with (first
  | ((with_reducible show WL (some 3) (.box 26 _));refine bx 26 (.tmp 1) (pc.toArray) ?_))
 intro b3 w1 hbs hk hb;replace HL:=H' (HL.out.new (fun _ h=>h.elim) hbs hk hb);replace HPT:=H' (aL.keep0 HPT.out hk);replace HK:=H' (HK.out.keep0 hk);clear hbs hk hb
 go_wp2_with (first
  | ((with_reducible show WL (some 9) (.load 26 _));refine wpList_load_mid rfl 26 (.tmp 3) rfl b3 0 rfl pc _ (aC (HL.out.b 0)) aI rfl (by rw[hpc];exact aE) ?_))
 refine((by rw[←HPC.out];exact lB HK.out pv p HPT.out.pt (by rw[←HPE.out];exact HT.out.root):Calls _ _ _ w1 (aM w1 (.int .i64 0)))).mono ?_;rintro e w2 ⟨rfl,hk⟩;replace HL:=H' (HL.out.keeps hk);replace HPT:=H' (aL.keep0 HPT.out hk);replace HK:=H' (HK.out.keep0 hk);clear hk
 go_wp2_with (first
  | ((with_reducible show WL (some 7) (.alloc 3));refine al 3 (.int .i64 0) (#[.int .i64 0]) Ly ?_))
 intro b7 w3 hbs hk0 hb0_
 go_wp2_with (first
  | ((with_reducible show WL _ (.store 3 (.tmp 7) (.const (.int .i64 0))));refine sta 3 (.tmp 7) (.const (.int .i64 0)) b7 0 ([.int .i64 0]) hb0_ (by first|decide|(rw[List.size_toArray,rfl];exact Nat.le_refl _)|simp[]) (by kernel_rfl) (by intro v hv;simp only[List.mem_cons,List.not_mem_nil,or_false] at hv;subst hv;rfl) ?_))
 intro w4 hk hb;replace hb:w4.heap[b7]?=some (.cells #[.int .i64 0] 3 (0,0)):=hb;replace hk:=hk0.trans' hk (U:=aB) (fun _ _ h=>h) (fun i hi e=>by omega);replace HL:=H' (HL.out.new (fun _ h=>h.elim) hbs hk hb);replace HPT:=H' (aL.keep0 HPT.out hk);replace HK:=H' (HK.out.keep0 hk);clear hbs hk hb hk0 hb0_;have HB7:=H' (HL.out.b 0);have HG7:=H' (HL.out.lt 0);have HKW:=H' HL.out.keep;have HOFF:Hid (∀i,pv.ownBlock=some i->i<w.heap.size):=H' (fun i hi=>(HPT0.out.off i hi).2.lt)
 go_wp2_with (first
  | ((with_reducible show WL (some 15) (.load 26 _));refine wpList_load_mid rfl 26 (.tmp 3) rfl b3 0 rfl pc _ (aC (HL.out.b 1)) aI rfl (by rw[hpc];exact aE) ?_))
 have HC:=(E0 (Kt b7) I7 (enters_of Tryz.func59 (by kernel_rfl) rfl) (GU S c B b7) 0 (fun k=>k=b7) w4 pv t ⟨HB7.out,rfl⟩ HK.out (fun i e e2=>by have:=HBLT.out i e;have:=HG7.out.1;omega) HT.out ⟨by rw[HPE.out];exact HPT.out.pt,fun i hi=>⟨fun e=>by have:=HOFF.out i hi;have:=HG7.out.1;omega,(HPT.out.off i hi).2⟩⟩ (by show fF kN 3 0 t≤1000;rw[lX HT.out];have:=HM.out;omega):Calls _ _ _ w4 (fN (E1 b7) w4 (fun k=>k=b7) (fF kN 3 0 t)))
 rw[HPE.out,HPC.out,lX HT.out,Nat.zero_add] at HC;refine HC.mono ?_;rintro e w9 ⟨rfl,J',⟨hb,-⟩,-,hk⟩;have c1:=cell_of_one hb;have HKX:Hid (aA aB w w9):=H' (HKW.out.trans' hk (fun _ _ h=>h) (fun i hi e=>by have:=HG7.out.1;omega));clear hb hk HC HL HPT HK HB7;go_wp2_with fail
 go_ret2
 exact⟨rfl,HKX.out⟩
def Ba(sc:Nat->List Value)(k:Nat):Array Value:=#[.int .i64 ((2-k:Nat):Int),.agg (sc (2-k)).toArray]
theorem E2(n:Nat){w:World}{Res:Nat->Prop}{B1 g cap:Nat}(sc:Nat->List Value)(hsc:∀x,x<3->(sc x).length=177)(hcap:3≤cap)(hB:w.heap[B1]?=some (.cells #[.slice (some ⟨g,0,none⟩) 3 cap] 112 (0,0)))(hx:∀x,x<3->w.rangeAt g (x*177) (sc x)){cur:Array Value}(hg:w.heap[g]?=some (.cells cur 125 (0,0)))(hR1:¬Res B1)(hRg:¬Res g) :
 ∀(l:Nat) (J:Nat->World->Prop) (Jx:World->Prop) (W:World),aA aB w W->J 0 W ->
  (∀k W1,k<3->J k W1->YieldAt Fence.wide (n-1) Tryz.prog l (Ba sc k) W1 fun e W'=>(e=.returned (.bool true)/\J (k+1) W'/\KpC Res W1 W')\/(e=.returned (.bool false)/\Jx W')) ->
  CallsIn Fence.wide n Tryz.prog 97 (#[.func (.yield l) #[] #[]]++#[.pointer (some ⟨B1,0,none⟩)]) W fun e W'=>(∃v,e=.returned v)/\(J 3 W'\/Jx W'):=by
 intro l J Jx W hkW hJ0 hY;have HS:=H' (And.intro (hkW.blk hB id) (hkW.blk hg id))
 have HXR:Hid (∀W':World,W'.heap[g]?=some (.cells cur 125 (0,0))->∀x,x<3->W'.rangeAt g (x*177) (sc x)):=H' fun W' h x hx3 j v hj =>
  (World.cell?_of_block (w:=w) (w':=W') (a:=⟨g,x*177+j,none⟩) (h.trans hg.symm)).trans (hx x hx3 j v hj)
 have HSC:=H' hsc;have HYY:=H' hY;have c0:=cell_of_one HS.out.1;clear hB hx hg hsc hY hkW;refine callsIn_of_wp Tryz.func97 rfl trivial ?_ rfl;simp only[Tryz.ntmps97,List.size_toArray,List.length_cons,List.length_nil,Nat.reduceAdd,Nat.reduceSub,Array.replicate_succ,Array.replicate_zero,List.push_toArray,List.append_toArray,List.nil_append,List.cons_append]
 gi_wp2
 clear c0
 gi_loopw [3] (fun i wr=>∃k:Nat,((k=3/\i=.int .i64 (-1))\/∃y:Nat,k+y=2/\i=.int .i64 (y:Int))/\J k wr/\Hid (wr.heap[B1]?=some (.cells #[.slice (some ⟨g,0,none⟩) 3 cap] 112 (0,0))/\wr.heap[g]?=some (.cells cur 125 (0,0)))) (fun i _=>(intOf i+1).toNat)
 case atStart=>exact⟨0,.inr ⟨2,rfl,rfl⟩,hJ0,HS⟩
 case round =>
  obtain⟨k,(⟨rfl,rfl⟩|⟨y,hky,rfl⟩),hJ,hH⟩:=hrel
  ·gi_wp2
   go_end0
   exact⟨⟨_,rfl⟩,.inl hJ⟩
  ·have e1:(y:Int)<3:=by omega
   have hb0:(0:Int)≤(y:Int):=by omega
   have hcy:(y:Int)<(cap:Int):=by omega
   have e2:2-k=y:=by omega
   have hYk:=HYY.out k wr (by omega) hJ;unfold Ba at hYk;rw[e2] at hYk;have hxy:=HXR.out wr hH.out.2 y (by omega);have hsy:=HSC.out y (by omega);have ck:=cell_of_one hH.out.1;obtain⟨sy,hsye⟩:∃l,sc y=l:=⟨_,rfl⟩
   rw[hsye] at hYk hxy hsy;obtain⟨fn,tmps,assign,body,hy,hR⟩:=hYk;clear e2 hsye
   gi_wp2_with (first
    | (refine jS rfl 125 (.tmp 15) rfl g (y*177) rfl sy _ hxy Tryz.underlying125 rfl (by rw[hsy];exact jH) ?_)
    | gi_in)
   refine⟨fun h=>by simp[Fence.wide] at h,hR.mono ?_⟩;rintro e W3 (⟨rfl,hJ3,hk3⟩|⟨rfl,hJx3⟩)
   ·have hH3:Hid (W3.heap[B1]?=some (.cells #[.slice (some ⟨g,0,none⟩) 3 cap] 112 (0,0))/\W3.heap[g]?=some (.cells cur 125 (0,0))):=H' ⟨hk3 _ _ _ _ hR1 hH.out.1,hk3 _ _ _ _ hRg hH.out.2⟩
    have hJ4:=H' hJ3;clear hJ3 hk3 hJ hR hy hH ck hxy
    gi_wp2
    rcases y with _|y
    ·go_roundw
     case rel=>exact⟨k+1,.inl ⟨by omega,rfl⟩,hJ4.out,hH3⟩
     case measure=>simp[intOf]
    ·go_roundw
     case rel=>exact⟨k+1,.inr ⟨y,by omega,by first|rfl|go_num|(congr 1;omega)⟩,hJ4.out,hH3⟩
     case measure=>simp[intOf];omega
   ·gi_wp2
    refine bodyPost_ret (results_none rfl _ _ _) rfl ?_;exact⟨⟨_,rfl⟩,.inr hJx3⟩
theorem I8(v:Value)(w:World)(hv:∃a n c,v=.slice a n c) :
 Calls Tryz.prog 52 #[v] w fun e w'=>∃B1,e=.returned (.func (.func 97) #[] #[.pointer (some ⟨B1,0,none⟩)])/\w'.heap[B1]?=some (.cells #[v] 112 (0,0))/\w.heap.size=B1/\aA aB w w':=by
 obtain⟨a,n,c,rfl⟩:=hv;go_enter Tryz.func52,Tryz.ntmps52
 go_wp2_with ((with_reducible show WL (some 1) (.box 112 _));refine bx 112 (.tmp 0) #[.slice a n c] ?_)
 intro B1 w1 hbs hk hb;have HP:=H' (And.intro hb (And.intro hbs hk));clear hbs hk hb;go_wp2_with fail;go_ret;exact⟨B1,rfl,HP.out.1,HP.out.2.1,HP.out.2.2⟩
end
end Go.Proofs.YtjkbekifgobeaaaGreat
