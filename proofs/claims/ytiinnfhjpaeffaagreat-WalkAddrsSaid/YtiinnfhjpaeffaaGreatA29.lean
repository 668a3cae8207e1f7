import Derived.Test.YtiinnfhjpaeffaaGreatA1
import Derived.Test.YtiinnfhjpaeffaaGreatA28
namespace Go.Proofs.YtiinnfhjpaeffaaGreat
set_option maxHeartbeats 64000000
set_option maxRecDepth 100000
set_option linter.unusedVariables false
section
open Go.RowKit Go.Maps Go.ChangeMaps
def aY(n:Nat)(t:Tr):Nat->Tr
 | 0=>t
 | k+1=>(aY n t k).kid (n / 4 ^ (2-k) % 4)
variable{S:Kor}{n:Nat}{t:Tr}
theorem iZ(h:Tr.Ok S 3 t):∀k,k≤3->Tr.Ok S (3-k) (aY n t k)
 | 0,_=>h
 | 1,_=>(iZ h 0 (by omega)).kid (gI _ _)
 | 2,_=>(iZ h 1 (by omega)).kid (gI _ _)
 | 3,_=>(iZ h 2 (by omega)).kid (gI _ _)
 | k+4,b=>by omega
theorem BE(n:Nat)(t:Tr){j:Nat}(h:aY n t j=.hole):∀i,aY n t (j+i)=.hole
 | 0=>h
 | i+1=>by
   show (aY n t (j+i)).kid _=.hole;rw[BE n t h i];rfl
theorem DJ(h:Tr.Ok S 3 t):t.blk 3 n=(aY n t 3).blk 0 n:=by
 rw[h.blk_succ,(h.kid (gI n 2)).blk_succ,((h.kid (gI n 2)).kid (gI n 1)).blk_succ];rfl
def eW(n:Nat)(t:Tr)(k:Nat)(pv:Value)(vs:Nat->Value):List Value:=
 aE pv (aY n t k).ptr++(cH ((3-k:Nat):Int) vs (fun i=>((aY n t k).kid i).ptr)++[.int .i64 ((n / 4 ^ (2-k) % 4:Nat):Int)])
def lJ(n:Nat)(t:Tr)(k:Nat)(pvs:Nat->Value)(vss:Nat->Nat->Value):List Value:=(List.range k).flatMap fun j=>eW n t j (pvs j) (vss j)
def Apt(sv v:Value):Prop:=∀i,sv.ownBlock=some i->v.ownBlock≠some i
def AR(M:Nat)(v:Value):Prop:=∀i,v.ownBlock=some i->M≤i
structure cK(w0 w:World)(B:Nat->Prop)(M:Nat)(pv0:Value)(n:Nat)(t:Tr)(k:Nat)(sv:Value)(pvs:Nat->Value)(vss:Nat->Nat->Value):Prop where
 row:w.ownsRow w0.heap.size 166 177 sv k (lJ n t k pvs vss)
 pvs:∀j,j<k->bC w B (pvs j) (aY n t j).ptr/\Apt sv (pvs j)/\(pvs j=pv0\/AR M (pvs j))
 vss:∀j,j<k->cI w B (vss j) (fun i=>((aY n t j).kid i).ptr)/\∀q,q<4->Apt sv (vss j q)/\AR M (vss j q)
theorem rU{sv v2 v:Value}{w:World}{B:Nat->Prop}{p:Pt}(h:Apt sv v)(b:v2.ownBlock=sv.ownBlock\/v2.ownBlock=some w.heap.size)(j:bC w B v p):Apt v2 v:=fun i f e=>by
 rcases b with b|b
 ·rw[b] at f;exact h i f e
 ·rw[b] at f
  have:=(j.off i e).2.lt;injection f with f
  omega
section
variable {w0 w w' wE:World}{B:Nat->Prop}{M:Nat}{pv0:Value}{n:Nat}{t:Tr}{k:Nat}{sv v2:Value}{pvs:Nat->Value}{vss:Nat->Nat->Value}
theorem cK.keepT{T:Nat->Prop}(h:cK w0 w B M pv0 n t k sv pvs vss)(s:aA T w w')(C:∀i,sv.ownBlock=some i->¬T i)(E:∀i,pv0.ownBlock=some i->¬T i)(x:∀i,M≤i->¬T i):cK w0 w' B M pv0 n t k sv pvs vss:=
 ⟨s.owns h.row C,fun j b=>⟨(h.pvs j b).1.keepT s fun i f=>((h.pvs j b).2.2).elim (fun e=>E i (e▸f)) fun e=>x i (e i f),(h.pvs j b).2⟩,fun j b=>⟨fun q z=>((h.vss j b).1 q z).keepT s fun i f=>x i (((h.vss j b).2 q z).2 i f),(h.vss j b).2⟩⟩
theorem cK.keep0(h:cK w0 w B M pv0 n t k sv pvs vss)(b:aA aB w w'):cK w0 w' B M pv0 n t k sv pvs vss:=h.keepT b (fun _ _=>id) (fun _ _=>id) fun _ _=>id
theorem cK.next(h:cK w0 w B M pv0 n t k sv pvs vss)(f:aA aB w wE){pv:Value}{vs:Nat->Value}(I:bC w B pv (aY n t k).ptr)(ap:Apt sv pv)(K:pv=pv0\/AR M pv)(J:cI w B vs (fun i=>((aY n t k).kid i).ptr))(G:∀q,q<4->Apt sv (vs q)/\AR M (vs q))
 (U:w'.ownsRow w0.heap.size 166 177 v2 (k+1) (lJ n t k pvs vss++eW n t k pv vs)) (F:aA (fun i=>sv.ownBlock=some i) wE w') (E:v2.ownBlock=sv.ownBlock\/v2.ownBlock=some wE.heap.size):cK w0 w' B M pv0 n t (k+1) v2 (fun j=>if j=k then pv else pvs j) (fun j=>if j=k then vs else vss j):=by
 have e:lJ n t (k+1) (fun j=>if j=k then pv else pvs j) (fun j=>if j=k then vs else vss j)=lJ n t k pvs vss++eW n t k pv vs:=by
  unfold lJ;rw[List.range_succ,List.flatMap_append,List.flatMap_cons,List.flatMap_nil,List.append_nil]
  congr 1
  ·rw[List.flatMap_def,List.flatMap_def]
   congr 1
   refine List.map_congr_left fun j H=>?_
   have:=List.mem_range.1 H;show eW n t j (if j=k then pv else pvs j) (if j=k then vs else vss j)=_;rw[if_neg (by omega),if_neg (by omega)]
  ·show eW n t k (if k=k then pv else pvs k) (if k=k then vs else vss k)=_
   rw[if_pos rfl,if_pos rfl]
 refine⟨by rw[e];exact U,fun j H=>?_,fun j H=>?_⟩
 ·by_cases z:j=k
  ·subst z
   rw[if_pos rfl];exact⟨(I.keep0 f).keepT F fun i s e=>ap i e s,rU ap E (I.keep0 f),K⟩
  ·rw[if_neg z]
   obtain⟨C,x,R⟩:=h.pvs j (by omega);exact⟨(C.keep0 f).keepT F fun i s e=>x i e s,rU x E (C.keep0 f),R⟩
 ·by_cases z:j=k
  ·subst z
   rw[if_pos rfl];exact⟨fun q b=>((J q b).keep0 f).keepT F fun i s e=>(G q b).1 i e s,fun q b=>⟨rU (G q b).1 E ((J q b).keep0 f),(G q b).2⟩⟩
  ·rw[if_neg z]
   obtain⟨C,x⟩:=h.vss j (by omega);exact⟨fun q b=>((C q b).keep0 f).keepT F fun i s e=>(x q b).1 i e s,fun q b=>⟨rU (x q b).1 E ((C q b).keep0 f),(x q b).2⟩⟩
theorem cK.nil(w0 w:World)(B:Nat->Prop)(M:Nat)(pv0:Value)(n:Nat)(t:Tr):cK w0 w B M pv0 n t 0 (.slice none 0 0) (fun _=>.slice none 0 0) (fun _ _=>.slice none 0 0):=⟨World.ownsRow_nil _ _ _ _,fun j b=>by omega,fun j b=>by omega⟩
end
structure eS(w:World)(B:Nat->Prop)(M:Nat)(pv0 sv pv:Value)(p:Pt):Prop where
 val:bC w B pv p
 apt:Apt sv pv
 far:pv=pv0\/AR M pv
variable{T B B0 B':Nat->Prop}{w w' W W0 W' w0 w1 w2:World}{M a q c g k y n l d b8 b9 b10 b12 N D Z nw m cp:Nat}{sv pv v lv dv gv:Value}{p:Pt}{P:Program}{S:Kor}{t u:Tr}{bs pid:List UInt8}{o:Obj}{pvs vs:Nat->Value}{vss:Nat->Nat->Value}{ps:Nat->Pt}{A:List Value}{r:Option Tr}{e:Ending}{Mm:Nat->Nat->List UInt8}{ops:Array Oper}{rest:List Oper}{Q:Exit->Act->World->Prop}
theorem eS.keepT{pv0:Value}(h:eS w B M pv0 sv pv p)(k:aA T w w')(f:∀i,pv0.ownBlock=some i->¬T i)(j:∀i,M≤i->¬T i):eS w' B M pv0 sv pv p:=
 ⟨h.val.keepT k fun i b=>h.far.elim (fun e=>f i (e▸b)) fun e=>j i (e i b),h.apt,h.far⟩
theorem eS.keep0{pv0:Value}(h:eS w B M pv0 sv pv p)(k:aA aB w w'):eS w' B M pv0 sv pv p:=h.keepT k (fun _ _=>id) fun _ _=>id
theorem Ct{b:Nat}{c1 c2:Array Value}{h i:TypeId}{j s:Nat×Nat}(f:w.heap[a]?=some (.cells c1 h j))(x:w.heap[b]?=some (.cells c2 i s))(C:h≠i):a≠b:=fun e=>by
 rw[e,x] at f;injection f with f
 injection f with f z
 exact C z.symm
def AS(w:World)(B:Nat->Prop)(pv0:Value)(n:Nat)(t:Tr)(b:Bool)(e:Ending)(w':World):Prop:=
 ∃sv f k pvs vss M,e=.returned (.tuple #[sv,.agg (aE f (aY n t 3).ptr).toArray,.int .i64 0])/\(b=false->k=3)/\w.heap.size≤M/\cK w w' B M pv0 n t k sv pvs vss/\eS w' B M pv0 sv f (aY n t 3).ptr/\aA aB w w'
theorem EK{f:Func}{a p q:Tmp}{b:TypeId}(h:f.results=#[.tmp a,.cell p b,.tmp q])(tmps:Array Value)(w:World)(g:Nat)(t:TypeId)(cs:Array Value)(i:Nat×Nat)(d:TypeDesc)
 (j:tmps.getD p undef=.pointer g) (x:w.heap[g]?=some (.cells cs t i)) (C:P.underlying b=some d) (s:(match d with|.struct _|.array _ _=>true|_=>false)=true) (z:(P.info? b).map (·.size)=some cs.size):(results f tmps).run P w=.ok (.tuple #[tmps.getD a undef,.agg cs,tmps.getD q undef]) w:=by
 simp only[Array.getD_eq_getD_getElem?] at j;simp[results,h,j,asAddr,Result.andThen,run_loadVar_row w g t b cs i d x C s z]
def iV:List Value:=aI++(dI++[.int .i64 0])
theorem gT:iV.length=177:=rfl
theorem zU:Hid (∀w,(zeroValue 166).run Tryz.prog w=.ok (.agg iV.toArray) w):=O fun w=>by kernel_rfl
theorem rV:(Tryz.prog.info? 166).map (·.size)=some 177:=by kernel_rfl
theorem Jw:(Tryz.prog.info? 166).map (fun i=>(i.zero,i.size,i.bytes))=some (some (.agg iV.toArray),177,376):=by kernel_rfl
theorem Jy(N:Nat)(b:List Value)(h:b.length=N):b=(List.range N).map fun i=>b.getD i undef:=by
 apply List.ext_getElem?;intro i;rw[List.getElem?_map]
 by_cases f:i<N
 ·rw[List.getElem?_range f,List.getElem?_eq_getElem (by omega)]
  simp[List.getD,List.getElem?_eq_getElem (show i<b.length by omega)]
 ·rw[List.getElem?_eq_none (by omega),List.getElem?_eq_none (by simp;omega)];rfl
theorem GT(f g:Nat->Value)(d:Int):Tryz.prog.built 166 [(0,.agg ((List.range 35).map f).toArray),(1,.agg ((List.range 141).map g).toArray),(2,.int .i64 d)]=some ((List.range 35).map f++((List.range 141).map g++([.int .i64 d]:List Value))).toArray:=by kernel_rfl
theorem Jz(f b:List Value)(d:Int)(h:f.length=35)(i:b.length=141)(w:World):(Instr.build 166 #[(0,.agg f.toArray),(1,.agg b.toArray),(2,.int .i64 d)]).run Tryz.prog w=.ok (.agg (f++(b++([.int .i64 d]:List Value))).toArray) w:=by
 refine run_build w 166 _ _ ?_;rw[Jy 35 f h,Jy 141 b i];exact GT _ _ _
def OG(l:Nat)(h f:Bool)(w:World)(vs:List Value)(w':World):Prop:=aA aB w w'/\∃s1 s2 i j s x z C E b,vs=[s1,s2,i,j,s,x,z,C,E,.bool b]/\(b=true->0<l/\(h=true->f=false))/\(b=false->l=0\/(h=true/\f=true))
theorem DK(hK:KI w c S B)(pv:Value)(t:Tr)(ht:Tr.Ok S 3 t)(hp:bC w B pv t.ptr)(n:Nat)(hn:n<64)(sh:Bool):Calls Tryz.prog 90 #[.pointer c,.agg (aE pv t.ptr).toArray,.int .i64 (n:Int),.bool sh] w (AS w B pv n t sh):=by
 have HT:=O ht;have HN:=O hn;have HPT:=O hp;have HK:=O hK;obtain⟨p,hpe⟩:∃p,t.ptr=p:=⟨_,rfl⟩
 have HPE:=O hpe;rw[hpe] at HPT hp ⊢;obtain⟨pc,HPC,hpc,HOP⟩:=nmPt hp.pt;rw[HPC.out];have E:=lN w;clear hp ht hK hpe;have HPT0:=HPT;have HK0:=HK;go_in
 go_wp2_with ((with_reducible show WL _ _);refine bxL E 27 (.tmp 1) (pc.toArray) ?_)
 intro b5 w1 z E;replace HPT:=pK HPT z;replace HK:=O (HK.keep0 z);clear z
 go_wp2_with ((with_reducible show WL _ _);refine alL E 27 (.agg aI.toArray) (aI.toArray) bK ?_)
 intro b9 w2 z E;replace HPT:=pK HPT z;replace HK:=O (HK.keep0 z);clear z
 go_wp2_with ((with_reducible show WL _ _);first
  | refine wpList_load_mid rfl 27 (.tmp 5) rfl b5 0 rfl pc _ (aD (E.b 1)) aH rfl (szP9 hpc) ?_
  | refine al 27 (.agg aI.toArray) (aI.toArray) bK ?_)
 intro b12 w3 U hk0 hb0_
 go_wp2_with ((with_reducible show WL _ _);refine sta 27 (.tmp 12) (.tmp 17) b12 0 pc hb0_ (by first|decide|(rw[List.size_toArray,hpc];exact Nat.le_refl _)|simp[hpc,aG]) (szP9 hpc) HOP.out ?_)
 intro w4 z hb;rw[aK _ _ (by first|rfl|(rw[List.size_toArray,hpc];rfl)|simp[hpc,aG])] at hb;replace z:=tX hk0 z (fun i J e=>by omega);replace E:=lW E U z hb;replace HPT:=pK HPT z;replace HK:=O (HK.keep0 z);clear U z hb hk0 hb0_;go_wp2_with fail;have F:=O (E.b 1);have f:=O (E.b 0);have HGE:=O (And.intro (E.lt 1) (E.lt 0));have HNE:Hid (b9≠b12):=O (fun e=>bJ (i:=0) E.nd rfl 1 (by decide) rfl e);have HKW:=O E.keep;obtain⟨M,hM⟩:∃M,w4.heap.size=M:=⟨_,rfl⟩
 rw[hM] at HGE;have HM:=O (show w.heap.size≤M from by have:=HKW.size;omega);have HMW:=O (Nat.le_of_eq hM.symm);obtain⟨Wh,hWh⟩:∃W,w4=W:=⟨_,rfl⟩
 rw[hWh] at HPT HK F f HKW HMW ⊢;have HP0:=O (fun i (J:pv.ownBlock=some i)=>(HPT0.off i J).2.lt);clear E hWh hM
 go_loopw [11,13] (fun s i wr=>∃(l:Nat) (sa:Option Addr) (G sc:Nat),G+l=3/\i=.int .i64 (l:Int)/\s=.slice sa G sc/\Hid (aA aB w wr/\M≤wr.heap.size)/\Hid (∃pvs vss,cK w wr B M pv n t G (.slice sa G sc) pvs vss)/\Hid (∃pvc,eS wr B M pv (.slice sa G sc) pvc (aY n t G).ptr/\wr.heap[b12]?=some (.cells (aE pvc (aY n t G).ptr).toArray 27 (0,0)))/\Hid (wr.heap[b9]?=some (.cells aI.toArray 27 (0,0)))) (fun _ i _=>(intOf i).toNat)
 case atStart=>exact⟨3,none,0,0,by omega,rfl,rfl,O ⟨HKW.out,HMW.out⟩,O ⟨_,_,cK.nil _ _ _ _ _ _ _⟩,O ⟨pv,⟨by show bC _ B pv t.ptr;rw[HPE.out];exact HPT.out,(fun i J=>by cases J),.inl rfl⟩,by have h:=f.out;rw[←HPC.out,←HPE.out] at h;exact h⟩,F⟩
 case round =>
  obtain⟨l,sa,G,sc_,hsn,rfl,rfl,HK8,HWR,HPV,F⟩:=hrel;obtain⟨pvs,vss,hwr⟩:=HWR.out;obtain⟨pvc,hpv1,hpv3⟩:=HPV.out;obtain⟨q,hq⟩:∃q,(aY n t G).ptr=q:=⟨_,rfl⟩
  have HQ:=O hq;rw[hq] at hpv1 hpv3;have X:=aJ (v:=pvc) hpv1.val.pt.sum;have HOQ0:=aT hpv1.val.pt;obtain⟨qc,hqce⟩:∃x,aE pvc q=x:=⟨_,rfl⟩
  have HOQ:Hid (∀u∈qc,u.oneCell'=true):=O (by rw[←hqce];exact HOQ0);have HQC:=O hqce;rw[hqce] at X hpv3;have Y:=O hwr;have C:=O hpv1;have f:=O hpv3;have H:=O (HK0.keep0 HK8.1);clear hwr hpv1 hpv3 HWR HPV hq hqce HOQ0;have E:=lN wr;obtain⟨ho,hh9⟩:∃b,q.hole=b:=⟨_,rfl⟩
  have HH9:=O hh9;clear hh9;refine wp_seq_k fun K1 hK1=>?_
  refine wp_seq_k fun K2 hK2=>?_
  refine Lo [18,19,20,21,22,23,24,25,26,27] (OG l sh ho wr) ?_ ?_
  ·rcases Nat.eq_zero_or_pos l with hl0|hl0
   ·have J:¬(0:Int)<(l:Int):=by omega
    have d0:decide ((0:Int)<(l:Int))=false:=decide_eq_false J;have HL0:=O hl0;clear hl0;go_wp2_with fail;exact⟨rfl,[.int .i64 (l:Int),.bool false,.bool false,undef,undef,undef,undef,undef,undef,.bool false],(by simp only[qQ,Act.put,List.setIfInBounds_toArray,List.set_cons_zero,List.set_cons_succ]),aA.refl _ _,_,_,_,_,_,_,_,_,_,_,rfl,(fun h=>by cases h),fun _=>.inl HL0.out⟩
   ·have J:(0:Int)<(l:Int):=by omega
    have d0:decide ((0:Int)<(l:Int))=true:=decide_eq_true J;cases sh with
    | false =>
      go_wp2_with fail;exact⟨rfl,[.int .i64 (l:Int),.bool true,.bool true,.bool false,.bool false,undef,undef,.bool false,.bool true,.bool true],(by simp only[qQ,Act.put,List.setIfInBounds_toArray,List.set_cons_zero,List.set_cons_succ]),aA.refl _ _,_,_,_,_,_,_,_,_,_,_,rfl,(fun _=>⟨hl0,fun e=>by cases e⟩),fun e=>by cases e⟩
    | true =>
      cases ho with
      | false =>
        go_wp2_with ((with_reducible show WL _ _);refine aP (by rfl) 27 (.tmp 12) rfl b12 0 rfl qc _ (aD f.out) aH rfl (szP9 X) ?_)
        refine((by rw[←HQC.out];have h:=cL wr pvc q C.val.pt;rw[HH9.out] at h;exact h:Calls _ _ _ wr (aX wr false))).mono ?_;rintro e w9 ⟨rfl,hk9⟩;have HK9:=O hk9;clear hk9;go_wp2_with fail;exact⟨rfl,[.int .i64 (l:Int),.bool true,.bool true,.bool true,.bool true,.agg qc.toArray,.bool false,.bool false,.bool true,.bool true],(by simp only[qQ,Act.put,List.setIfInBounds_toArray,List.set_cons_zero,List.set_cons_succ]),HK9.out,_,_,_,_,_,_,_,_,_,_,rfl,(fun _=>⟨hl0,fun _=>rfl⟩),fun e=>by cases e⟩
      | true =>
        go_wp2_with ((with_reducible show WL _ _);refine aP (by rfl) 27 (.tmp 12) rfl b12 0 rfl qc _ (aD f.out) aH rfl (szP9 X) ?_)
        refine((by rw[←HQC.out];have h:=cL wr pvc q C.val.pt;rw[HH9.out] at h;exact h:Calls _ _ _ wr (aX wr true))).mono ?_;rintro e w9 ⟨rfl,hk9⟩;have HK9:=O hk9;clear hk9;go_wp2_with fail;exact⟨rfl,[.int .i64 (l:Int),.bool true,.bool true,.bool true,.bool true,.agg qc.toArray,.bool true,.bool true,.bool false,.bool false],(by simp only[qQ,Act.put,List.setIfInBounds_toArray,List.set_cons_zero,List.set_cons_succ]),HK9.out,_,_,_,_,_,_,_,_,_,_,rfl,(fun e=>by cases e),fun _=>.inr ⟨rfl,rfl⟩⟩
  rintro _ wr ⟨hk9,s1,s2,s3,s4,s5,s6,s7,s8,s9,bb,rfl,hb1,hb0⟩;have HB1:=O hb1;have HB0:=O hb0;replace Y:=O (cK.keep0 Y.out hk9);replace C:=O (eS.keep0 C.out hk9);replace H:=O (H.keep0 hk9);replace f:=O (hk9.blk f.out id);replace F:=O (hk9.blk F.out id);replace HK8:Hid (aA aB w wr/\M≤wr.heap.size):=O ⟨HK8.1.trans hk9,Nat.le_trans HK8.2 hk9.size⟩;replace E:=O (Loc.nil aB aB wr);have HRr:=Y;have HWB:=O HK8.1.size;have HKWR:=O (Nat.le_refl wr.heap.size);clear hk9 hb1 hb0;refine hK2 _ _ ?_;simp only[qQ,Act.put,List.setIfInBounds_toArray,List.set_cons_zero,List.set_cons_succ];cases bb with
  | false =>
    have HHE:Hid ((aY n t 3).ptr=q):=O (by
     rcases HB0.out (by simp) with e|⟨e,hh⟩
     ·have e3:G=3:=by omega
      rw[←e3];exact HQ.out
     ·have h1:aY n t G=.hole:=gR (by rw[←(iZ (n:=n) HT.out G (by omega)).hole_eq,HQ.out,HH9.out,hh])
      have h2:=BE n t h1 (3-G);rw[show G+(3-G)=3 by omega] at h2;rw[h2,←HQ.out,h1])
    go_wp2_with fail;have HQ3:Hid ((aY n t 3).ptr=q):=O HHE.out;have HKR:=O E.keep;clear E;obtain⟨S',hS0⟩:∃S:World->Prop,S=fun w'=>cK w w' B M pv n t G (.slice sa G sc_) pvs vss/\eS w' B M pv (.slice sa G sc_) pvc q/\w'.heap[b12]?=some (.cells qc.toArray 27 (0,0))/\aA aB w w':=⟨_,rfl⟩
    have K:=O (show ∀w',S' w'->_ from fun w' h=>by rw[hS0] at h;exact h);have HSI:=O (show ∀w',_->S' w' from fun w' h=>by rw[hS0];exact h);have V:=(aA.refl aB wr).drew;have hS:S' wr.drew:=HSI.out _ ⟨Y.keep0 V,C.keep0 V,V.blk f.out id,(HK8.1.trans HKR.out).trans V⟩;have HB9d:=O (V.blk F.out id);clear hS0 V;refine wp_region_held (S:=S') (by kernel_rfl) ?_;change wpAnyH _ _ _ _ _ _ _ _ wr.drew;generalize wr.drew=wy at hS HB9d ⊢;refine tna 0 (.slice sa G sc_) rfl hS ?_;refine tnd 1 (.agg qc.toArray) rfl (yieldsIf_load_mid (by rfl) 27 (.tmp 12) rfl b12 0 rfl qc _ (fun w' h=>aD (K.out w' h).2.2.1) aH rfl (szP9 X)) hS ?_;refine tna 2 (.slice sa G sc_) rfl hS ?_;refine wA9 3 ?_;refine sta 27 (.tmp 9) (.tmp 57) b9 0 qc HB9d.out (by rw[List.size_toArray,aG,X];omega) (szP9 X) HOQ.out ?_;intro wz z hb;rw[aK _ _ (by rw[List.size_toArray,aG,X])] at hb;have HB9z:=O hb
    have hS1:S' wz:=HSI.out _ (by
     obtain⟨h1,h2,h3,h4⟩:=K.out _ hS;have g0:=HGE.1;refine⟨h1.keepT z (fun i J e=>?_) (fun i J e=>?_) (fun i J e=>by omega),h2.keepT z (fun i J e=>?_) (fun i J e=>by omega),z.blk h3 HNE.symm,h4.trans' z (fun _ _ h=>h) (fun i J e=>by omega)⟩
     ·obtain⟨cur,hc⟩:=aO h1.row J
      exact Ct hc HB9d.out (by decide) e
     ·have:=HP0.out i J;omega
     ·have:=HP0.out i J;omega)
    clear hS z hb;refine wpList_nil ?_;refine⟨hS1,?_⟩;refine tna 4 (.int .i64 0) rfl hS1 ?_;refine wpAnyH_done (by kernel_rfl) ?_ _;have HF:=O (K.out _ hS1);clear hS1 K HSI Y C f F HB9d;go_wp2_with fail;refine bodyPost_ret (EK rfl _ _ b9 _ _ _ _ rfl HB9z.out aH rfl (by rw[List.size_toArray,X];exact dM)) rfl ?_;exact⟨_,pvc,G,pvs,vss,M,by rw[HQ3.out,HQC.out];rfl,(fun hs=>(HB0.out (by simp)).elim (fun e=>by omega) fun e=>by rw[hs] at e;cases e.1),HM.out,HF.1,by rw[HQ3.out];exact HF.2.1,HF.2.2.2⟩
  | true =>
    have hl0:=(HB1.out (by simp)).1;obtain⟨l2,rfl⟩:∃l2,l=l2+1:=⟨l-1,by omega⟩
    have hl2:l2≤2:=by omega
    have HOKP:=O (iZ (n:=n) HT.out G (by omega));have e4:3-G=l2+1:=by omega
    rw[e4] at HOKP;clear e4 hl0;have hl20:(0:Int)≤(l2:Int):=by omega
    go_wp2_with ((with_reducible show WL _ _);refine wpList_load_mid rfl 27 (.tmp 12) rfl b12 0 rfl qc _ (aD f.out) aH rfl (szP9 X) ?_)
    refine((by rw[←HQC.out,←HQ.out];exact Js H.out hl2 pvc (aY n t G) HOKP.out (by rw[HQ.out];exact C.val.pt):Calls _ _ _ wr (fN wr B l2 (aY n t G)))).mono ?_;rintro e w6 ⟨vs,rfl,hvs,hnew,z⟩;have I:=O hvs;have HNW:=O hnew;have HWS:=O E.keep.size;have hnn:=eE ((l2+1:Nat):Int) vs hvs.nv;have HOF0:=dQ ((l2+1:Nat):Int) hvs.nv;obtain⟨nn,hnne⟩:∃x,cH ((l2+1:Nat):Int) vs (fun i=>((aY n t G).kid i).ptr)=x:=⟨_,rfl⟩
    have HOF:Hid (∀u∈nn,u.oneCell'=true):=O (by rw[←hnne];exact HOF0);have HNF:=O hnne;rw[hnne] at hnn ⊢;clear HOF0 hnne hvs hnew;replace E:=kL E z;replace Y:=O (cK.keep0 Y.out z);replace C:=O (eS.keep0 C.out z);replace H:=O (H.keep0 z);replace f:=O (z.blk f.out id);replace F:=O (z.blk F.out id);clear z;have HKR:=O E.keep;replace E:=O (Loc.nil aB aB w6);have HR1:=Y;have HWP1:=C;have HKi1:=H;have HB121:=f;have HB91:=F;have HNN1:=I
    go_wp2_with ((with_reducible show WL _ _);refine al 98 (.agg dI.toArray) (dI.toArray) jO ?_)
    intro b14 w7 U hk0 hb0_
    go_wp2_with ((with_reducible show WL _ _);refine sta 98 (.tmp 14) (.tmp 35) b14 0 nn hb0_ (by first|decide|(rw[List.size_toArray,hnn];exact Nat.le_refl _)|simp[hnn,bX]) (by rw[hnn];exact dN) HOF.out ?_)
    intro w8 z hb;rw[aK _ _ (by first|rfl|(rw[List.size_toArray,hnn];rfl)|simp[hnn,bX])] at hb;replace z:=tX hk0 z (fun i J e=>by omega);replace E:=lW E U z hb;replace Y:=O (cK.keep0 Y.out z);replace C:=O (eS.keep0 C.out z);replace H:=O (H.keep0 z);replace f:=O (z.blk f.out id);replace F:=O (z.blk F.out id);replace I:=O (cI.keep0 I.out z);clear U z hb hk0 hb0_;obtain⟨d,hde⟩:∃d,n / 4 ^ l2 % 4=d:=⟨_,rfl⟩
    have HDE:=O hde;have hd4:d<4:=by rw[←hde];exact gI n l2
    have U:=Jz qc nn ((d:Nat):Int) X hnn;have hsc:(qc++(nn++([.int .i64 ((d:Nat):Int)]:List Value))).length=177:=by simp[X,hnn]
    obtain⟨sc,hsce⟩:∃x,qc++(nn++([.int .i64 ((d:Nat):Int)]:List Value))=x:=⟨_,rfl⟩
    have HOSC:Hid (∀u∈sc,u.oneCell'=true):=O (by
     intro u hu;rw[←hsce] at hu;rcases List.mem_append.1 hu with hu|hu
     ·exact HOQ.out u hu
     rcases List.mem_append.1 hu with hu|hu
     ·exact HOF.out u hu
     ·rcases List.mem_singleton.1 hu with rfl;rfl)
    have HSC:=O hsce;rw[hsce] at U hsc;have HBS:=O U;clear hde U hsce;go_wp2_with fail;apply EJ (R:=fun(b16:Nat) w'=>Hid (cK w w' B M pv n t G (.slice sa G sc_) pvs vss/\eS w' B M pv (.slice sa G sc_) pvc q/\KI w' c S B/\w'.heap[b12]?=some (.cells qc.toArray 27 (0,0))/\w'.heap[b9]?=some (.cells aI.toArray 27 (0,0))/\cI w' B vs (fun i=>((aY n t G).kid i).ptr)/\Loc aB aB w6 w' [(b16,sc.toArray,166),(b14,nn.toArray,98)]))
    case h =>
     go_wp2_with fail;refine dwB aB (by kernel_rfl) ?_;intro w9 S K HSI hS V;replace E:=kL E V;replace Y:=O (cK.keep0 Y.out V);replace C:=O (eS.keep0 C.out V);replace H:=O (H.keep0 V);replace f:=O (V.blk f.out id);replace F:=O (V.blk F.out id);replace I:=O (cI.keep0 I.out V);clear V;have HLs:=E;have HRs:=Y;have HWPs:=C;have HKis:=H;have HB12s:=f;have HB9s:=F;have HNNs:=I;refine tnd 0 (.agg qc.toArray) rfl (yieldsIf_load_mid (by rfl) 27 (.tmp 12) rfl b12 0 rfl qc _ (fun w' h=>(K.out w' h).rangeAt (aD HB12s.out)) aH rfl (szP9 X)) hS ?_;refine tnd 1 (.agg nn.toArray) rfl (yieldsIf_load_mid (by rfl) 98 (.tmp 14) rfl b14 0 rfl nn _ (fun w' h=>aD ((K.out w' h).blk (HLs.b 0) id)) Tryz.underlying98 rfl (by rw[hnn];exact dN)) hS ?_;refine tna 2 (.int .i64 (n:Int)) rfl hS ?_;refine tna 3 (.int .i64 ((l2+1:Nat):Int)) rfl hS ?_;refine eK (k:=4) (l:=6) rfl rfl (by kernel_rfl) ?_ ?_
     ·go_wp2_with fail
      refine(BD w9 n l2 HN.out (by omega)).mono ?_;rintro e wa ⟨rfl,z⟩;have hS1:=HSI.out _ ((K.out _ hS).trans z);replace E:=kL E z;replace Y:=O (cK.keep0 Y.out z);replace C:=O (eS.keep0 C.out z);replace H:=O (H.keep0 z);replace f:=O (z.blk f.out id);replace F:=O (z.blk F.out id);replace I:=O (cI.keep0 I.out z);clear hS z;rw[HDE.out];go_wp2_with fail;refine⟨hS1,?_⟩;refine tnd 5 (.agg sc.toArray) rfl (fH 166 #[(0,.tmp 41),(1,.tmp 42),(2,.tmp 45)] [(0,.agg qc.toArray),(1,.agg nn.toArray),(2,.int .i64 ((d:Nat):Int))] (.agg sc.toArray) HBS.out) hS1 ?_;refine wA9 6 ?_;refine al 166 (.agg iV.toArray) (iV.toArray) zU ?_;intro b16 wb U z hb;have HNb16:=O (show w9.heap.size≤b16 from by have:=(K.out _ hS1).size;omega);have hS2:=HSI.out _ ((K.out _ hS1).trans z);clear hS1;replace E:=lW E U z hb;replace Y:=O (cK.keep0 Y.out z);replace C:=O (eS.keep0 C.out z);replace H:=O (H.keep0 z);replace f:=O (z.blk f.out id);replace F:=O (z.blk F.out id);replace I:=O (cI.keep0 I.out z);clear U z hb;refine wpList_nil ?_;refine⟨hS2,?_⟩;refine wA9 7 ?_;refine sta 166 (.tmp 16) (.tmp 46) b16 0 sc (E.b 0) (by first|decide|(rw[hsc];exact Nat.le_refl _)|simp[hsc,gT]) (by rw[hsc];exact rV) HOSC.out ?_;intro wc z hb;rw[aK _ _ (by first|rfl|simp[hsc,gT])] at hb;have hS3:=HSI.out _ ((K.out _ hS2).trans' z (fun _ _ h=>h) (fun i J e=>by have:=HNb16.out;omega));clear hS2;replace E:=O (E.set 0 z hb);replace Y:=O (cK.keep0 HR1.out E.keep);replace C:=O (eS.keep0 HWP1.out E.keep);replace H:=O (HKi1.keep0 E.keep);replace f:=O (E.keep.blk HB121.out id);replace F:=O (E.keep.blk HB91.out id);replace I:=O (cI.keep0 HNN1.out E.keep);clear z hb;refine wpList_nil ?_;refine⟨hS3,?_⟩;refine wpAnyH_done (by kernel_rfl) ?_ _;clear hS3 K HSI HLs HRs HWPs HKis HB12s HB9s HNNs;refine noP ?_;exact⟨rfl,b16,rfl,O ⟨Y.out,C.out,H.out,f.out,F.out,I.out,E.out⟩⟩
     ·refine al 166 (.agg iV.toArray) (iV.toArray) zU ?_
      intro b16 wa U z hb;have HNb16:=O (show w9.heap.size≤b16 from by have:=(K.out _ hS).size;omega);have hS1:=HSI.out _ ((K.out _ hS).trans z);clear hS;replace E:=lW E U z hb;replace Y:=O (cK.keep0 Y.out z);replace C:=O (eS.keep0 C.out z);replace H:=O (H.keep0 z);replace f:=O (z.blk f.out id);replace F:=O (z.blk F.out id);replace I:=O (cI.keep0 I.out z);clear U z hb;refine wpList_nil ?_;refine⟨hS1,?_⟩;refine wA9 4 ?_;go_wp2_with fail;refine(BD wa n l2 HN.out (by omega)).mono ?_;rintro e wb ⟨rfl,z⟩;have hS2:=HSI.out _ ((K.out _ hS1).trans z);replace E:=kL E z;replace Y:=O (cK.keep0 Y.out z);replace C:=O (eS.keep0 C.out z);replace H:=O (H.keep0 z);replace f:=O (z.blk f.out id);replace F:=O (z.blk F.out id);replace I:=O (cI.keep0 I.out z);clear hS1 z;rw[HDE.out];go_wp2_with fail;refine⟨hS2,?_⟩;refine tnd 5 (.agg sc.toArray) rfl (fH 166 #[(0,.tmp 41),(1,.tmp 42),(2,.tmp 45)] [(0,.agg qc.toArray),(1,.agg nn.toArray),(2,.int .i64 ((d:Nat):Int))] (.agg sc.toArray) HBS.out) hS2 ?_;refine wA9 7 ?_;refine sta 166 (.tmp 16) (.tmp 46) b16 0 sc (E.b 0) (by first|decide|(rw[hsc];exact Nat.le_refl _)|simp[hsc,gT]) (by rw[hsc];exact rV) HOSC.out ?_;intro wc z hb;rw[aK _ _ (by first|rfl|simp[hsc,gT])] at hb;have hS3:=HSI.out _ ((K.out _ hS2).trans' z (fun _ _ h=>h) (fun i J e=>by have:=HNb16.out;omega));clear hS2;replace E:=O (E.set 0 z hb);replace Y:=O (cK.keep0 HR1.out E.keep);replace C:=O (eS.keep0 HWP1.out E.keep);replace H:=O (HKi1.keep0 E.keep);replace f:=O (E.keep.blk HB121.out id);replace F:=O (E.keep.blk HB91.out id);replace I:=O (cI.keep0 HNN1.out E.keep);clear z hb;refine wpList_nil ?_;refine⟨hS3,?_⟩;refine wpAnyH_done (by kernel_rfl) ?_ _;clear hS3 K HSI HLs HRs HWPs HKis HB12s HB9s HNNs;refine noP ?_;exact⟨rfl,b16,rfl,O ⟨Y.out,C.out,H.out,f.out,F.out,I.out,E.out⟩⟩
    case hR =>
     rintro b16 wd HF;replace Y:=O HF.1;replace C:=O HF.2.1;replace H:=O HF.2.2.1;replace f:=O HF.2.2.2.1;replace F:=O HF.2.2.2.2.1;replace I:=O HF.2.2.2.2.2.1;replace E:=O HF.2.2.2.2.2.2;clear HF;have HOR:=O Y.row;have HSL:=O (fun i (J:(Value.slice sa G sc_).ownBlock=some i)=>show i<wr.heap.size from by obtain⟨cur,hc⟩:=aO HRr.row J;exact lt_of_block hc);have HKB:=O E.keep;have HB16:=O (E.b 0);have HB14:=O (E.b 1);have hGB:=And.intro (E.lt 0).1 (E.lt 1).1;have HGB:=O hGB;have HMWR:=O HK8.2;obtain⟨wE,hwe,hke,hbe,-⟩:=aS wd sc.toArray 166;obtain⟨bx,hbx⟩:∃x,wd.heap.size=x:=⟨_,rfl⟩
     rw[hbx] at hbe;have HRN:Hid (Rd wE 177 (.slice bx 1 1) 1 sc):=O (dE (n:=1) (size:=177) hbe (by rw[hsc]) (by unfold maxLen;omega));have HO_:=O (hke.owns HOR.out fun _ _=>id);have HSE_:=O hke.size;have HBW_:=O E.keep.size;have HKE:=O hke;have HBX:=O hbx;have hsn2:G≤2:=by omega
     clear hbe hke hGB E
     go_wp2_with (first
      | ((with_reducible show WL (some 48) (.load 166 _));refine wpList_load_mid rfl 166 (.tmp 16) rfl b16 0 rfl sc _ (aD HB16.out) Tryz.underlying166 rfl (by rw[hsc];exact rV) ?_)
      | ((with_reducible show WL _ (.buildSlice _ 1 _));refine bL rfl 156 166 (.tmp 48) rfl Tryz.underlying156 Jw (by decide) sc hsc (by decide) rfl ?_;rw[hwe,hbx])
      | (at_builtin;refine aL rfl (.tmp 47) (.tmp 49) 156 rfl w.heap.size 166 (.agg iV.toArray) 177 376 Tryz.underlying156 Jw rfl (by decide) (.slice sa G sc_) G (lJ n t G pvs vss) rfl HO_.out (.slice bx 1 1) 1 sc rfl HRN.out HOSC.out (by unfold maxLen;omega) (by omega) (by have h1:=HSE_.out;have h2:=HBW_.out;have h3:=HWB.out;have h4:=HKR.size;omega) ?_))
     intro v2 w8 ho5 hk5 hn5 hb5;obtain⟨g5,c5,rfl⟩:=ownsRow_succ ho5;clear hwe hbx hn5 HRN HO_;have HAV:Hid (∀q,q<4->Apt (.slice sa G sc_) (vs q)/\AR M (vs q)):=O (fun q hq=>⟨fun i J e=>by have h1:=HSL.out i J;have h2:=HNW.out q hq i e;have h3:=HWS.out;omega,fun i J=>by have h2:=HNW.out q hq i J;have h3:=HWS.out;have h4:=HMWR.out;omega⟩)
     have HR8:Hid (cK w w8 B M pv n t (G+1) (.slice g5 (G+1) c5) (fun j=>if j=G then pvc else pvs j) (fun j=>if j=G then vs else vss j)):=O (Y.next HKE.out (by rw[HQ.out];exact C.val) C.apt C.far I.out HAV.out (by
      have e:eW n t G pvc vs=sc:=by
       unfold eW;rw[HQ.out,HQC.out,←HSC.out,←HNF.out,←HDE.out,show 3-G=l2+1 by omega,show 2-G=l2 by omega]
      rw[e];exact ho5) hk5 hb5)
     have HO8:Hid (∀i,(Value.slice sa G sc_).ownBlock=some i->i≠b9/\i≠b12/\i≠b14/\i≠b16):=O (fun i J=>by
      have h1:=HSL.out i J;obtain⟨cur,hc⟩:=aO HOR.out J;exact⟨Ct hc F.out (by decide),Ct hc f.out (by decide),by have:=HGB.2;have:=HKR.size;omega,by have:=HGB.1;have:=HKR.size;omega⟩)
     have HB9e:=O (hk5.blk (HKE.blk F.out id) (fun e=>(HO8.out _ e).1 rfl));have HB12e:=O (hk5.blk (HKE.blk f.out id) (fun e=>(HO8.out _ e).2.1 rfl));have HB14e:=O (hk5.blk (HKE.blk HB14.out id) (fun e=>(HO8.out _ e).2.2.1 rfl));have HB16e:=O (hk5.blk (HKE.blk HB16.out id) (fun e=>(HO8.out _ e).2.2.2 rfl));have HOWB:=O (fun i (J:(Value.slice sa G sc_).ownBlock=some i)=>show w.heap.size≤i from aU HOR.out J);have HK9:Hid (aA aB w w8):=O ((((HK8.1.trans HKR.out).trans HKB.out).trans HKE.out).trans' hk5 (fun _ _ h=>h) (fun i J e=>by have:=HOWB.out i e;omega));have HMS:=O (show M≤w8.heap.size from by have h1:=HMWR.out;have h2:=HKR.size;have h3:=HKB.size;have h4:=HKE.size;have h5:=hk5.size;omega);have HVD:Hid (eS w8 B M pv (.slice g5 (G+1) c5) (vs d) ((aY n t G).kid d).ptr):=O ⟨(((I.out d hd4).keep0 HKE.out).keepT hk5 (fun i J e=>(HAV.out d hd4).1 i e J)),rU (HAV.out d hd4).1 hb5 ((I.out d hd4).keep0 HKE.out),.inr (HAV.out d hd4).2⟩;have hkc:=aJ (v:=vs d) HVD.val.pt.sum;have HOKC0:=aT HVD.val.pt;have HKA0:=pW I.nv (by rw[HNF.out];exact aD HB14e.out) hd4;obtain⟨kc,hkce⟩:∃x,aE (vs d) ((aY n t G).kid d).ptr=x:=⟨_,rfl⟩
     have HOKC:Hid (∀u∈kc,u.oneCell'=true):=O (by rw[←hkce];exact HOKC0);have HKC:=O hkce;rw[hkce] at hkc HKA0;have HKA:=O HKA0;have hdi0:(0:Int)≤(d:Int):=by omega
     have hdi1:(d:Int)<4:=by omega
     have hcd:w8.cell? ⟨b16,176,none⟩=some (.int .i64 (d:Int)):=aC (i:=176) HB16e.out (by
      rw[←HSC.out,List.getElem?_toArray,List.getElem?_append_right (by omega),List.getElem?_append_right (by omega),X,hnn];rfl)
     clear ho5 hk5 hb5 HKA0 HOKC0 hkce Y C H f F I HB14 HB16 HOR
     go_wp2_with ((with_reducible show WL _ _);first
      | refine wpList_load_mid rfl 27 (.tmp 54) rfl b14 (1+d*35) rfl kc _ HKA.out aH rfl (szP9 hkc) ?_
      | refine sta 27 (.tmp 12) (.tmp 55) b12 0 kc HB12e.out (by rw[List.size_toArray,X,hkc];omega) (szP9 hkc) HOKC.out ?_)
     intro w9 z hb;rw[aK _ _ (by rw[List.size_toArray,X,hkc])] at hb;have HG12:=HGE.2;have HX12:Hid (∀i,i=b12->w.heap.size≤i/\i<M):=O (fun i e=>by rw[e];exact HG12);have HR9:=O (HR8.keepT z (fun i J e=>by obtain⟨cur,hc⟩:=aO HR8.row J;exact Ct hc HB12e.out (by decide) e) (fun i J e=>by have:=HP0.out i J;have:=(HX12.out i e).1;omega) (fun i J e=>by have:=(HX12.out i e).2;omega));have HP9:=O (HVD.keepT z (fun i J e=>by have:=HP0.out i J;have:=(HX12.out i e).1;omega) (fun i J e=>by have:=(HX12.out i e).2;omega));have HK99:=O (And.intro (HK9.trans' z (fun _ _ h=>h) (fun i J e=>by have:=(HX12.out i e).1;omega):aA aB w w9) (show M≤w9.heap.size from by have h1:=HMS.out;have h2:=z.size;omega));have HB99:=O (z.blk HB9e.out HNE.out);have HNX:Hid (aY n t (G+1)=(aY n t G).kid d):=O (by show (aY n t G).kid (n / 4 ^ (2-G) % 4)=_;rw[show 2-G=l2 by omega,HDE.out]);have HB129:Hid (w9.heap[b12]?=some (.cells (aE (vs d) (aY n t (G+1)).ptr).toArray 27 (0,0))):=O (by rw[hb,HNX.out,HKC.out]);rw[←HNX.out] at HP9;clear z hb hcd HR8 HVD HB9e HB12e HB14e HB16e HKA;go_wp2
     go_roundw
     case rel=>exact⟨l2,some ⟨g5,0,none⟩,G+1,c5,by omega,by first|rfl|go_num,rfl,HK99,O ⟨_,_,HR9.out⟩,O ⟨_,HP9.out,HB129.out⟩,HB99⟩
     case measure=>simp[intOf]
theorem Tr.Ok.root(h:Tr.Ok S 3 t):t.ptr.root=true:=by
 unfold Pt.root;cases t with
 | hole=>rw[show Tr.hole.ptr.hole=true from iQ];rfl
 | leaf p b=>exact h.elim
 | node p k =>
   have f:p.may=true:=h.1.may;have i:p.level=3:=h.1.lev;show (p.hole || (p.may && decide (p.level=3)))=true;rw[f,i];simp
theorem zV(j:KI w c S B)(pv:Value)(t:Tr)(h:Tr.Ok S 0 t)(f:PtV w pv t.ptr)(i:Nat):Calls Tryz.prog 91 #[.pointer c,.agg (aE pv t.ptr).toArray] w (fQ w (t.blk 0 i)):=by
 cases t with
 | hole=>exact EI pv zPt f iQ
 | leaf p b=>exact GQ j pv p f h.1
 | node p k=>exact h.elim
def Cu(b:Nat->List Value)(k:Nat):Array Value:=#[.int .i64 ((2-k:Nat):Int),.agg (b (2-k)).toArray]
theorem GU(n:Nat){Res:Nat->Prop}{E cap:Nat}(V:Nat->List Value)(R:∀x,x<3->(V x).length=177)(hcap:3≤cap)(hB:w.heap[E]?=some (.cells #[.slice g 3 cap] 156 (0,0)))(hx:∀x,x<3->w.rangeAt g (x*177) (V x)){cur:Array Value}(hg:w.heap[g]?=some (.cells cur 166 (0,0)))(hR1:¬Res E)(hRg:¬Res g) :
 ∀(l:Nat) (J:Nat->World->Prop) (Jx:World->Prop) (W:World),aA aB w W->J 0 W ->
  (∀k W1,k<3->J k W1->YieldAt Fence.wide (n-1) Tryz.prog l (Cu V k) W1 fun e W'=>(e=.returned (.bool true)/\J (k+1) W'/\KpC Res W1 W')\/(e=.returned (.bool false)/\Jx W')) ->
  CallsIn Fence.wide n Tryz.prog 126 (#[.func (.yield l) #[] #[]]++#[.pointer E]) W fun e W'=>(∃v,e=.returned v)/\(J 3 W'\/Jx W'):=by
 intro l J Jx W z hJ0 hY;have HS:=O (And.intro (z.blk hB id) (z.blk hg id))
 have Y:Hid (∀W':World,W'.heap[g]?=some (.cells cur 166 (0,0))->∀x,x<3->W'.rangeAt g (x*177) (V x)):=O fun W' h x hx3 j v hj =>
  (World.cell?_of_block (w:=w) (w':=W') (a:=⟨g,x*177+j,none⟩) (h.trans hg.symm)).trans (hx x hx3 j v hj)
 have X:=O R;have HYY:=O hY;have c0:=cell_of_one HS.1;clear hB hx hg R hY z;refine callsIn_of_wp Tryz.func126 rfl trivial ?_ rfl;simp only[Tryz.ntmps126,List.size_toArray,List.length_cons,List.length_nil,Nat.reduceAdd,Nat.reduceSub,Array.replicate_succ,Array.replicate_zero,List.push_toArray,List.append_toArray,List.nil_append,List.cons_append]
 gi_wp2
 clear c0
 gi_loopw [3] (fun i wr=>∃k:Nat,((k=3/\i=.int .i64 (-1))\/∃y:Nat,k+y=2/\i=.int .i64 (y:Int))/\J k wr/\Hid (wr.heap[E]?=some (.cells #[.slice g 3 cap] 156 (0,0))/\wr.heap[g]?=some (.cells cur 166 (0,0)))) (fun i _=>(intOf i+1).toNat)
 case atStart=>exact⟨0,.inr ⟨2,rfl,rfl⟩,hJ0,HS⟩
 case round =>
  obtain⟨k,(⟨rfl,rfl⟩|⟨y,hky,rfl⟩),hJ,F⟩:=hrel
  ·gi_wp2
   go_end0
   exact⟨⟨_,rfl⟩,.inl hJ⟩
  ·have e1:(y:Int)<3:=by omega
   have hb0:(0:Int)≤(y:Int):=by omega
   have hcy:(y:Int)<(cap:Int):=by omega
   have e2:2-k=y:=by omega
   have b:=HYY.out k wr (by omega) hJ;unfold Cu at b;rw[e2] at b;have C:=Y.out wr F.out.2 y (by omega);have U:=X.out y (by omega);have ck:=cell_of_one F.out.1;obtain⟨sy,f⟩:∃l,V y=l:=⟨_,rfl⟩
   rw[f] at b C U;obtain⟨fn,tmps,assign,body,hy,hR⟩:=b;clear e2 f
   gi_wp2_with (first
    | (refine kJ rfl 166 (.tmp 15) rfl g (y*177) rfl sy _ C Tryz.underlying166 rfl (by rw[U];exact rV) ?_)
    | gi_in)
   refine⟨fun h=>by simp[Fence.wide] at h,hR.mono ?_⟩;rintro e W3 (⟨rfl,H,s⟩|⟨rfl,K⟩)
   ·have G:Hid (W3.heap[E]?=some (.cells #[.slice g 3 cap] 156 (0,0))/\W3.heap[g]?=some (.cells cur 166 (0,0))):=O ⟨s _ _ _ _ hR1 F.out.1,s _ _ _ _ hRg F.out.2⟩
    have I:=O H;clear H s hJ hR hy F ck C
    gi_wp2
    rcases y with _|y
    ·go_roundw
     case rel=>exact⟨k+1,.inl ⟨by omega,rfl⟩,I.out,G⟩
     case measure=>simp[intOf]
    ·go_roundw
     case rel=>exact⟨k+1,.inr ⟨y,by omega,by first|rfl|go_num|(congr 1;omega)⟩,I.out,G⟩
     case measure=>simp[intOf];omega
   ·gi_wp2
    refine bodyPost_ret (results_none rfl _ _ _) rfl ?_;exact⟨⟨_,rfl⟩,.inr K⟩
theorem Lp(v:Value)(w:World)(s:∃a n c,v=.slice a n c) :
 Calls Tryz.prog 94 #[v] w fun e w'=>∃b,e=.returned (.func (.func 126) #[] #[.pointer (some ⟨b,0,none⟩)])/\w'.heap[b]?=some (.cells #[v] 156 (0,0))/\w.heap.size=b/\aA aB w w':=by
 obtain⟨a,n,c,rfl⟩:=s;go_in
 go_wp2_with ((with_reducible show WL (some 1) (.box 156 _));refine bx 156 (.tmp 0) #[.slice a n c] ?_)
 intro b w1 f j i;have h:=O (And.intro i (And.intro f j));clear f j i;go_wp2;go_ret;exact⟨b,rfl,h.1,h.2.1,h.2.2⟩
def tB(S:Kor)(t:Tr)(n:Nat)(bs:List UInt8):Option Tr×Kor:=if t.blk 3 n=bs then (some t,S) else eI 3 S t n bs
theorem DL(S:Kor)(t:Tr)(n:Nat)(bs:List UInt8)(h:k+y=2):eI (k+1) S (aY n t y) n bs=match eI k S (aY n t (y+1)) n bs with
 | (none,T)=>(none,T)
 | (some u,T)=>T.lay (k+1) (fC (aY n t y).kid (n / 4 ^ k % 4) u):=by
 have e:aY n t (y+1)=(aY n t y).kid (n / 4 ^ k % 4):=by
  show (aY n t y).kid (n / 4 ^ (2-y) % 4)=_;rw[show 2-y=k by omega]
 rw[e];rfl
theorem BF{T:Kor}:∀{y k:Nat},k+y=3->eI k S (aY n t y) n bs=(none,T)->eI 3 S t n bs=(none,T)
 | 0,k,h,e=>by
   have b:k=3:=by omega
   subst b;exact e
 | y+1,k,h,e=>BF (y:=y) (k:=k+1) (by omega) (by rw[DL S t n bs (k:=k) (y:=y) (by omega),e])
theorem Fo(V:S.Bd)(G:Tr.Ok S 3 t)(f:bs.length=256)(b:¬t.blk 3 n=bs)(h:k+y=3){T:Kor}(e:eI k S (aY n t y) n bs=(some u,T)) :
 Beh S T/\Tr.Ok T k u/\u.ptr.eqB (aY n t y).ptr=false:=by
 have C:Tr.Ok S k (aY n t y):=by
  have:=iZ (n:=n) G y (by omega)
  rwa [show 3-y=k by omega] at this
 obtain⟨J,K⟩:=pC f n (by omega) V C e;obtain⟨z,R,U⟩:=K u rfl;have H:u.blk k n=bs:=by rw[R,if_pos rfl]
 have Y:∀x j,x+j=3->t.blk 3 n=(aY n t x).blk j n:=by
  intro x
  induction x with
  | zero =>
     intro j X;obtain rfl:j=3:=by omega
     rfl
  | succ x ih =>
    intro j X;have I:=iZ (n:=n) G x (by omega);rw[show 3-x=j+1 by omega] at I;rw[ih (j+1) (by omega),I.blk_succ];show _=((aY n t x).kid (n / 4 ^ (2-x) % 4)).blk j n;rw[show 2-x=j by omega]
 have F:=Y y k (by omega);refine⟨J,z,?_⟩;cases E:(aY n t y).isHole with
 | false=>exact Fr.ne C E U
 | true =>
   have s:=gR E;rw[s,Tr.blk_hole] at F;rw[s];refine Fr.ne_hole (S:=S) z ?_;cases i:u.isHole with
   | false=>rfl
   | true =>
     rw[gR i,Tr.blk_hole] at H;rw[←H] at b;exact absurd F b
theorem Lq(k:Nat->Tr)(d:Nat)(u:Tr):gY (fun i=>(k i).ptr) d u.ptr=fun i=>(fC k d u i).ptr:=by
 funext i
 unfold gY fC
 by_cases e:i=d
 ·rw[if_pos e,if_pos e]
 ·rw[if_neg e,if_neg e]
theorem MZ{T:Kor}{k:Nat->Tr}(f:∀i,i<4->Tr.Ok S l (k i))(e:Ext S T)(j:Tr.Ok T l u):∀i,i<4->Tr.Ok T l (fC k d u i):=fun i b=>by
 by_cases h:i=d
 ·rw[h,iH];exact j
 ·rw[iI _ _ h];exact(f i b).ext e
abbrev GV:TypeId:=49
abbrev GW:TypeId:=27
def tC(W0:World)(b8 b9 b10 b12 c:Nat)(S:Kor)(B0:Nat->Prop)(n:Nat)(t:Tr)(bs:List UInt8)(k:Nat)(W:World):Prop:=
 ∃y v B',k+y=3/\W.heap[b12]?=some (.cells (aE v (gJ (eI k S (aY n t y) n bs).1)).toArray GW (0,0)) /\
  W.heap[b10]?=some (.cells #[.int .i64 (lE (eI k S (aY n t y) n bs).1)] GV (0,0)) /\
  bC W B' v (gJ (eI k S (aY n t y) n bs).1)/\(∀i,v.ownBlock=some i->i≠b8/\i≠b9/\i≠b10/\i≠b12) /\
  KI W c (eI k S (aY n t y) n bs).2 B'/\(∀i,B' i->B0 i\/W0.heap.size≤i)/\(∀i,B' i->IsC W i\/i<W0.heap.size/\B0 i/\¬IsC W0 i) /\
  aA (fun i=>B0 i\/i=b10\/i=b12) W0 W
def DM(W0:World)(b8 b9 b10 b12 c:Nat)(S:Kor)(B0:Nat->Prop)(n:Nat)(t:Tr)(bs:List UInt8)(W:World):Prop:=
 ∃T B',eI 3 S t n bs=(none,T)/\W.heap[b8]?=some (.cells aI.toArray GW (0,0))/\W.heap[b9]?=some (.cells #[.int .i64 15] GV (0,0)) /\
  KI W c T B'/\(∀i,B' i->B0 i\/W0.heap.size≤i)/\(∀i,B' i->IsC W i\/i<W0.heap.size/\B0 i/\¬IsC W0 i)/\aA (fun i=>B0 i\/i=b8\/i=b9\/i=b10\/i=b12) W0 W
theorem nJ(f:W.heap[l]?=some o)(b:o.isCells=false){i:Nat}(h:IsC W i):¬(some l=some i):=fun e=>by
 obtain⟨cs,t,h⟩:=h;injection e with e
 rw[←e,f] at h;injection h with h
 rw[h] at b;cases b
theorem tC.put(h:tC W0 b8 b9 b10 b12 c S B0 n t bs k W)(K:W0.heap.size≤l)(J:W.heap[l]?=some o)(I:o.isCells=false)(o':Obj):tC W0 b8 b9 b10 b12 c S B0 n t bs k (W.putObj l o'):=by
 obtain⟨y,v,B',E,j,s,x,F,G,h7,z,H⟩:=h;have b:=aA.of_grown (grownBy_putObj' W l o');have no:=fun {i:Nat}(h:IsC W i)=>nJ J I h
 refine⟨y,v,B',E,b.blk j (no ⟨_,_,j⟩),b.blk s (no ⟨_,_,s⟩),x.keepT b (fun i C=>no (x.off i C).2),F,G.keepT b (fun i e f=>?_),h7,fun i f=>?_,H.trans' b (fun _ _ h=>h) (fun i C e=>by injection e with e;omega)⟩
 ·rcases z i f with h|h
  ·exact no h e
  ·have:=h.1;injection e with e;omega
 ·rcases z i f with h|h
  ·exact .inl (h.keep b (no h))
  ·exact .inr h
theorem DM.put(h:DM W0 b8 b9 b10 b12 c S B0 n t bs W)(I:W0.heap.size≤l)(G:W.heap[l]?=some o)(F:o.isCells=false)(o':Obj):DM W0 b8 b9 b10 b12 c S B0 n t bs (W.putObj l o'):=by
 obtain⟨T,B',z,j,s,C,h7,x,E⟩:=h;have b:=aA.of_grown (grownBy_putObj' W l o');have no:=fun {i:Nat}(h:IsC W i)=>nJ G F h
 refine⟨T,B',z,b.blk j (no ⟨_,_,j⟩),b.blk s (no ⟨_,_,s⟩),C.keepT b (fun i e f=>?_),h7,fun i f=>?_,E.trans' b (fun _ _ h=>h) (fun i H e=>by injection e with e;omega)⟩
 ·rcases x i f with h|h
  ·exact no h e
  ·have:=h.1;injection e with e;omega
 ·rcases x i f with h|h
  ·exact .inl (h.keep b (no h))
  ·exact .inr h
theorem tC.keep0(h:tC W0 b8 b9 b10 b12 c S B0 n t bs k W)(b:aA aB W W'):tC W0 b8 b9 b10 b12 c S B0 n t bs k W':=by
 obtain⟨y,v,B',f,j,s,x,z,C,h7,E,F⟩:=h;exact⟨y,v,B',f,b.blk j id,b.blk s id,x.keep0 b,z,C.keep0 b,h7,fun i G=>(E i G).imp (fun h=>h.keep b id) id,F.trans b.any⟩
open Go.RowKit Go.Maps Go.ChangeMaps
set_option maxRecDepth 100000
theorem Tr.Ok.blk_len:∀{l:Nat}{t:Tr},Tr.Ok S l t->∀(i:Nat),(t.blk l i).length=256
 | l,.hole,h,i=>by rw[Tr.blk_hole];exact Jt
 | 0,.leaf p b,h,i=>h.1.len
 | 0,.node p k,h,i=>h.elim
 | l+1,.leaf p b,h,i=>h.elim
 | l+1,.node p k,h,i=>(h.2.1 _ (gI i l)).blk_len i
theorem Loc.wide{S:Nat->Prop}{l:List (Nat×Array Value×TypeId)}(h:Loc aB aB w0 w l)(b:∀k,B k->k<w0.heap.size):Loc S B w0 w l:=
 ⟨h.keep.any,h.ge,h.nd,h.at_,fun x f e=>by have:=h.ge x f;have:=b _ e;omega⟩
structure NW(a b N:Nat)(k:Nat)(sv:Value)(pvs:Nat->Value)(vss:Nat->Nat->Value):Prop where
 sv:∀i,sv.ownBlock=some i->(i<a\/b≤i)/\i<N
 pvs:∀j,j<k->∀i,(pvs j).ownBlock=some i->(i<a\/b≤i)/\i<N
 vss:∀j,j<k->∀q,q<4->∀i,(vss j q).ownBlock=some i->(i<a\/b≤i)/\i<N
theorem cK.zone{pv0:Value}(h:cK w0 w' B M pv0 n t k sv pvs vss)(s:w0.heap.size≤M)(h0:∀i,pv0.ownBlock=some i->i<w.heap.size):NW w.heap.size w0.heap.size w'.heap.size k sv pvs vss:=by
 refine⟨fun i b=>⟨.inr (aU h.row b),?_⟩,fun j f i b=>⟨?_,((h.pvs j f).1.off i b).2.lt⟩,fun j f q x i b=>⟨.inr (Nat.le_trans s (((h.vss j f).2 q x).2 i b)),(((h.vss j f).1 q x).off i b).2.lt⟩⟩
 ·obtain⟨cur,z⟩:=aO h.row b
  exact lt_of_block z
 ·rcases (h.pvs j f).2.2 with e|e
  ·exact .inl (h0 i (e▸b))
  ·exact .inr (Nat.le_trans s (e i b))
theorem cK.keepZ{b:Nat}{pv0:Value}(h:cK w0 w B M pv0 n t k sv pvs vss)(z:NW a b N k sv pvs vss)(x:aA T w w')(F:∀i,T i->(a≤i/\i<b)\/N≤i):cK w0 w' B M pv0 n t k sv pvs vss:=by
 have no:∀i,(i<a\/b≤i)/\i<N->¬T i:=fun i h e=>by rcases F i e with E|E<;>omega
 exact⟨x.owns h.row fun i s=>no i (z.sv i s),fun j f=>⟨(h.pvs j f).1.keepT x fun i s=>no i (z.pvs j f i s),(h.pvs j f).2⟩,fun j f=>⟨fun q C=>((h.vss j f).1 q C).keepT x fun i s=>no i (z.vss j f q C i s),(h.vss j f).2⟩⟩
theorem cK.toB{pv0:Value}(h:cK w0 w B M pv0 n t k sv pvs vss)(f:aA B w w')(s:∀i,B' i->B i\/w.heap.size≤i)(z:∀i,sv.ownBlock=some i->¬B i):cK w0 w' B' M pv0 n t k sv pvs vss:=
 ⟨f.owns h.row z,fun j b=>⟨(h.pvs j b).1.keep f s,(h.pvs j b).2⟩,fun j b=>⟨fun q x=>((h.vss j b).1 q x).keep f s,(h.vss j b).2⟩⟩
theorem bC.grow(h:bC W0 B0 v p)(k:aA (fun i=>B0 i\/T i) W0 W)(f:∀i,v.ownBlock=some i->¬T i)(j:∀i,B' i->B0 i\/W0.heap.size≤i):bC W B' v p:=
 ⟨h.pt.keep k fun i b e=>e.elim (h.off i b).1 (f i b),fun i b=>⟨fun e=>(j i e).elim (h.off i b).1 fun e=>by have:=(h.off i b).2.lt;omega,(h.off i b).2.keep k fun e=>e.elim (h.off i b).1 (f i b)⟩⟩
theorem Fp{pv0:Value}(h:cK w0 w B M pv0 n t k sv pvs vss){x:Nat}(b:x<k):(eW n t x (pvs x) (vss x)).length=177:=by
 unfold eW;rw[List.length_append,List.length_append,aJ (h.pvs x b).1.pt.sum,eE _ _ (h.vss x b).1.nv];rfl
theorem JA{pv0:Value}(h:cK w0 w B M pv0 n t k sv pvs vss)(hk:0<k):∃g b cur,sv=.slice (some ⟨g,0,none⟩) k b/\k≤b/\w.heap[g]?=some (.cells cur 166 (0,0))/\∀x,x<k->w.rangeAt g (x*177) (eW n t x (pvs x) (vss x)):=by
 rcases h.row.2 with⟨-,h0⟩|⟨g,b,cur,s,F,E,z,V,X,Y⟩
 ·omega
 ·refine⟨g,b,cur,s,z,E,fun x I j v G=>?_⟩
  obtain⟨H,K,R,f,-,-,-,C⟩:=Rd.of_owns h.row;rw[s] at f;cases f
  obtain⟨U,o',f,i⟩:=C (by rw[H];omega);cases f
  have:=i (x*177+j) v (gA (c:=fun j=>eW n t j (pvs j) (vss j)) (n:=177) (fun y J=>Fp h (List.mem_range.1 J)) (iO I) G)
  rwa [Nat.zero_add] at this
theorem JB(b:dK w vs ps)(lv:Int)(i:k<4):∃P R,cH lv vs ps=P++(aE (vs k) (ps k)++R)/\P.length=1+k*35/\∀v p,cH lv (gY vs k v) (gY ps k p)=P++(aE v p++R):=by
 have f:=aJ (v:=vs 0) (b 0 (by omega)).sum;have h:=aJ (v:=vs 1) (b 1 (by omega)).sum;have l2:=aJ (v:=vs 2) (b 2 (by omega)).sum;rcases k with _|_|_|_|k
 ·exact⟨[.int .i64 lv],aE (vs 1) (ps 1)++(aE (vs 2) (ps 2)++aE (vs 3) (ps 3)),rfl,rfl,fun _ _=>rfl⟩
 ·exact⟨.int .i64 lv::aE (vs 0) (ps 0),aE (vs 2) (ps 2)++aE (vs 3) (ps 3),rfl,by rw[List.length_cons,f],fun _ _=>rfl⟩
 ·refine⟨.int .i64 lv::(aE (vs 0) (ps 0)++aE (vs 1) (ps 1)),aE (vs 3) (ps 3),?_,by rw[List.length_cons,List.length_append,f,h],fun v p=>?_⟩
  ·show Value.int .i64 lv::(aE (vs 0) (ps 0)++(aE (vs 1) (ps 1)++(aE (vs 2) (ps 2)++aE (vs 3) (ps 3))))=_
   rw[List.cons_append,List.append_assoc]
  ·show Value.int .i64 lv::(aE (vs 0) (ps 0)++(aE (vs 1) (ps 1)++(aE v p++aE (vs 3) (ps 3))))=_
   rw[List.cons_append,List.append_assoc]
 ·refine⟨.int .i64 lv::(aE (vs 0) (ps 0)++(aE (vs 1) (ps 1)++aE (vs 2) (ps 2))),[],?_,by rw[List.length_cons,List.length_append,List.length_append,f,h,l2],fun v p=>?_⟩
  ·show Value.int .i64 lv::(aE (vs 0) (ps 0)++(aE (vs 1) (ps 1)++(aE (vs 2) (ps 2)++aE (vs 3) (ps 3))))=_
   rw[List.cons_append,List.append_assoc,List.append_assoc,List.append_nil]
  ·show Value.int .i64 lv::(aE (vs 0) (ps 0)++(aE (vs 1) (ps 1)++(aE (vs 2) (ps 2)++aE v p)))=_
   rw[List.cons_append,List.append_assoc,List.append_assoc,List.append_nil]
 ·omega
theorem wV{b o:Nat}{P R:List Value}{t:TypeId}{i:Nat×Nat}(s:w.heap[b]?=some (.cells (P++(A++R)).toArray t i))(h:P.length=o):w.rangeAt b o A:=fun j v f=>by
 refine aC s ?_;rw[List.getElem?_toArray,List.getElem?_append_right (by omega),show o+j-P.length=j by omega,List.getElem?_append_left (List.getElem?_eq_some_iff.1 f).1];exact f
theorem M0{lv:Int}{b:Nat}{t:TypeId}(j:A.length=35)(x:dK w vs ps)(s:q<4)(f:W.heap[b]?=some (.cells (A++(cH lv vs ps++[dv])).toArray t (0,0))):W.rangeAt b (36+q*35) (aE (vs q) (ps q)):=by
 obtain⟨P,R,h,i,-⟩:=JB x lv s;rw[h,List.append_assoc,List.append_assoc,←List.append_assoc A] at f;exact wV f (by rw[List.length_append,j,i];omega)
theorem Lr{N:List Value}{b:Nat}{t:TypeId}(f:A.length=35)(h:W.heap[b]?=some (.cells (A++(N++[dv])).toArray t (0,0))):W.rangeAt b 35 N:=wV h f
theorem Fq{N:List Value}{b:Nat}{t:TypeId}(h:A.length=35)(i:N.length=141)(f:W.heap[b]?=some (.cells (A++(N++[dv])).toArray t (0,0))):W.cell? ⟨b,176,none⟩=some dv:=by
 refine aC f ?_;rw[List.getElem?_toArray,List.getElem?_append_right (by omega),List.getElem?_append_right (by omega),show 176-A.length-N.length=0 by omega];rfl
theorem M4{lv:Int}(x:A.length=35)(f:dK w vs ps)(b:q<4)(z:p.sum.length=32):spl (A++(cH lv vs ps++[dv])).toArray (36+q*35) (aE v p)=(A++(cH lv (gY vs q v) (gY ps q p)++[dv])).toArray:=by
 obtain⟨P,R,i,j,s⟩:=JB f lv b;have C:=aJ (v:=vs q) (f q b).sum;have l2:=aJ (v:=v) z;have h:=lI (A++P) (aE (vs q) (ps q)) (aE v p) (R++[dv]) (by rw[C,l2]);rw[List.length_append,x,j,show 35+(1+q*35)=36+q*35 by omega] at h;rw[i,s,List.append_assoc,List.append_assoc,List.append_assoc,List.append_assoc,←List.append_assoc A,←List.append_assoc A,h]
theorem Loc.round{J:World}{K R:Nat}{c4 U c8 V C c12 E F:Array Value}{t4 t5 t8 t9 j s:TypeId}
 (h:Loc B B0 w W0 [(b12,c12,s),(b10,C,j),(b9,V,t9),(b8,c8,t8),(R,U,t5),(K,c4,t4)]) (h12:J.heap[b12]?=some (.cells F s (0,0))) (X:J.heap[b10]?=some (.cells E j (0,0)))
 (Y:∀i,B' i->B0 i\/W0.heap.size≤i) (hB0:∀i,B0 i->B i\/w.heap.size≤i) (I:aA (fun i=>B0 i\/i=b10\/i=b12) W0 J) :
 Loc B B' w J [(b12,F,s),(b10,E,j),(b9,V,t9),(b8,c8,t8),(R,U,t5),(K,c4,t4)]:=by
 have H:=h.ge _ (List.mem_of_getElem? (i:=0) rfl);have G:=h.ge _ (List.mem_of_getElem? (i:=1) rfl);refine⟨h.keep.trans' I (fun _ _ h=>h) fun i hi e=>?_,fun x f=>?_,h.nd,fun x f=>?_,fun x f e=>?_⟩
 ·rcases e with e|e|e
  ·exact(hB0 i e).elim id fun e=>absurd hi (by omega)
  ·subst e;exact absurd hi (by have:=G;dsimp only at this;omega)
  ·subst e;exact absurd hi (by have:=H;dsimp only at this;omega)
 ·simp only[List.mem_cons,List.not_mem_nil,or_false] at f
  rcases f with rfl|rfl|rfl|rfl|rfl|rfl
  ·exact H
  ·exact G
  ·exact h.ge _ (List.mem_of_getElem? (i:=2) rfl)
  ·exact h.ge _ (List.mem_of_getElem? (i:=3) rfl)
  ·exact h.ge _ (List.mem_of_getElem? (i:=4) rfl)
  ·exact h.ge _ (List.mem_of_getElem? (i:=5) rfl)
 ·simp only[List.mem_cons,List.not_mem_nil,or_false] at f
  rcases f with rfl|rfl|rfl|rfl|rfl|rfl
  ·exact h12
  ·exact X
  ·exact I.blk (h.b 2) fun z=>z.elim ((h.aq 2)) fun e=>e.elim (fun e=>bJ (i:=1) h.nd rfl 2 (by decide) rfl e) fun e=>bJ (i:=0) h.nd rfl 2 (by decide) rfl e
  ·exact I.blk (h.b 3) fun z=>z.elim ((h.aq 3)) fun e=>e.elim (fun e=>bJ (i:=1) h.nd rfl 3 (by decide) rfl e) fun e=>bJ (i:=0) h.nd rfl 3 (by decide) rfl e
  ·exact I.blk (h.b 4) fun z=>z.elim ((h.aq 4)) fun e=>e.elim (fun e=>bJ (i:=1) h.nd rfl 4 (by decide) rfl e) fun e=>bJ (i:=0) h.nd rfl 4 (by decide) rfl e
  ·exact I.blk (h.b 5) fun z=>z.elim ((h.aq 5)) fun e=>e.elim (fun e=>bJ (i:=1) h.nd rfl 5 (by decide) rfl e) fun e=>bJ (i:=0) h.nd rfl 5 (by decide) rfl e
 ·have ap:∀(i:Nat) (x:Nat×Array Value×TypeId),([(b12,c12,s),(b10,C,j),(b9,V,t9),(b8,c8,t8),(R,U,t5),(K,c4,t4)]:List (Nat×Array Value×TypeId))[i]?=some x->¬B' x.1:=fun i x f e =>
   (Y _ e).elim (h.ap _ (List.mem_of_getElem? f)) fun e2=>by have:=lt_of_block (h.b i (b:=x.1) (cs:=x.2.1) (t:=x.2.2) f);omega
  simp only[List.mem_cons,List.not_mem_nil,or_false] at f;rcases f with rfl|rfl|rfl|rfl|rfl|rfl
  ·exact ap 0 _ rfl e
  ·exact ap 1 _ rfl e
  ·exact ap 2 _ rfl e
  ·exact ap 3 _ rfl e
  ·exact ap 4 _ rfl e
  ·exact ap 5 _ rfl e
theorem cI.keepT(h:cI w B vs ps)(k:aA T w w')(f:∀q,q<4->∀i,(vs q).ownBlock=some i->¬T i):cI w' B vs ps:=fun q b=>(h q b).keepT k (f q b)
theorem cI.upd{k:Nat->Tr}(h:cI w B vs (fun i=>(k i).ptr))(f:bC w B v u.ptr):cI w B (gY vs d v) (fun i=>(fC k d u i).ptr):=fun q b=>by
 show bC w B (gY vs d v q) (fC k d u q).ptr
 by_cases e:q=d
 ·subst e;rw[rS,iH];exact f
 ·rw[rT _ _ e,iI _ _ e];exact h q b
theorem Cl.onT(h:Cl w w1 B B')(k:aA T w1 w2)(f:∀i,B' i->¬T i):Cl w w2 B B':=fun i b=>(h i b).imp (fun c=>c.keep k (f i b)) id
theorem cN.upon{wd W:World}{U:Nat->Prop}{z:Value}{T:Kor}
 (G:e=.returned (.tuple #[.agg (aE v (gJ r)).toArray,.int .i64 (lE r)])) (I:bC W' B' v (gJ r)) (C:KI W' c T B') (H:v=z\/eR w v)
 (b:∀i,B0 i->B i\/w.heap.size≤i) (f:∀i,B' i->B0 i\/W0.heap.size≤i) (h0:aA aB w wd) (j:Cl wd W0 B B0) (F:∀i,B' i->IsC W' i\/i<W0.heap.size/\B0 i/\¬IsC W0 i)
 (x:aA B w W0) (J:aA U W0 W') (E:∀i,U i->B0 i\/w.heap.size≤i):cN w c B z r T e W':=
 ⟨v,B',G,I,C,fun i h=>(f i h).elim (b i) fun e=>.inr (Nat.le_trans x.size e),((Cl.refl w wd B h0).trans j).trans fun i h=>(F i h).imp id fun h=>h.2,H,x.trans' J (fun _ _ h=>h) fun i s h=>(E i h).elim (fun h=>(b i h).elim id fun h=>absurd s (by omega)) fun h=>absurd s (by omega)⟩
def sec(b:UInt8):List UInt8:=List.replicate 256 b
theorem jA(b:UInt8):(sec b).length=256:=List.length_replicate
theorem M5{a b:UInt8}(h:sec a=sec b):a=b:=by
 have:=congrArg (fun l=>l.getD 0 0) h
 simpa [sec] using this
def yC(t:Tr)(b:Nat->UInt8):Prop:=∀i,i<64->t.blk 3 i=sec (b i)
theorem yC.hole:yC .hole fun _=>0:=fun i _=>Tr.blk_hole 3 i
theorem Fs(x:S.Bd)(z:Tr.Ok S 3 t)(H:n<64){b:List UInt8}(G:b.length=256){T:Kor}(h:tB S t n b=(r,T)) :
 Beh S T/\∀u,r=some u->Tr.Ok T 3 u/\∀i,i<64->u.blk 3 i=if i=n then b else t.blk 3 i:=by
 unfold tB at h
 by_cases c:t.blk 3 n=b
 ·rw[if_pos c] at h
  injection h with f j
  subst f j;refine⟨Beh.refl x,fun u s=>?_⟩;cases s
  refine⟨z,fun i _=>?_⟩
  by_cases e:i=n
  ·rw[if_pos e,e];exact c
  ·rw[if_neg e]
 ·rw[if_neg c] at h
  obtain⟨f,j⟩:=pC G n (Nat.le_refl 3) x z h;refine⟨f,fun u s=>?_⟩;obtain⟨C,E,-⟩:=j u s;refine⟨C,fun i F=>?_⟩;rw[E,show (4:Nat) ^ 3=64 from rfl,Nat.mod_eq_of_lt F,Nat.mod_eq_of_lt H]
theorem zW{b:List UInt8}(h:S.room (N+4))(i:b≠zB)(f:t.blk 3 n≠b):∃u T,tB S t n b=(some u,T)/\T.room N/\u.isHole=false:=by
 unfold tB;rw[if_neg f];exact Br i n 3 t h
theorem yC.set{f:Nat->UInt8}(h:yC t f){b:UInt8}(s:∀i,i<64->u.blk 3 i=if i=n then sec b else t.blk 3 i):yC u fun i=>if i=n then b else f i:=fun i j=>by
 rw[s i j];show _=sec (if i=n then b else f i)
 by_cases e:i=n
 ·rw[if_pos e,if_pos e]
 ·rw[if_neg e,if_neg e,h i j]
theorem JC(f:Nat->Value)(d n c s l:Int):Tryz.prog.built 192 [(0,.agg ((List.range 32).map f).toArray),(1,.int .i64 d),(2,.int .i64 n),(3,.int .i64 c),(4,.int .i64 s),(5,.int .i64 l)]=some ((List.range 32).map f++([.int .i64 d,.int .i64 n,.int .i64 c,.int .i64 s,.int .i64 l]:List Value)).toArray:=by kernel_rfl
theorem JD(L:Lab)(h:L.pool.length=32)(w:World):(Instr.build 192 #[(0,.agg (L.pool.map vb).toArray),(1,.int .i64 L.dev),(2,.int .i64 L.devs),(3,.int .i64 L.copies),(4,.int .i64 L.sectors),(5,.int .i64 L.life)]).run Tryz.prog w=.ok (.agg L.cells.toArray) w:=by
 refine run_build w 192 _ _ ?_;unfold Lab.cells Lab.nums;rw[AM (L.pool.map vb) (by rw[List.length_map,h])];exact JC _ _ _ _ _ _
def iC(b:List UInt8)(Mm:Nat->Nat->List UInt8)(d:Nat):Nat->Nat->Nat->List UInt8
 | 0=>Mm
 | k+1=>fV (iC b Mm d k) d k (if k=0 then b else zB)
theorem JE(b:List UInt8)(Mm:Nat->Nat->List UInt8)(d:Nat):fV Mm d 0 b=iC b Mm d 1:=rfl
theorem GX(b:List UInt8)(Mm:Nat->Nat->List UInt8)(d:Nat)(f:0<k):fV (iC b Mm d k) d k zB=iC b Mm d (k+1):=by
 show _=fV (iC b Mm d k) d k (if k=0 then b else zB);rw[if_neg (by omega)]
theorem zX(b:List UInt8)(Mm:Nat->Nat->List UInt8)(d:Nat):∀k,0<k->iC b Mm d k d 0=b
 | 1,_=>by show fV Mm d 0 b d 0=b;unfold fV;rw[if_pos ⟨rfl,rfl⟩]
 | k+2,_=>by
   show fV (iC b Mm d (k+1)) d (k+1) _ d 0=b;unfold fV;rw[if_neg (by omega)];exact zX b Mm d (k+1) (by omega)
theorem wW(b:List UInt8)(Mm:Nat->Nat->List UInt8)(d:Nat){e s:Nat}(h:e≠d):∀k,iC b Mm d k e s=Mm e s
 | 0=>rfl
 | k+1=>by
   show fV (iC b Mm d k) d k _ e s=_;unfold fV;rw[if_neg (by omega)];exact wW b Mm d h k
def DN(w:World)(a:Nat)(B:Nat->Prop)(D Z:Nat)(Mm:Nat->Nat->List UInt8)(nw d:Nat)(b:List UInt8)(k:Nat)(w':World):Prop:=
 ∃B',bR w' a B' D Z (iC b Mm d k) (nw+k)/\(∀i,B' i->B i\/w.heap.size≤i)/\aA B w w'
theorem DN.next{b f:List UInt8}(s:∀i,B' i->B i\/w.heap.size≤i)(z:aA B w w1)(h:jP w1 a B' D Z (iC b Mm d k) (nw+k) d k f e w2)(G:fV (iC b Mm d k) d k f=iC b Mm d (k+1)):DN w a B D Z Mm nw d b (k+1) w2:=by
 obtain⟨-,C,j,E,F⟩:=h;rw[G] at j;refine⟨C,j,fun i x=>?_,z.trans' F (fun _ _ h=>h) fun i x e=>?_⟩
 ·rcases E i x with h|h
  ·exact s i h
  ·exact .inr (Nat.le_trans z.size h)
 ·rcases s i e with h|h
  ·exact h
  ·omega
def DO(w:World)(a:Nat)(B:Nat->Prop)(D Z:Nat)(Mm:Nat->Nat->List UInt8)(nw d:Nat)(b:List UInt8)(e:Ending)(w':World):Prop:=
 e=.returned (.int .i64 0)/\∃B' f,bR w' a B' D Z (iC b Mm d 5) f/\f≤nw+5/\(∀k,B' k->B k\/w.heap.size≤k)/\aA B w w'
theorem Lt{t:Lst}(h:bA w c a m pid cp lv gv t)(ha:bR w a B D Z Mm nw)(hd:d<D)(hcB:¬B c)(htB:∀i,B i->¬t.Own i)(hcp:1≤cp/\cp≤3/\cp≤D)(hn:nw<1000000):Calls Tryz.prog 83 #[.pointer c,.int .i64 (d:Int),.int .i64 0] w (DO w a B D Z Mm nw d (eC (dJ pid d D cp Z))):=by
 have hbd:=ha.bd;have HM:Hid ((dJ pid d D cp Z).may=true):=O (sX hd hbd hcp.1 hcp.2.1 hcp.2.2);have HPID:=O h.idl;have hpl:(pid.map vb).length=32:=by rw[List.length_map];exact h.idl
 have HBL:=O (fun w=>JD (dJ pid d D cp Z) h.idl w);have HPL:=O (vE (dJ pid d D cp Z) h.idl HM.out);obtain⟨b,hbe⟩:∃b,eC (dJ pid d D cp Z)=b:=⟨_,rfl⟩
 obtain⟨lc,hlc⟩:∃l,(dJ pid d D cp Z).cells=l:=⟨_,rfl⟩
 have HLC:=O hlc;have HBE:=O hbe;rw[hbe] at HPL ⊢;rw[hlc] at HBL;have V:=O h;have I:=O ha;have HD:=O hd;have HCB:=O hcB;have HTB:=O htB;have HA0:=I;have HC0:=V;have f:=lN w;have hZ5:8≤Z:=hbd.2.2.1;clear h ha hbe hlc hbd hcB htB;go_in;go_wp2_with fail;refine dwA aB (by kernel_rfl) ?_;intro w1 S G X z hkd;replace f:=kL f hkd;replace V:=O (V.keep0 hkd);replace I:=O (I.keep0 hkd);clear hkd;have HLs:=f;have R:=V;have HAs:=I;refine tna 0 (.pointer c) rfl z ?_;refine tnb 1 (.pointer c) rfl z ?_;refine tnb 2 (.pointer (some ⟨c,2,none⟩)) rfl z ?_;refine tnd 3 (.agg (pid.map vb).toArray) rfl (yieldsIf_load_mid (by rfl) 25 (.tmp 14) rfl c 2 rfl (pid.map vb) _ (fun w' h=>(G.out w' h).rangeAt (bA.id_ R.out)) Tryz.underlying25 rfl (by rw[hpl];exact uU)) z ?_;refine tna 4 (.int .i64 (d:Int)) rfl z ?_;refine tna 5 (.pointer c) rfl z ?_;refine tnb 6 (.pointer c) rfl z ?_;refine tnb 7 (.pointer c) rfl z ?_;refine tnd 8 (.pointer a) rfl (.inl ⟨by rfl,fun w' U=>by have c:World.cell? w' ⟨c,0,none⟩=some (.pointer a):=(G.out w' U).cell (bA.c0 R.out) id;go_simp⟩) z ?_;refine tna 10 (.pointer c) rfl z ?_;refine tnb 11 (.pointer c) rfl z ?_;refine tnb 12 (.pointer (some ⟨c,34,none⟩)) rfl z ?_;refine tnd 13 (.int .i64 (cp:Int)) rfl (.inl ⟨by rfl,fun w' U=>by have c:World.cell? w' ⟨c,34,none⟩=some (.int .i64 (cp:Int)):=(G.out w' U).cell (bA.cp_ R.out) id;go_simp⟩) z ?_;refine tna 14 (.pointer c) rfl z ?_;refine tnb 15 (.pointer c) rfl z ?_;refine tnb 16 (.pointer c) rfl z ?_;refine tnd 17 (.pointer a) rfl (.inl ⟨by rfl,fun w' U=>by have c:World.cell? w' ⟨c,0,none⟩=some (.pointer a):=(G.out w' U).cell (bA.c0 R.out) id;go_simp⟩) z ?_;refine tna 19 (.int .i64 0) rfl z ?_;refine wA9 9 ?_;go_wp2_with fail;refine(kQ I.out).mono ?_;rintro e w2 ⟨rfl,x⟩;have hS1:=X.out _ ((G.out _ z).trans x);replace f:=kL f x;replace V:=O (V.keep0 x);replace I:=O (I.keep0 x);clear z x;go_wp2_with fail;refine⟨hS1,?_⟩;refine wA9 18 ?_;go_wp2_with fail;refine(uZ I.out).mono ?_;rintro e w3 ⟨rfl,x⟩;have Y:=X.out _ ((G.out _ hS1).trans x);replace f:=kL f x;replace V:=O (V.keep0 x);replace I:=O (I.keep0 x);clear hS1 x;go_wp2_with fail;refine⟨Y,?_⟩;refine tnd 20 (.agg lc.toArray) rfl (fH 192 #[(0,.tmp 15),(1,.tmp 16),(2,.tmp 21),(3,.tmp 25),(4,.tmp 30),(5,.tmp 31)] [(0,.agg (pid.map vb).toArray),(1,.int .i64 (d:Int)),(2,.int .i64 (D:Int)),(3,.int .i64 (cp:Int)),(4,.int .i64 (Z:Int)),(5,.int .i64 0)] (.agg lc.toArray) HBL.out) Y ?_;refine wA9 21 ?_;go_wp2_with fail;have HS33:=O f.keep.size;refine((by rw[←HLC.out];exact DB (dJ pid d D cp Z) HPID.out w3:Calls _ _ _ w3 (DA w3 (dJ pid d D cp Z)))).mono ?_;rintro e w4 ⟨v1,rfl,ho,x⟩;rw[HM.out,if_pos rfl];rw[HBE.out,HPL.out] at ho;obtain⟨la,K,rfl,-,-⟩:=(Rd.of_owns ho).form;have HO:=O ho;clear ho;have H:=X.out _ ((G.out _ Y).trans x);replace f:=kL f x;replace V:=O (V.keep0 x);replace I:=O (I.keep0 x);clear Y x;go_wp2_with fail;refine⟨H,?_⟩;refine tna 22 (.tuple #[.slice la 256 K,.int .i64 0]) rfl H ?_;refine tnb 23 (.slice la 256 K) rfl H ?_;refine tnb 24 (.int .i64 0) rfl H ?_;refine tna 25 (.slice la 256 K) rfl H ?_;refine tna 26 (.int .i64 0) rfl H ?_;refine wpAnyH_done (by kernel_rfl) ?_ _;clear H G X HLs R HAs;go_wp2_with fail;have HSZ:=O f.keep;have HOB:Hid (∀i,(Value.slice la 256 K).ownBlock=some i->¬B i):=O (fun i hi e=>by have h1:=aU HO.out hi;have h2:=HA0.lt e;have h3:=HS33.out;omega);clear f
 go_loopw [7,39] (fun u i wr=>∃k:Nat,k≤5/\i=.int .i64 k/\(∃ua un uc,u=.slice ua un uc/\((k=0/\la=ua/\256=un/\K=uc)\/0<k))/\Hid (DN w a B D Z Mm nw d b k wr)/\Hid (k=0->aA aB w4 wr)) (fun _ i _=>5-(intOf i).toNat)
 case atStart=>exact⟨0,by omega,rfl,⟨_,_,_,rfl,.inl ⟨rfl,rfl,rfl,rfl⟩⟩,O ⟨B,I.out,fun i h=>.inl h,HSZ.any⟩,O fun _=>aA.refl _ _⟩
 case round =>
  obtain⟨k,x,rfl,⟨ua,un,uc,rfl,hu⟩,HI,HK0⟩:=hrel;obtain⟨B2,ha2,hB2,hkw⟩:=HI.out;have j:=O ha2;have C:=O hB2;have E:=O hkw;have F:=O (HC0.keep hkw HCB.out HTB.out);have J:=O (fun i (e:B2 i)=>ha2.lt e);clear ha2 hB2 hkw HI
  by_cases hk8:k<5
  ·have hk0:(0:Int)≤(k:Int):=by omega
   have hk1:(k:Int)<5:=by omega
   have f:=lN wr;rcases hu with⟨rfl,rfl,rfl,rfl⟩|hz0
   ·clear j C E J
    have j:=O (I.keep0 (HK0.out rfl));have C:Hid (∀i,B i->B i\/w.heap.size≤i):=O (fun i h=>.inl h);have E:Hid (aA B w wr):=O (HSZ.trans (HK0.out rfl)).any;have J:=O (fun i (e:B i)=>j.lt e);have HO2:=O ((HK0.out rfl).owns HO.out fun _ _=>id);have c1:wr.cell? ⟨c,0,none⟩=some (.pointer a):=(bA.c0 F.out)
    go_wp2_with fail;clear c1;refine(oW (s:=0) j.out HD.out (by omega) b HPL.out (.slice la 256 K) (Rd.of_owns HO2.out) HOB.out (by omega)).mono ?_;rintro e w5 hm;have HE:=O (DN.next C.out (E.trans f.keep.any) hm (JE b Mm d));obtain⟨rfl,-⟩:=hm;clear f F j C E J;go_wp2
    go_roundw
    case rel=>exact⟨0+1,by omega,by go_num,⟨_,_,_,rfl,.inr (by omega)⟩,HE,O fun h=>by omega⟩
    case measure=>simp[intOf]
   ·have hz1:(0:Int)<(k:Int):=by omega
    go_wp2_with ((with_reducible show WL _ _);refine mkz (.const (.int .i64 256)) (.const (.int .i64 256)) ?_)
    intro b44 w5 hbs x hb;replace f:=lW f hbs x hb;replace F:=O (F.keep0 x);replace j:=O (j.keep0 x);clear hbs x hb;have c1:w5.cell? ⟨c,0,none⟩=some (.pointer a):=(bA.c0 F.out)
    go_wp2_with fail;clear c1;refine(oW (s:=k) j.out HD.out (by omega) zB rfl (.slice b44 256 256) (Rd.of_owns (mS (base:=0) (f.b 0) rfl (Nat.zero_le _))) (fun i hi e=>by have h8:=J.out _ e;have h9:=(f.lt 0).1;have h7:i=b44:=(by cases hi;rfl);omega) (by omega)).mono ?_;rintro e w6 hm;have HE:=O (DN.next C.out (E.trans f.keep.any) hm (GX b Mm d hz0));obtain⟨rfl,-⟩:=hm;clear f F j C E J;go_wp2
    go_roundw
    case rel=>exact⟨k+1,by omega,by go_num,⟨_,_,_,rfl,.inr (by omega)⟩,HE,O fun h=>by omega⟩
    case measure=>simp[intOf];omega
  ·obtain rfl:k=5:=by omega
   clear hu;have f:=lN wr;have c1:wr.cell? ⟨c,0,none⟩=some (.pointer a):=(bA.c0 F.out)
   go_wp2_with fail;clear c1;refine(zK j.out HD.out (by omega)).mono ?_;rintro e w5 ⟨rfl,B3,nw3,ha3,hn3,hB3,hk3⟩;have HP:Hid (DO w a B D Z Mm nw d b (.returned (.int .i64 0)) w5):=O ⟨rfl,B3,nw3,ha3,hn3,fun i hi=>(hB3 i hi).elim (C.out i) (fun h=>.inr (Nat.le_trans (E.trans f.keep.any).size h)),(E.trans f.keep.any).trans' hk3 (fun _ _ h=>h) (fun i hi e=>(C.out i e).elim id fun h=>by omega)⟩;clear ha3 hn3 hB3 hk3 f F j C E J;go_wp2;go_ret;exact HP.out
theorem NX(s:2≤D/\D≤8/\8≤Z/\Z≤4096)(v:Value)(i:Rd w 2 v 0 []):Calls Tryz.prog 121 #[.int .i64 (D:Int),.int .i64 (Z:Int),v] w (fun e w'=>∃g b j,e=.returned (.tuple #[.pointer (some ⟨g,0,none⟩),.int .i64 0])/\dU w' w.heap.size g b j D Z []/\aA aB w w'):=by
 refine(GY w (D:Int) (Z:Int) v [] i).mono fun e w' h=>?_
 have f:tD (D:Int) (Z:Int) []=true:=by unfold tD;simp;omega
 unfold pE at h;rw[if_pos f] at h;exact h
def GZ(w:World)(D Z:Nat)(e:Ending)(w':World):Prop:=∃g b f,e=.returned (.tuple #[.pointer (some ⟨g,0,none⟩),.int .i64 0])/\dU w' w.heap.size g b f D Z []/\aA aB w w'
def BG(w:World)(c a m:Nat)(pid:List UInt8)(cp:Nat)(lv:Value)(D Z:Nat)(e:Ending)(w':World):Prop:=
 e=.returned (.tuple #[])/\∃g b f,bA w' c a m pid cp lv (.pointer (some ⟨g,0,none⟩)) oK/\dU w' 0 g b f D Z []/\(∀k,Own g b f D k->w.heap.size≤k)/\aA (fun k=>k=c) w w'
theorem NY(a m:Nat)(pid:List UInt8)(i:pid.length=32)(cp:Nat)(lv gv b:Value)(t:Lst):spl (eZ a m pid cp lv gv t).toArray 36 [b]=(eZ a m pid cp lv b t).toArray:=by
 have h:=lI (.pointer a::.pointer m::(pid.map vb++[.int .i64 (cp:Int),lv])) [gv] [b] (t.ov::t.vv::gX t) rfl;have f:(.pointer a::.pointer m::(pid.map vb++[.int .i64 (cp:Int),lv])).length=36:=by simp[i]
 rw[f] at h;unfold eZ
 simpa [List.append_assoc] using h
theorem NZ(a m:Nat)(pid:List UInt8)(i:pid.length=32)(cp:Nat)(lv b gv:Value)(t:Lst):spl (eZ a m pid cp lv gv t).toArray 35 [b]=(eZ a m pid cp b gv t).toArray:=by
 have h:=lI (.pointer a::.pointer m::(pid.map vb++[.int .i64 (cp:Int)])) [lv] [b] (gv::t.ov::t.vv::gX t) rfl;have f:(.pointer a::.pointer m::(pid.map vb++[.int .i64 (cp:Int)])).length=35:=by simp[i]
 rw[f] at h;unfold eZ
 simpa [List.append_assoc] using h
def kO(w:World)(c a m:Nat)(pid:List UInt8)(cp:Nat)(lv:Value):Prop:=∃gv,bA w c a m pid cp lv gv oK
theorem kO.keep0(h:kO w c a m pid cp lv)(k:aA aB w w'):kO w' c a m pid cp lv:=h.imp fun _ h=>h.keep0 k
theorem kO.c0(h:kO w c a m pid cp lv):w.cell? ⟨c,0,none⟩=some (.pointer a):=h.elim fun _ h=>h.c0
theorem kO.old_(h:kO w c a m pid cp lv):w.cell? ⟨c,37,none⟩=some (.slice none 0 0):=h.elim fun _ h=>h.old_
theorem kO.live_(h:kO w c a m pid cp lv):w.cell? ⟨c,38,none⟩=some (.slice none 0 0):=h.elim fun _ h=>h.live_
theorem dU.low{lo b i:Nat}{j:Nat->Option Nat}{L:List Ad}(h:dU w lo g i j D Z L)(f:b≤lo):dU w b g i j D Z L:=⟨h.top,h.words,h.chans,h.inj,h.bd,Nat.le_trans f h.lo.1,Nat.le_trans f h.lo.2.1,fun d k s x=>Nat.le_trans f (h.lo.2.2 d k s x)⟩
theorem JG(h:bA w c a m pid cp lv gv oK)(ha:bR w a B D Z Mm nw)(hcB:¬B c):Calls Tryz.prog 84 #[.pointer c] w (BG w c a m pid cp lv D Z):=by
 have hbd:=ha.bd;have HBD:=O hbd;have H:=O h.idl;have HCLT:=O (lt_of_block h.top);have z:=O h;have F:=O ha;have G:=lN w;have HCB:Hid (∀i,i=c->¬B i):=O fun i e=>e▸hcB
 clear h ha hbd hcB;go_in;go_wp2_with fail;obtain⟨S,K⟩:∃S:World->Prop,S=fun w'=>aA (fun k=>k=c) w.drew w'/\kO w' c a m pid cp lv:=⟨_,rfl⟩
 have f:=O (show ∀w',S w'->aA (fun k=>k=c) w.drew w'/\kO w' c a m pid cp lv from fun w' h=>by rw[K] at h;exact h);have C:=O (show ∀w',aA (fun k=>k=c) w.drew w'/\kO w' c a m pid cp lv->S w' from fun w' h=>by rw[K];exact h);have j:S w.drew:=by rw[K];exact⟨aA.refl _ _,_,z.keep0 (aA.refl aB w).drew⟩
 have I:=(aA.refl aB w).drew;clear K;refine wp_region_held (S:=S) (by kernel_rfl) ?_;change wpAnyH _ _ _ _ _ _ _ _ w.drew;generalize w.drew=w1 at f C j I ⊢;replace G:=kL G I;replace z:=O (z.keep0 I);replace F:=O (F.keep0 I);clear I;have HLs:=G;have HCs:=z;have HAs:=F;refine tna 0 (.pointer c) rfl j ?_;refine tna 1 (.pointer c) rfl j ?_;refine tnb 2 (.pointer c) rfl j ?_;refine tnb 3 (.pointer c) rfl j ?_;refine tnd 4 (.pointer a) rfl (.inl ⟨by rfl,fun w' E=>by have c:World.cell? w' ⟨c,0,none⟩=some (.pointer a):=kO.c0 (f.out w' E).2;go_simp⟩) j ?_;refine tna 6 (.pointer c) rfl j ?_;refine tnb 7 (.pointer c) rfl j ?_;refine tnb 8 (.pointer c) rfl j ?_;refine tnd 9 (.pointer a) rfl (.inl ⟨by rfl,fun w' E=>by have c:World.cell? w' ⟨c,0,none⟩=some (.pointer a):=kO.c0 (f.out w' E).2;go_simp⟩) j ?_;refine tna 11 (.pointer c) rfl j ?_;refine tnb 12 (.pointer c) rfl j ?_;refine tnb 13 (.pointer (some ⟨c,37,none⟩)) rfl j ?_;refine tnd 14 (.slice none 0 0) rfl (.inl ⟨by rfl,fun w' E=>by have c:World.cell? w' ⟨c,37,none⟩=some (.slice none 0 0):=kO.old_ (f.out w' E).2;go_simp⟩) j ?_;refine tna 15 (.pointer c) rfl j ?_;refine tnb 16 (.pointer c) rfl j ?_;refine tnb 17 (.pointer (some ⟨c,38,none⟩)) rfl j ?_;refine tnd 18 (.slice none 0 0) rfl (.inl ⟨by rfl,fun w' E=>by have c:World.cell? w' ⟨c,38,none⟩=some (.slice none 0 0):=kO.live_ (f.out w' E).2;go_simp⟩) j ?_;refine wA9 5 ?_;go_wp2_with fail;refine(kQ F.out).mono ?_;rintro e w2 ⟨rfl,b⟩;have R:=C.out _ ⟨(f.out _ j).1.trans b.any,(f.out _ j).2.keep0 b⟩;replace G:=kL G b;replace z:=O (z.keep0 b);replace F:=O (F.keep0 b);clear j b;go_wp2_with fail;refine⟨R,?_⟩;refine wA9 10 ?_;go_wp2_with fail;refine(uZ F.out).mono ?_;rintro e w3 ⟨rfl,b⟩;have U:=C.out _ ⟨(f.out _ R).1.trans b.any,(f.out _ R).2.keep0 b⟩;replace G:=kL G b;replace z:=O (z.keep0 b);replace F:=O (F.keep0 b);clear R b;go_wp2_with fail;refine⟨U,?_⟩;refine wA9 19 ?_;go_wp2_with fail;refine(JF w3 (.slice none 0 0) (.slice none 0 0) [] [] (fun x Y=>by cases Y) (fun x Y=>by cases Y) (Rd.nil _ _) (Rd.nil _ _) (by decide)).mono ?_;rintro e w4 ⟨v1,rfl,ho,b⟩;have e0:(cY ([]++[]:List Ad))=[]:=List.eq_nil_iff_forall_not_mem.2 (fun x Y=>by rw[qH] at Y;cases Y);rw[e0] at ho;obtain⟨ua,uc,hv1,-,-⟩:=(Rd.of_owns ho).form;have hv2:v1=.slice ua 0 uc:=hv1;clear hv1 e0;subst hv2;have HO:=O ho;clear ho;have V:=C.out _ ⟨(f.out _ U).1.trans b.any,(f.out _ U).2.keep0 b⟩;replace G:=kL G b;replace z:=O (z.keep0 b);replace F:=O (F.keep0 b);clear U b;go_wp2_with fail;refine⟨V,?_⟩;refine wA9 20 ?_;go_wp2_with fail;have HWS:=O G.keep.size;refine((NX HBD.out _ (Rd.of_owns HO.out):Calls _ _ _ w4 (GZ w4 D Z))).mono ?_;rintro e w5 ⟨g,b2,lc,rfl,X,b⟩;have J:=O X;have HW0:=O (lt_of_block z.top);clear X;have s:=C.out _ ⟨(f.out _ V).1.trans b.any,(f.out _ V).2.keep0 b⟩;replace G:=kL G b;replace z:=O (z.keep0 b);replace F:=O (F.keep0 b);replace HO:=O (b.owns HO.out fun _ _=>id);clear V b;go_wp2_with fail;refine⟨s,?_⟩;refine tna 21 (.tuple #[.pointer g,.int .i64 0]) rfl s ?_;refine tnb 22 (.pointer g) rfl s ?_;refine tnb 23 (.int .i64 0) rfl s ?_;refine tnb 24 (.pointer c) rfl s ?_;refine tnb 25 (.pointer (some ⟨c,36,none⟩)) rfl s ?_;refine wA9 26 ?_;refine sta 43 (.tmp 27) (.tmp 24) c 36 [.pointer g] z.top (by rw[List.size_toArray,sW H.out rfl];simp) (by kernel_rfl) (one9) ?_;intro w6 b hb;rw[NY _ _ _ H.out] at hb;have hS5:S w6:=C.out _ ⟨(f.out _ s).1.trans b,_,hb,H.out,lU.zero _⟩;have HLX:Hid (∀i,i=c->¬Own g b2 lc D i):=O (by rintro i rfl e;have:=(J.own_lt e).1;have:=HCLT.out;have:=HWS.out;omega);have HP:Hid (BG w c a m pid cp lv D Z (.returned (.tuple #[])) w6):=O ⟨rfl,g,b2,lc,⟨hb,H.out,lU.zero _⟩,(J.keep b HLX.out).low (Nat.zero_le _),fun k e=>by have:=(J.own_lt e).1;have:=HWS.out;omega,G.keep.any.trans b⟩;clear s b hb;refine wpList_nil ?_;refine⟨hS5,?_⟩;refine wpAnyH_done (by kernel_rfl) ?_ _;clear hS5 f C HLs HCs HAs;clear z F G HO J;go_wp2_with fail
 go_end0
 exact HP.out
theorem mkD(w:World)(D:Nat)(h:D≤8):(Instr.makeSlice 42 (.int .i64 (D:Int)) (.int .i64 (D:Int))).run Tryz.prog w=.ok (.slice (w.heap.size) D D) (w.alloc (.cells (Array.replicate D (Value.int .i64 0)) 3)):=by
 rcases D with _|_|_|_|_|_|_|_|_|D
 ·kernel_rfl
 ·kernel_rfl
 ·kernel_rfl
 ·kernel_rfl
 ·kernel_rfl
 ·kernel_rfl
 ·kernel_rfl
 ·kernel_rfl
 ·kernel_rfl
 ·omega
theorem mkd{o:Oper}{a:Act}(x y:Operand)(D:Nat)(f:D≤8)(h:∀b w',w.heap.size=b->aA aB w w'->w'.heap[b]?=some (.cells (Array.replicate D (Value.int .i64 0)) 3 (0,0))->wpList Tryz.prog ops Q rest (a.put o.dst (.slice (some ⟨b,0,none⟩) D D)) w')(z:a.eval x=.int .i64 (D:Int):=by rfl)(hy:a.eval y=.int .i64 (D:Int):=by rfl)(j:o.guard=none:=by rfl)(s:o.op=.makeSlice 42 x y:=by rfl):wpList Tryz.prog ops Q (o::rest) a w:=by
 refine wpList_plain j fun K i=>?_
 unfold Oper.wp execOp;simp only[s,z,hy,Sem.run_bind,mkD w D f,Result.andThen_ok];exact i _ _ (h _ _ rfl ((aA.refl _ _).alloc _) (heap_alloc_new _ _))
def DP(P:Nat->List UInt8)(Mm:Nat->Nat->List UInt8):Nat->Nat->Nat->List UInt8
 | 0=>Mm
 | k+1=>iC (P k) (DP P Mm k) k 5
theorem BH(P:Nat->List UInt8)(Mm:Nat->Nat->List UInt8):∀(k d:Nat),d<k->DP P Mm k d 0=P d
 | 0,d,h=>by omega
 | k+1,d,h=>by
   show iC (P k) (DP P Mm k) k 5 d 0=P d
   by_cases e:d=k
   ·subst e;exact zX _ _ _ 5 (by decide)
   ·rw[wW _ _ _ e];exact BH P Mm k d (by omega)
def DvI(w:World)(a:Nat)(B:Nat->Prop)(D Z:Nat)(P:Nat->List UInt8)(Mm:Nat->Nat->List UInt8)(nw k:Nat)(w':World):Prop:=
 ∃B' b,bR w' a B' D Z (DP P Mm k) b/\b≤nw+5*k/\(∀i,B' i->B i\/w.heap.size≤i)/\aA B w w'
def rE(w:World)(B:Nat->Prop)(D Z cp:Nat)(e:Ending)(w':World):Prop:=
 ∃c M B',e=.returned (.tuple #[.pointer (some ⟨c,0,none⟩),.int .i64 0])/\KI w' c ⟨D,Z,cp,[],M,0⟩ B'/\(∀k,B' k->B k\/w.heap.size≤k)/\aA B w w'
theorem EM(ha:bR w a B D Z Mm nw)(pid:List UInt8)(Y:pid.length=32)(cp:Nat)(hcp:1≤cp/\cp≤3/\cp≤D)(hn:nw≤1000):Calls Tryz.prog 44 #[.pointer a,.agg (pid.map vb).toArray,.int .i64 (cp:Int)] w (rE w B D Z cp):=by
 have hbd:=ha.bd;have J:=O hbd;have hpl:(pid.map vb).length=32:=by rw[List.length_map];exact Y
 have I:=O Y;have V:=O hcp;have HLT:=O (fun i (e:B i)=>ha.lt e);have s:=O ha;have f:=lN w;have hD0:¬((D:Int)=0):=by omega
 have hc0:¬((cp:Int)<1):=by omega
 have hc3:¬((3:Int)<(cp:Int)):=by omega
 have hcD:¬((D:Int)<(cp:Int)):=by omega
 clear ha Y;go_in
 go_wp2_with ((with_reducible show WL _ _);refine bxL f 40 (.tmp 0) (#[.pointer a]) ?_)
 intro b3 w1 b f;replace s:=O (s.keep0 b);clear b
 go_wp2_with ((with_reducible show WL _ _);refine bxL f 25 (.tmp 1) ((pid.map vb).toArray) ?_)
 intro b4 w2 b f;replace s:=O (s.keep0 b);clear b;have c1:w2.cell? ⟨b3,0,none⟩=some (.pointer a):=(aC (i:=0) (f.b 1) rfl)
 go_wp2_with fail;clear c1;refine(kQ s.out).mono ?_;rintro e w3 ⟨rfl,b⟩;replace f:=kL f b;replace s:=O (s.keep0 b);clear b;have c1:w3.cell? ⟨b3,0,none⟩=some (.pointer a):=(aC (i:=0) (f.b 1) rfl)
 go_wp2_with fail;clear c1;refine(kQ s.out).mono ?_;rintro e w4 ⟨rfl,b⟩;replace f:=kL f b;replace s:=O (s.keep0 b);clear b;have c1:w4.cell? ⟨b3,0,none⟩=some (.pointer a):=(aC (i:=0) (f.b 1) rfl)
 go_wp2_with fail;clear c1;refine(Bw s.out).mono ?_;rintro e w5 ⟨rfl,b⟩;replace f:=kL f b;replace s:=O (s.keep0 b);clear b;have c1:w5.cell? ⟨b3,0,none⟩=some (.pointer a):=(aC (i:=0) (f.b 1) rfl)
 go_wp2_with ((with_reducible show WL _ _);refine wpList_load_mid rfl 25 (.tmp 4) rfl b4 0 rfl (pid.map vb) _ (aD (f.b 0)) Tryz.underlying25 rfl (by rw[hpl];exact uU) ?_)
 clear c1;have HSZ:=O f.keep.size;refine(Lg s.out pid I.out cp).mono ?_;rintro e w6 ⟨c,m,rfl,hc,hm,hcg,hmg,hmc,b⟩;have HC:=O hc;have HM:=O hm;have G:=O (And.intro (Nat.le_trans HSZ.out hcg) (Nat.le_trans HSZ.out hmg));have HMC:=O hmc;clear hc hm hcg hmg hmc;replace f:=kL f b;replace s:=O (s.keep0 b);clear b;go_wp2_with fail;have HS38:=O f.keep.size;refine(qP HC.out s.out).mono ?_;rintro e w7 ⟨v1,rfl,ho,b⟩;obtain⟨va,vc,rfl,-,-⟩:=(Rd.of_owns ho).form;have HO:=O ho;clear ho;replace f:=kL f b;replace s:=O (s.keep0 b);replace HC:=O (HC.keep0 b);replace HM:=O (b.blk HM.out id);clear b;go_wp2_with fail;refine(EG w7 (.slice va D vc) ((List.range D).map fun(i:Nat)=>(i:Int)) (by rw[List.length_map,List.length_range,List.map_map];exact Rd.of_owns HO.out) (by rw[List.length_map,List.length_range];omega) 81 b3 (enters_of Tryz.func81 (by kernel_rfl) rfl) (fun x hx w' k=>by obtain⟨i,hi,rfl⟩:=List.mem_map.1 hx;have hi:=List.mem_range.1 hi;exact EF (s.keep0 k) (k.blk (f.b 1) id) (i:Int) (by omega) (by omega))).mono ?_;rintro e w8 ⟨rfl,b⟩;replace f:=kL f b;replace s:=O (s.keep0 b);replace HC:=O (HC.keep0 b);replace HM:=O (b.blk HM.out id);replace HO:=O (b.owns HO.out fun _ _=>id);clear b;have HNV:Hid (∀i,(Value.slice va D vc).ownBlock=some i->w.heap.size≤i):=O (fun i hi=>by have:=aU HO.out hi;have:=HS38.out;omega);go_wp2_with fail;have K:=O (fun i (h:w.heap.size≤i) (e:B i)=>show False from by have:=HLT.out i e;omega);have HB3:=O (f.b 1);have H3G:=O (f.lt 1).1;have X:=O f.keep;have U:=O (lt_of_block HC.top);have HMLT:=O (lt_of_block HM.out);obtain⟨W0,hW0⟩:∃W0,w8=W0:=⟨_,rfl⟩
 rw[hW0] at HC HM s HO HB3 X U HMLT ⊢;clear f hW0;have hx0:=HLT
 go_loopw [46] (fun i wr=>∃k:Nat,k≤D/\i=.int .i64 k/\Hid (DvI W0 a B D Z (fun d=>eC (dJ pid d D cp Z)) Mm nw k wr)) (fun i _=>D-(intOf i).toNat)
 case atStart=>exact⟨0,by omega,rfl,O ⟨B,nw,s.out,by omega,fun i h=>.inl h,aA.refl _ _⟩⟩
 case round =>
  obtain⟨k,b,rfl,HI⟩:=hrel;obtain⟨B2,nw2,ha2,hn2,hB2,R⟩:=HI.out;have j:=O ha2;have HN2:=O hn2;have HB2:=O hB2;have H:=O R;have F:=O (HC.keep R (K.out _ G.1) (fun _ _=>pV));have E:Hid (eQ wr m a):=O (R.blk HM.out (K.out _ G.2));have HO2:=O (R.owns HO.out fun i hi=>K.out _ (HNV.out i hi));have z:=O (R.blk HB3.out (K.out _ H3G.out));have C:Hid (¬B2 c/\¬B2 m):=O ⟨fun e=>(hB2 c e).elim (K.out _ G.1) fun h=>by have:=U.out;omega,fun e=>(hB2 m e).elim (K.out _ G.2) fun h=>by have:=HMLT.out;omega⟩;clear ha2 hn2 hB2 R HI
  by_cases hk8:k<D
  ·have hk0:(0:Int)≤(k:Int):=by omega
   have hk1:(k:Int)<(D:Int):=by omega
   obtain⟨g,o,cap',hv,hat⟩:=oZ (Rd.of_owns HO2.out) (lD hk8)
   have hvc:(k:Int)<(vc:Int):=by
    obtain⟨_,a',c',h1,h2,h3,-⟩:=Rd.of_owns HO2.out;cases h1;omega
   have HV9:=O hv;obtain rfl:va=some ⟨g,o,none⟩:=by cases hv;rfl
   have HX:=O hat;clear hv hat;have c1:wr.cell? ⟨g,o+k,none⟩=some (.int .i64 (k:Int)):=HX.out;go_wp2_with fail;clear c1;refine(Lt F.out j.out hk8 C.1 (fun _ _=>pV) V.out (by have:=HN2.out;omega)).mono ?_;rintro e w5 ⟨rfl,B3,nw3,ha3,hn3,hB3,hk3⟩;have HE:Hid (DvI W0 a B D Z (fun d=>eC (dJ pid d D cp Z)) Mm nw (k+1) w5):=O ⟨B3,nw3,ha3,by have:=HN2.out;omega,fun i hi=>(hB3 i hi).elim (HB2.out i) (fun h=>.inr (Nat.le_trans H.size h)),H.trans' hk3 (fun _ _ h=>h) (fun i hi e=>(HB2.out i e).elim id fun h=>by omega)⟩;clear ha3 hn3 hB3 hk3 F E HO2 z j HB2 H HX;go_wp2
   go_roundw
   case rel=>exact⟨k+1,by omega,by go_num,HE⟩
   case measure=>simp[intOf];omega
  ·obtain rfl:D=k:=by omega
   have f:=lN wr;have HAL:=O (fun i (e:B2 i)=>j.lt e);have hD8:D≤8:=J.2.1;have c1:wr.cell? ⟨b3,0,none⟩=some (.pointer a):=(aC (i:=0) z.out rfl)
   go_wp2_with fail;clear c1;refine(kQ j.out).mono ?_;rintro e we ⟨rfl,b⟩;replace f:=kL f b;replace j:=O (j.keep0 b);replace F:=O (F.keep0 b);replace E:=O (b.blk E.out id);replace z:=O (b.blk z.out id);clear b
   go_wp2_with ((with_reducible show WL _ _);refine mkd (.tmp 59) (.tmp 59) D hD8 ?_)
   intro b60 wf hbs b hb;replace f:=lW f hbs b hb;replace j:=O (j.keep0 b);replace F:=O (F.keep0 b);replace E:=O (b.blk E.out id);replace z:=O (b.blk z.out id);clear hbs b hb;have HKA:=O f.keep;have HBL:=O (f.b 0);have HLG:=O (f.lt 0).1
   go_wp2_with ((with_reducible show WL _ _);refine sta 42 (.tmp 62) (.tmp 60) c 35 [.slice b60 D D] F.top (by rw[List.size_toArray,sW I.out rfl];simp) (by kernel_rfl) (one9) ?_)
   intro w8 b hb;rw[NZ _ _ _ I.out] at hb;have HC4:Hid (bA w8 c a m pid cp (.slice b60 D D) (.pointer none) oK):=O ⟨hb,I.out,lU.zero _⟩;have HCW:=O (And.intro U.out H.size);have HL8:=O (b.blk HBL.out (fun e=>by have:=HLG.out;have:=HCW.out;omega));replace j:=O (j.keep b (by rintro i rfl;exact C.1));replace E:Hid (eQ w8 m a):=O (b.blk E.out (fun e=>by have:=HMC.out;omega));have HK8:Hid (aA (fun i=>i=c) wr w8):=O (HKA.any.trans b);clear b hb f F z HKA HBL;go_wp2_with fail;refine(JG HC4.out j.out C.1).mono ?_;rintro e w9 ⟨rfl,g,b2,lc,hc5,hled,hlo,b⟩
   have HP:Hid (rE w B D Z cp (.returned (.tuple #[.pointer c,.int .i64 0])) w9):=by
    refine O ⟨c,DP (fun d=>eC (dJ pid d D cp Z)) Mm D,_,rfl,⟨⟨J.1,J.2.1,J.2.2.1,J.2.2.2,V.1,V.2.1,V.2.2,(by show (0:Int)≤0;decide),(by show (0:Int)<2147483648;decide)⟩,a,m,b60,g,b2,lc,pid,B2,nw2,oK,rfl,⟨⟨hc5,j.keep b (by rintro i rfl;exact C.1),b.blk E.out (fun e=>by have:=HMC.out;omega),b.blk HL8.out (fun e=>by have:=HLG.out;have:=HCW.out;omega),V.out,fun d hd=>BH _ _ _ _ hd⟩,hled,fun k e=>?_,?_,?_⟩,rfl⟩,?_,?_⟩
    ·have h1:=hlo k e
     have h2:=HK8.size;have h3:=HCW.out;have h4:=HMC.out;have h5:=lt_of_block HL8.out;refine⟨fun e2=>?_,by omega,by omega,by omega,pV⟩;have:=j.lt e2;omega
    ·exact⟨C.1,C.2,fun e=>by have:=HAL.out _ e;have:=HLG.out;omega,fun i h=>(pV h).elim⟩
    ·have h1:=In [] D Z
     have h2:D*Z≤8*4096:=Nat.mul_le_mul hD8 J.2.2.2;have:=HN2.out;show nw2+sB (cE [] D Z)≤40000+8*0;omega
    ·rintro k (rfl|rfl|rfl|e|e|e)
     ·exact .inr G.1
     ·exact .inr G.2
     ·exact .inr (by have:=HLG.out;have:=H.size;have:=X.size;omega)
     ·exact(HB2.out k e).imp id fun h=>Nat.le_trans X.size h
     ·exact .inr (by have:=hlo k e;have:=HK8.size;have:=H.size;have:=X.size;omega)
     ·exact(pV e).elim
    ·have k1:aA B w wr:=X.any.trans H.out
     have k2:aA (fun i=>i=c) wr w9:=HK8.trans b;exact k1.trans' k2 (fun _ _ h=>h) (fun i hi e=>by have:=G.1;omega)
   clear hc5 hled hlo b HC4 j E HL8;go_wp2
   go_ret2
   exact HP.out
def ofC(x:UInt8)(k:Nat):List Value:=(List.range 256).map fun i=>if i<k then vb x else .int .u8 0
theorem rW(x:UInt8)(k:Nat):(ofC x k).length=256:=by unfold ofC;simp
theorem Ly(x:UInt8):ofC x 0=dH:=by
 rw[show dH=List.replicate 256 (.int .u8 0) from rfl];refine List.eq_replicate_iff.2 ⟨rW x 0,fun v b=>?_⟩;unfold ofC at b;obtain⟨i,-,rfl⟩:=List.mem_map.1 b;exact if_neg (by omega)
theorem Lz(x:UInt8):ofC x 256=(sec x).map vb:=by
 unfold ofC sec;rw[List.map_replicate];refine List.eq_replicate_iff.2 ⟨by simp,fun v f=>?_⟩;obtain⟨i,b,rfl⟩:=List.mem_map.1 f;exact if_pos (List.mem_range.1 b)
theorem M7(x:UInt8)(k:Nat)(s:k<256):spl (ofC x k).toArray k [vb x]=(ofC x (k+1)).toArray:=by
 show (ofC x k).toArray.setIfInBounds k (vb x)=_;rw[List.setIfInBounds_toArray]
 congr 1
 refine List.ext_getElem (by rw[List.length_set,rW,rW]) fun i b f=>?_
 rw[List.getElem_set];have q:∀j h,(ofC x j)[i]'h=if i<j then vb x else .int .u8 0:=fun j h=>by simp[ofC]
 rw[q,q]
 by_cases e:k=i
 ·subst e;rw[if_pos rfl,if_pos (by omega)]
 ·rw[if_neg e]
  by_cases d:i<k
  ·rw[if_pos d,if_pos (by omega)]
  ·rw[if_neg d,if_neg (by omega)]
def M8(w:World)(x:UInt8)(e:Ending)(w':World):Prop:=∃v,e=.returned v/\w'.ownsRow w.heap.size 5 1 v 256 ((sec x).map vb)/\aA aB w w'
def DQ(w:World)(Z:Nat)(e:Ending)(w':World):Prop:=∃c M B,e=.returned (.pointer (some ⟨c,0,none⟩))/\KI w' c ⟨2,Z,2,[],M,0⟩ B/\(∀k,B k->w.heap.size≤k)/\aA aB w w'
theorem vY{base:Nat}{s:List Value}(f:w.ownsRow base 5 1 v 256 s)(h:∀i,B i->i<base):∀i,v.ownBlock=some i->¬B i/\i<w.heap.size:=fun i b =>
 ⟨fun e=>by have:=aU f b;have:=h i e;omega,by obtain⟨cur,j⟩:=aO f b;exact lt_of_block j⟩
theorem oE{a b:UInt8}(h:a≠b):sec a≠sec b:=fun e=>h (M5 e)
theorem vJ{id:Nat}{a:Act}{α β γ δ:Type}(F:α->β->γ->δ->Act)(R:α->β->γ->δ->World->Prop)(h:(Code.region id ops true).wp P (fun x a w=>x=.normal/\∃p q r s,a=F p q r s/\R p q r s w) a w)(hR:∀p q r s w,R p q r s w->Q .normal (F p q r s) w):(Code.region id ops true).wp P Q a w:=
 wp_mono h fun e a w h=>by obtain⟨rfl,p,q,r,s,rfl,b⟩:=h;exact hR p q r s w b
theorem Loc.turn2{S L f:Nat->Prop}{l:List (Nat×Array Value×TypeId)}(h:Loc S L w0 w l)(k:aA B w w')(j:∀k,B k->L k)(s:∀k,k<w0.heap.size->B k->S k)(i:∀k,k<w.heap.size->f k->L k):Loc S f w0 w' l:=
 ⟨h.keep.trans' k (fun _ _ h=>h) s,h.ge,h.nd,fun x b=>k.blk (h.at_ x b) (fun e=>h.ap x b (j _ e)),fun x b z=>h.ap x b (i _ (lt_of_block (h.at_ x b)) z)⟩
theorem bsA{o:Oper}{a:Act}(t e:TypeId)(x:Operand)(G:P.underlying t=some (.slice e)){z:Value}{size bytes:Nat}(j:(P.info? e).map (fun i=>(i.zero,i.size,i.bytes))=some (some z,size,bytes))(s:0<size)
 (vs:List Value) (C:vs.length=size) (f:size≤2 ^ 24) (h:∀b w',w.heap.size=b->aA aB w w'->w'.heap[b]?=some (.cells vs.toArray e (0,0))->wpList P ops Q rest (a.put o.dst (.slice (some ⟨b,0,none⟩) 1 1)) w')
 (H:a.eval x=.agg vs.toArray:=by rfl) (E:o.guard=none:=by rfl) (F:o.op=.buildSlice t 1 #[(0,x)]:=by rfl):wpList P ops Q (o::rest) a w:=
 bL E t e x F G j s vs C f H (h _ _ rfl ((aA.refl _ _).alloc _) (heap_alloc_new _ _))
def L6(w:World)(e:Ending)(w':World):Prop:=e=.returned (.bool true)/\aA aB w w'
theorem tE(w:World)(x:UInt8):Calls Tryz.prog 47 #[vb x] w (M8 w x):=by
 obtain⟨G,b⟩:∃v,vb x=v:=⟨_,rfl⟩
 have H:=O b;have K:G.oneCell'=true:=by rw[←b];rfl
 have R:G.cells=#[G]:=by rw[←b];rfl
 rw[b];clear b;go_in
 go_wp2_with ((with_reducible show WL _ _);refine mkz (.const (.int .i64 256)) (.const (.int .i64 256)) ?_)
 intro F w1 z J I;rw[←Ly x] at I;have j:=O z;have V:Hid (w1.heap[F]?=some (.cells (ofC x 0).toArray 5 (0,0))/\aA aB w w1):=O ⟨I,J⟩;clear I J z;go_wp2_with fail
 go_loopw [4] (fun i wr=>∃k:Nat,k≤256/\i=.int .i64 (k:Int)/\Hid (wr.heap[F]?=some (.cells (ofC x k).toArray 5 (0,0))/\aA aB w wr)) (fun i _=>256-(intOf i).toNat)
 case atStart=>exact⟨0,by omega,rfl,V⟩
 case round =>
  obtain⟨k,J,rfl,s⟩:=hrel
  by_cases E:k<256
  ·go_wp2_with ((with_reducible show WL _ _);refine sta 5 (.tmp 15) (.tmp 14) F k [G] s.1 (by rw[List.size_toArray,rW];exact E) (by kernel_rfl) (by intro v U;rw[List.mem_singleton] at U;rw[U];exact K) ?_ (hy:=R))
   intro w2 C f;rw[←H.out,M7 x k E] at f;have X:Hid (w2.heap[F]?=some (.cells (ofC x (k+1)).toArray 5 (0,0))/\aA aB w w2):=O ⟨f,s.2.trans' C (fun _ _ h=>h) (fun i Y e=>by have:=j.out;omega)⟩;clear C f s;go_wp2
   go_roundw
   case rel=>exact⟨k+1,by omega,by go_num,X⟩
   case measure=>simp[intOf];omega
  ·obtain rfl:k=256:=by omega
   go_wp2;go_ret;exact⟨_,rfl,by rw[←Lz x];exact mS s.1 (by rw[rW]) (by have:=j.out;omega),s.2⟩
theorem G4(w:World)(Z:Nat)(X:8≤Z/\Z≤4096):Calls Tryz.prog 19 #[.int .i64 (Z:Int)] w (DQ w Z):=by
 have z:=lN w;have K:=O X;have b:=Mu;have H:(eP.map vb).length=32:=by rw[List.length_map];rfl
 obtain⟨I,f⟩:∃l,eP.map vb=l:=⟨_,rfl⟩
 have G:=O f;rw[f] at b;have s:=O b;clear b f H;go_in
 go_wp2_with ((with_reducible show WL _ _);refine bld 25 #[] [] (.agg I.toArray) s.out ?_)
 refine((KR w 2 Z ⟨by omega,by omega,K.1,K.2⟩)).mono ?_;rintro e w1 ⟨a,U,rfl,j,C,E⟩;have J:=O j;have x:=O C;clear j C;replace z:=kL z E;clear E
 go_wp2_with ((with_reducible show WL _ _);refine bld 25 #[] [] (.agg I.toArray) s.out ?_)
 refine((by rw[←G.out];exact EM J.out eP rfl 2 ⟨by omega,by omega,by omega⟩ (by omega):Calls _ _ _ w1 (rE w1 U 2 Z 2))).mono ?_;rintro e w2 ⟨c,M,B,rfl,F,R,E⟩;have V:Hid (DQ w Z (.returned (.pointer c)) w2):=O ⟨c,M,B,rfl,F,fun k h=>(R k h).elim (x.out k) fun e=>by have:=z.keep.size;omega,z.keep.trans' E (fun _ _ h=>h) (fun i Y e=>by have:=x.out i e;omega)⟩;clear z J F R E
 go_wp2_with ((with_reducible show WL _ _);refine bld 25 #[] [] (.agg I.toArray) s.out ?_)
 go_ret;exact V.out
def LR(B:Nat->Prop)(rs:List (Value×Pt))(k:Nat):Prop:=B k\/∃r∈rs,r.1.ownBlock=some k
structure Cs(B0:Nat->Prop)(w0:World)(c:Nat)(S:Kor)(B:Nat->Prop)(rs:List (Value×Pt))(w:World)(l:List (Nat×Array Value×TypeId)):Prop where
 loc:Loc B0 (LR B rs) w0 w l
 ki:KI w c S B
 pv:∀r∈rs,bC w B r.1 r.2
 bb:∀i,B i->B0 i\/w0.heap.size≤i
section
variable {B0:Nat->Prop}{w0 w w':World}{c:Nat}{S T:Kor}{B B':Nat->Prop}{rs rs':List (Value×Pt)}{l:List (Nat×Array Value×TypeId)}
variable{cs cs':Array Value}{t:TypeId}{v:Value}{p:Pt}
theorem Cs.lt_(h:Cs B0 w0 c S B rs w l){k:Nat}(b:LR B rs k):k<w.heap.size:=by
 rcases b with b|⟨r,f,b⟩
 ·exact h.ki.lt b
 ·exact((h.pv r f).off k b).2.lt
theorem Cs.keep(h:Cs B0 w0 c S B rs w l):aA B0 w0 w:=h.loc.keep
theorem Cs.b(h:Cs B0 w0 c S B rs w l)(i:Nat){b:Nat}(f:l[i]?=some (b,cs,t):=by rfl):w.heap[b]?=some (.cells cs t (0,0)):=h.loc.b i f
theorem Cs.ne(h:Cs B0 w0 c S B rs w l)(i j:Nat){b s:Nat}{C:TypeId}(f:j≠i:=by decide)(x:l[i]?=some (b,cs,t):=by rfl)(z:l[j]?=some (s,cs',C):=by rfl):s≠b:=bJ h.loc.nd x j f z
theorem Cs.keeps(h:Cs B0 w0 c S B rs w l)(k:aA aB w w'):Cs B0 w0 c S B rs w' l:=⟨h.loc.keeps k,h.ki.keep0 k,fun r b=>(h.pv r b).keep0 k,h.bb⟩
theorem Cs.new(h:Cs B0 w0 c S B rs w l){b:Nat}(_:True)(f:w.heap.size=b)(k:aA aB w w')(i:w'.heap[b]?=some (.cells cs t (0,0))):Cs B0 w0 c S B rs w' ((b,cs,t)::l):=
 ⟨h.loc.new (fun _ e=>h.lt_ e) f k i,h.ki.keep0 k,fun r j=>(h.pv r j).keep0 k,h.bb⟩
theorem Cs.set(h:Cs B0 w0 c S B rs w l)(i:Nat){b:Nat}(k:aA (fun k=>k=b) w w')(z:w'.heap[b]?=some (.cells cs' t (0,0)))(s:l[i]?=some (b,cs,t):=by rfl):Cs B0 w0 c S B rs w' (l.set i (b,cs',t)):=by
 have j:=h.loc.ap _ (List.mem_of_getElem? s);exact⟨h.loc.set i k z s,h.ki.keepT k (fun i e f=>by subst e;exact j (.inl f)),fun r x=>(h.pv r x).keepT k (fun i f e=>by subst e;exact j (.inr ⟨r,x,f⟩)),h.bb⟩
theorem Cs.laid(h:Cs B0 w0 c S B rs w l)(z:bC w' B' v p)(s:KI w' c T B')(f:∀k,B' k->B k\/w.heap.size≤k)(x:eR w v)(k:aA B w w'):Cs B0 w0 c T B' ((v,p)::rs) w' l:=by
 refine⟨h.loc.turn2 k (fun _ e=>.inl e) (fun i j e=>(h.bb i e).elim id fun e=>by omega) ?_,s,?_,fun i e=>(f i e).elim (h.bb i) fun e=>.inr (Nat.le_trans h.keep.size e)⟩
 ·rintro i j (e|⟨r,b,e⟩)
  ·exact(f i e).elim .inl fun e=>by omega
  ·rcases List.mem_cons.1 b with rfl|b
   ·have:=x i e;omega
   ·exact .inr ⟨r,b,e⟩
 ·intro r b
  rcases List.mem_cons.1 b with rfl|b
  ·exact z
  ·exact(h.pv r b).keep k f
theorem Cs.pv0(h:Cs B0 w0 c S B rs w l)(i:Nat)(b:rs[i]?=some (v,p):=by rfl):bC w B v p:=h.pv _ (List.mem_of_getElem? b)
theorem Cs.fin{w2:World}(h:Cs B0 w0 c S B rs w l)(b:∀k,B0 k->w2.heap.size≤k)(k:aA aB w2 w0):aA aB w2 w:=
 k.trans' h.keep (fun _ _ h=>h.elim) (fun i f e=>by have:=b i e;omega)
end
variable{w:World}{v:Value}
theorem nmP{B:Nat->Prop}{p:Pt}(h:bC w B v p):∃c,Hid (aE v p=c)/\c.length=35/\Hid (∀u∈c,u.oneCell'=true):=⟨_,O rfl,aJ h.pt.sum,O (aT h.pt)⟩
theorem vZ(h:v=.slice none 0 0\/eR w v):eR w v:=h.elim (fun e=>by rw[e];exact eR.nil w) id
structure Ds(SP:Nat->Prop)(wd:World)(B0:Nat->Prop)(w0:World)(c:Nat)(S:Kor)(B:Nat->Prop)(rs:List (Value×Pt))(w:World)(l:List (Nat×Array Value×TypeId)):Prop extends Cs B0 w0 c S B rs w l where
 dr:aA SP wd w
section
variable {SP:Nat->Prop}{wd:World}{B0:Nat->Prop}{w0 w w':World}{c:Nat}{Sk T:Kor}{B B':Nat->Prop}{rs rs':List (Value×Pt)}{l:List (Nat×Array Value×TypeId)}{P:Program}{ops:Array Oper}{o:Oper}{a:Act}{Q:Exit->Act->World->Prop}{md:Region.Mode}{S:World->Prop}{fuel:Nat}{L:Array Bool}
variable{cs:Array Value}{t:TypeId}
theorem Ds.keeps(h:Ds SP wd B0 w0 c Sk B rs w l)(k:aA aB w w'):Ds SP wd B0 w0 c Sk B rs w' l:=⟨h.toCs.keeps k,h.dr.trans k.any⟩
theorem Ds.laid(h:Ds SP wd B0 w0 c Sk B rs w l)(b:∀i,i<wd.heap.size->B i->SP i){v:Value}{p:Pt}(x:bC w' B' v p)(j:KI w' c T B')(f:∀k,B' k->B k\/w.heap.size≤k)(s:eR w v)(k:aA B w w'):Ds SP wd B0 w0 c T B' ((v,p)::rs) w' l:=
 ⟨h.toCs.laid x j f s k,h.dr.trans' k (fun _ _ e=>e) b⟩
theorem Ds.own(h:Ds B wd B0 w0 c Sk B rs wd l)(k:aA B wd w')(i:Nat){b:Nat}(f:l[i]?=some (b,cs,t):=by rfl):w'.heap[b]?=some (.cells cs t (0,0)):=k.blk (h.b i f) fun e=>h.loc.ap _ (List.mem_of_getElem? f) (.inl e)
theorem alD(f:Hid (Ds SP wd B0 w0 c Sk B rs w l))(j:Hid (∀w',aA SP wd w'->S w'))(T:TypeId)(z:Value)(cs:Array Value)(H:Hid (∀w,(zeroValue T).run P w=.ok z w))
 (h:∀b w',wd.heap.size≤b->aA aB w w'->Hid (Ds SP wd B0 w0 c Sk B rs w' ((b,cs,T)::l))->wpAnyH P md ops Q S fuel L (a.put o.dst (.pointer (some ⟨b,0,none⟩))) w')
 (x:z.cells=cs:=by rfl) (F:o.guard=none:=by rfl) (G:o.op=.alloc T:=by rfl):wpList P ops (Exit.then (fun C w'=>S w'/\wpAnyH P md ops Q S fuel L C w') Q) [o] a w:=
 al T z cs H (fun b w' s i E=>wpList_nil ⟨j.out _ (f.dr.trans i.any),h b w' (by have:=f.dr.size;omega) i (O ⟨f.toCs.new trivial s i E,f.dr.trans i.any⟩)⟩) x F G
theorem stD(s:Hid (Ds SP wd B0 w0 c Sk B rs w l))(z:Hid (∀w',aA SP wd w'->S w'))(i:Nat){b:Nat}(G:l[i]?=some (b,cs,t))(T:TypeId)(x y:Operand)(vs:List Value)(C:wd.heap.size≤b\/SP b)
 (f:vs.length=cs.size) (U:(P.info? T).map (·.size)=some vs.length) (J:∀v∈vs,v.oneCell'=true)
 (h:∀w',Hid (Ds SP wd B0 w0 c Sk B rs w' (l.set i (b,vs.toArray,t)))->wpAnyH P md ops Q S fuel L (a.put o.dst undef) w')
 (V:a.eval x=.pointer b:=by rfl) (hy:(a.eval y).cells=vs.toArray:=by rfl) (K:o.guard=none:=by rfl) (R:o.op=.store T x y:=by rfl):wpList P ops (Exit.then (fun I w'=>S w'/\wpAnyH P md ops Q S fuel L I w') Q) [o] a w:=
 sta T x y b 0 vs (s.b i G) (by omega) U J (fun w' H E=>by
  rw[aK _ _ f] at E;have F:aA SP wd w':=s.dr.trans' H (fun _ _ h=>h) (fun j X e=>C.elim (fun h=>by omega) (fun h=>by rw[e];exact h));exact wpList_nil ⟨z.out _ F,h w' (O ⟨s.toCs.set i H E G,F⟩)⟩) V hy K R
end
variable{P:Program}{ops:Array Oper}{a:Act}{B0 B:Nat->Prop}{w0 w:World}{c:Nat}{Sk:Kor}{rs:List (Value×Pt)}{l:List (Nat×Array Value×TypeId)}{S:World->Prop}
theorem G5{Q:Exit->Act->World->Prop}{id:Nat}(SP:Nat->Prop)(f:Hid (Cs B0 w0 c Sk B rs w l))(i:P.follows .mixedOrders=true)
 (h:∀wd (S:World->Prop),Hid (∀w',S w'->aA SP wd w')->Hid (∀w',aA SP wd w'->S w')->aA aB w wd->Hid (Ds SP wd B0 w0 c Sk B rs wd l)->wpAnyH P .any ops (vV Q) S ops.size (Array.replicate ops.size false) a wd):(Code.region id ops true).wp P Q a w:=by
 have b:=(aA.refl aB w).drew;exact lV (S:=fun w'=>aA SP w.drew w') i (h w.drew (fun w'=>aA SP w.drew w') (O fun _ h=>h) (O fun _ h=>h) b (O ⟨f.keeps b,aA.refl _ _⟩))
theorem ldD{o:Oper}(f:TypeId)(x:Operand)(b k:Nat)(cs:List Value)(d:TypeDesc)(h:∀w,S w->w.rangeAt b k cs)(z:P.underlying f=some d)(j:(P.info? f).map (·.size)=some cs.length)(C:Region.wanted o (yielded ops a.tmps)=true:=by rfl)
 (s:o.op=.load f x:=by rfl) (E:a.eval x=.pointer (some ⟨b,k,none⟩):=by rfl) (i:d.isRow=true:=by rfl):YieldsIf P ops S o (.agg cs.toArray) a:=
 yieldsIf_load_mid C f x s b k E cs d h z i j
theorem sD9 {SP:Nat->Prop}{wd:World}(h:Hid (∀w',aA SP wd w'->S w'))(k:Hid (Ds SP wd B0 w0 c Sk B rs w l)):S w:=h.out _ k.out.dr
end
end Go.Proofs.YtiinnfhjpaeffaaGreat
