import Derived.Test.YtiinnfhjpaeffaaGreatU28
namespace Go.Proofs.YtiinnfhjpaeffaaGreat
open Tryz
set_option maxHeartbeats 0
set_option maxRecDepth 100000
set_option linter.unusedVariables false
section
open Go.RowKit Go.Maps Go.ChangeMaps
def bC(n:Nat)(t:Tr):Nat->Tr
 | 0=>t
 | k+1=>(bC n t k).kid (n / 4 ^ (2-k) % 4)
variable{S:Kor}{n:Nat}{t:Tr}
theorem jY(h:Tr.Ok S 3 t):∀k,k≤3->Tr.Ok S (3-k) (bC n t k)
 | 0,_=>h
 | 1,_=>(jY h 0 (by omega)).kid (cR _ _)
 | 2,_=>(jY h 1 (by omega)).kid (cR _ _)
 | 3,_=>(jY h 2 (by omega)).kid (cR _ _)
 | k+4,b=>by omega
theorem C7(n:Nat)(t:Tr){j:Nat}(h:bC n t j=.hole):∀i,bC n t (j+i)=.hole
 | 0=>h
 | i+1=>by
   show (bC n t (j+i)).kid _=.hole;rw[C7 n t h i];rfl
theorem E2(h:Tr.Ok S 3 t):t.blk 3 n=(bC n t 3).blk 0 n:=by
 rw[h.blk_succ,(h.kid (cR n 2)).blk_succ,((h.kid (cR n 2)).kid (cR n 1)).blk_succ];rfl
def fL(n:Nat)(t:Tr)(k:Nat)(pv:Value)(vs:Nat->Value):List Value:=
 aF pv (bC n t k).ptr++(bU ((3-k:Nat):Int) vs (fun i=>((bC n t k).kid i).ptr)++[.int .i64 ((n / 4 ^ (2-k) % 4:Nat):Int)])
def mO(n:Nat)(t:Tr)(k:Nat)(pvs:Nat->Value)(vss:Nat->Nat->Value):List Value:=(List.range k).flatMap fun j=>fL n t j (pvs j) (vss j)
def Apt(sv v:Value):Prop:=∀i,sv.ownBlock=some i->v.ownBlock≠some i
def Cj(M:Nat)(v:Value):Prop:=∀i,v.ownBlock=some i->M≤i
structure cS(w0 w:World)(B:Nat->Prop)(M:Nat)(pv0:Value)(n:Nat)(t:Tr)(k:Nat)(sv:Value)(pvs:Nat->Value)(vss:Nat->Nat->Value):Prop where
 row:w.ownsRow w0.heap.size 166 177 sv k (mO n t k pvs vss)
 pvs:∀j,j<k->aX w B (pvs j) (bC n t j).ptr/\Apt sv (pvs j)/\(pvs j=pv0\/Cj M (pvs j))
 vss:∀j,j<k->bS w B (vss j) (fun i=>((bC n t j).kid i).ptr)/\∀q,q<4->Apt sv (vss j q)/\Cj M (vss j q)
theorem tS{sv v2 v:Value}{w:World}{B:Nat->Prop}{p:Pt}(h:Apt sv v)(b:v2.ownBlock=sv.ownBlock\/v2.ownBlock=some w.heap.size)(s:aX w B v p):Apt v2 v:=fun i j e=>by
 rcases b with b|b
 ·rw[b] at j;exact h i j e
 ·rw[b] at j
  have:=(s.off i e).2.lt;injection j with j
  omega
section
variable {w0 w w' wE:World}{B:Nat->Prop}{M:Nat}{pv0:Value}{n:Nat}{t:Tr}{k:Nat}{sv v2:Value}{pvs:Nat->Value}{vss:Nat->Nat->Value}
theorem cS.keepT{T:Nat->Prop}(h:cS w0 w B M pv0 n t k sv pvs vss)(x:aA T w w')(E:∀i,sv.ownBlock=some i->¬T i)(F:∀i,pv0.ownBlock=some i->¬T i)(z:∀i,M≤i->¬T i):cS w0 w' B M pv0 n t k sv pvs vss:=
 ⟨x.owns h.row E,fun j b=>⟨(h.pvs j b).1.keepT x fun i s=>((h.pvs j b).2.2).elim (fun e=>F i (e▸s)) fun e=>z i (e i s),(h.pvs j b).2⟩,fun j b=>⟨fun q C=>((h.vss j b).1 q C).keepT x fun i s=>z i (((h.vss j b).2 q C).2 i s),(h.vss j b).2⟩⟩
theorem cS.keep0(h:cS w0 w B M pv0 n t k sv pvs vss)(b:aA aB w w'):cS w0 w' B M pv0 n t k sv pvs vss:=h.keepT b (fun _ _=>id) (fun _ _=>id) fun _ _=>id
theorem cS.next(h:cS w0 w B M pv0 n t k sv pvs vss)(s:aA aB w wE){pv:Value}{vs:Nat->Value}(J:aX w B pv (bC n t k).ptr)(ap:Apt sv pv)(R:pv=pv0\/Cj M pv)(K:bS w B vs (fun i=>((bC n t k).kid i).ptr))(H:∀q,q<4->Apt sv (vs q)/\Cj M (vs q))
 (V:w'.ownsRow w0.heap.size 166 177 v2 (k+1) (mO n t k pvs vss++fL n t k pv vs)) (G:aA (fun i=>sv.ownBlock=some i) wE w') (F:v2.ownBlock=sv.ownBlock\/v2.ownBlock=some wE.heap.size):cS w0 w' B M pv0 n t (k+1) v2 (fun j=>if j=k then pv else pvs j) (fun j=>if j=k then vs else vss j):=by
 have e:mO n t (k+1) (fun j=>if j=k then pv else pvs j) (fun j=>if j=k then vs else vss j)=mO n t k pvs vss++fL n t k pv vs:=by
  unfold mO;rw[List.range_succ,List.flatMap_append,List.flatMap_cons,List.flatMap_nil,List.append_nil]
  congr 1
  ·rw[List.flatMap_def,List.flatMap_def]
   congr 1
   refine List.map_congr_left fun j I=>?_
   have:=List.mem_range.1 I;show fL n t j (if j=k then pv else pvs j) (if j=k then vs else vss j)=_;rw[if_neg (by omega),if_neg (by omega)]
  ·show fL n t k (if k=k then pv else pvs k) (if k=k then vs else vss k)=_
   rw[if_pos rfl,if_pos rfl]
 refine⟨by rw[e];exact V,fun j I=>?_,fun j I=>?_⟩
 ·by_cases C:j=k
  ·subst C
   rw[if_pos rfl];exact⟨(J.keep0 s).keepT G fun i x e=>ap i e x,tS ap F (J.keep0 s),R⟩
  ·rw[if_neg C]
   obtain⟨E,z,U⟩:=h.pvs j (by omega);exact⟨(E.keep0 s).keepT G fun i x e=>z i e x,tS z F (E.keep0 s),U⟩
 ·by_cases C:j=k
  ·subst C
   rw[if_pos rfl];exact⟨fun q b=>((K q b).keep0 s).keepT G fun i x e=>(H q b).1 i e x,fun q b=>⟨tS (H q b).1 F ((K q b).keep0 s),(H q b).2⟩⟩
  ·rw[if_neg C]
   obtain⟨E,z⟩:=h.vss j (by omega);exact⟨fun q b=>((E q b).keep0 s).keepT G fun i x e=>(z q b).1 i e x,fun q b=>⟨tS (z q b).1 F ((E q b).keep0 s),(z q b).2⟩⟩
theorem cS.nil(w0 w:World)(B:Nat->Prop)(M:Nat)(pv0:Value)(n:Nat)(t:Tr):cS w0 w B M pv0 n t 0 (.slice none 0 0) (fun _=>.slice none 0 0) (fun _ _=>.slice none 0 0):=⟨World.ownsRow_nil _ _ _ _,fun j b=>by omega,fun j b=>by omega⟩
end
structure fH(w:World)(B:Nat->Prop)(M:Nat)(pv0 sv pv:Value)(p:Pt):Prop where
 val:aX w B pv p
 apt:Apt sv pv
 far:pv=pv0\/Cj M pv
variable{T S:Kor}{w w' W W0 W' w0 w1 w2:World}{B B0 B':Nat->Prop}{M a q c k g y n l d i b8 b9 b10 b12 N f D Z nw m cp:Nat}{sv pv v lv dv gv:Value}{p:Pt}{P:Program}{t u:Tr}{bs pid:List UInt8}{o:Obj}{pvs vs:Nat->Value}{vss:Nat->Nat->Value}{ps:Nat->Pt}{A:List Value}{r:Option Tr}{e:Ending}{bl:Nat->UInt8}{Mm:Nat->Nat->List UInt8}{ops:Array Oper}{vN:List Oper}{Q:Exit->Act->World->Prop}
theorem fH.keepT{T:Nat->Prop}{pv0:Value}(h:fH w B M pv0 sv pv p)(k:aA T w w')(j:∀i,pv0.ownBlock=some i->¬T i)(s:∀i,M≤i->¬T i):fH w' B M pv0 sv pv p:=
 ⟨h.val.keepT k fun i b=>h.far.elim (fun e=>j i (e▸b)) fun e=>s i (e i b),h.apt,h.far⟩
theorem fH.keep0{pv0:Value}(h:fH w B M pv0 sv pv p)(k:aA aB w w'):fH w' B M pv0 sv pv p:=h.keepT k (fun _ _=>id) fun _ _=>id
theorem DU{b:Nat}{c1 c2:Array Value}{j s:TypeId}{x z:Nat×Nat}(h:w.heap[a]?=some (.cells c1 j x))(C:w.heap[b]?=some (.cells c2 s z))(F:j≠s):a≠b:=fun e=>by
 rw[e,C] at h;injection h with h
 injection h with h E
 exact F E.symm
def Ck(w:World)(B:Nat->Prop)(pv0:Value)(n:Nat)(t:Tr)(b:Bool)(e:Ending)(w':World):Prop:=
 ∃sv h k pvs vss M,e=.returned (.tuple #[sv,.agg (aF h (bC n t 3).ptr).toArray,.int .i64 0])/\(b=false->k=3)/\w.heap.size≤M/\cS w w' B M pv0 n t k sv pvs vss/\fH w' B M pv0 sv h (bC n t 3).ptr/\aA aB w w'
theorem Ge{j:Func}{a p q:Tmp}{b:TypeId}(h:j.results=#[.tmp a,.cell p b,.tmp q])(tmps:Array Value)(w:World)(g:Nat)(t:TypeId)(cs:Array Value)(fr:Nat×Nat)(d:TypeDesc)
 (s:tmps.getD p undef=.pointer g) (z:w.heap[g]?=some (.cells cs t fr)) (E:P.underlying b=some d) (x:(match d with|.struct _|.array _ _=>true|_=>false)=true) (C:(P.info? b).map (·.size)=some cs.size):(results j tmps).run P w=.ok (.tuple #[tmps.getD a undef,.agg cs,tmps.getD q undef]) w:=by
 simp only[Array.getD_eq_getD_getElem?] at s;simp[results,h,s,asAddr,Result.andThen,run_loadVar_row w g t b cs fr d z E x C]
def jT:List Value:=aH++(cQ++[.int .i64 0])
theorem iO:jT.length=177:=rfl
theorem Bo:Hid (∀w,(zeroValue 166).run prog w=.ok (.agg jT.toArray) w):=O fun w=>by kernel_rfl
theorem tU:(prog.info? 166).map (·.size)=some 177:=by kernel_rfl
theorem KK:(prog.info? 166).map (fun i=>(i.zero,i.size,i.bytes))=some (some (.agg jT.toArray),177,376):=by kernel_rfl
theorem KL(N:Nat)(b:List Value)(h:b.length=N):b=(List.range N).map fun i=>b.getD i undef:=by
 apply List.ext_getElem?;intro i;rw[List.getElem?_map]
 by_cases j:i<N
 ·rw[List.getElem?_range j,List.getElem?_eq_getElem (by omega)]
  simp[List.getD,List.getElem?_eq_getElem (show i<b.length by omega)]
 ·rw[List.getElem?_eq_none (by omega),List.getElem?_eq_none (by simp;omega)];rfl
theorem IV(f g:Nat->Value)(d:Int):prog.built 166 [(0,.agg ((List.range 35).map f).toArray),(1,.agg ((List.range 141).map g).toArray),(2,.int .i64 d)]=some ((List.range 35).map f++((List.range 141).map g++([.int .i64 d]:List Value))).toArray:=by kernel_rfl
theorem KM(h b:List Value)(d:Int)(j:h.length=35)(s:b.length=141)(w:World):(Instr.build 166 #[(0,.agg h.toArray),(1,.agg b.toArray),(2,.int .i64 d)]).run prog w=.ok (.agg (h++(b++([.int .i64 d]:List Value))).toArray) w:=by
 refine run_build w 166 _ _ ?_;rw[KL 35 h j,KL 141 b s];exact IV _ _ _
def QD(l:Nat)(j h:Bool)(w:World)(vs:List Value)(w':World):Prop:=aA aB w w'/\∃s1 s2 s x z C E F G b,vs=[s1,s2,s,x,z,C,E,F,G,.bool b]/\(b=true->0<l/\(j=true->h=false))/\(b=false->l=0\/(j=true/\h=true))
theorem E3(hK:KI w c S B)(pv:Value)(t:Tr)(ht:Tr.Ok S 3 t)(hp:aX w B pv t.ptr)(n:Nat)(hn:n<64)(sh:Bool):Calls prog 90 #[.pointer c,.agg (aF pv t.ptr).toArray,.int .i64 (n:Int),.bool sh] w (Ck w B pv n t sh):=by
 have HT:=O ht;have HN:=O hn;have qi:=O hp;have HK:=O hK;obtain⟨p,xp⟩:=zX9 t.ptr
 have ve:=O xp;rw[xp] at qi hp ⊢;obtain⟨pc,vd,q9,v8⟩:=nmPt hp.pt;rw[vd.out];have F:=lN w;clear hp ht hK xp;have vf:=qi;have v4:=HK;go_in
 go_wp2_with ((with_reducible show WL _ _);refine bxL F 27 (.tmp 1) (pc.toArray) ?_)
 intro b5 w1 C F;replace qi:=pK qi C;replace HK:=O (HK.keep0 C);clear C
 go_wp2_with ((with_reducible show WL _ _);refine alL F 27 (.agg aH.toArray) (aH.toArray) bA ?_)
 intro b9 w2 C F;replace qi:=pK qi C;replace HK:=O (HK.keep0 C);clear C
 go_wp2_with ((with_reducible show WL _ _);first
  | refine wpList_load_mid rfl 27 (.tmp 5) rfl b5 0 rfl pc _ (aC (F.b 1)) aG rfl (szP9 q9) ?_
  | refine al 27 (.agg aH.toArray) (aH.toArray) bA ?_)
 intro b12 w3 V zm qp
 go_wp2_with ((with_reducible show WL _ _);refine sta 27 (.tmp 12) (.tmp 17) b12 0 pc qp (by first|decide|(rw[List.size_toArray,q9];exact Nat.le_refl _)|simp[q9,aE]) (szP9 q9) v8.out ?_)
 intro w4 C hb;rw[aI _ _ (by first|rfl|(rw[List.size_toArray,q9];rfl)|simp[q9,aE])] at hb;replace C:=tX zm C (fun i K e=>by omega);replace F:=lW F V C hb;replace qi:=pK qi C;replace HK:=O (HK.keep0 C);clear V C hb zm qp;go_wp2_with fail;have G:=O (F.b 1);have z:=O (F.b 0);have xf:=O (And.intro (F.lt 1) (F.lt 0));have x2:Hid (b9≠b12):=O (fun e=>bH (i:=0) F.nd rfl 1 (by decide) rfl e);have xh:=O F.keep;obtain⟨M,hM⟩:=zX9 w4.heap.size
 rw[hM] at xf;have HM:=O (show w.heap.size≤M from by have:=xh.size;omega);have x1:=O (Nat.le_of_eq hM.symm);obtain⟨Wh,vu⟩:=zX9 w4
 rw[vu] at qi HK G z xh x1 ⊢;have zs:=O (fun i (K:pv.ownBlock=some i)=>(vf.off i K).2.lt);clear F vu hM
 go_loopw [11,13] (fun s i wr=>∃(l:Nat) (sa:Option Addr) (H sc:Nat),H+l=3/\i=.int .i64 (l:Int)/\s=.slice sa H sc/\Hid (aA aB w wr/\M≤wr.heap.size)/\Hid (∃pvs vss,cS w wr B M pv n t H (.slice sa H sc) pvs vss)/\Hid (∃qe,fH wr B M pv (.slice sa H sc) qe (bC n t H).ptr/\wr.heap[b12]?=some (.cells (aF qe (bC n t H).ptr).toArray 27 (0,0)))/\Hid (wr.heap[b9]?=some (.cells aH.toArray 27 (0,0)))) (fun _ i _=>(intOf i).toNat)
 case atStart=>exact⟨3,none,0,0,by omega,rfl,rfl,O ⟨xh.out,x1.out⟩,O ⟨_,_,cS.nil _ _ _ _ _ _ _⟩,O ⟨pv,⟨by show aX _ B pv t.ptr;rw[ve.out];exact qi.out,(fun i K=>by cases K),.inl rfl⟩,by have h:=z.out;rw[←vd.out,←ve.out] at h;exact h⟩,G⟩
 case round =>
  obtain⟨l,sa,H,qh,ur,rfl,rfl,qm,vq,vg,G⟩:=hrel;obtain⟨pvs,vss,v0⟩:=vq.out;obtain⟨qe,qq,q0⟩:=vg.out;obtain⟨q,hq⟩:=zX9 ((bC n t H).ptr)
  have HQ:=O hq;rw[hq] at qq q0;have Y:=aJ (v:=qe) qq.val.pt.sum;have xa:=aN qq.val.pt;obtain⟨qc,q1⟩:=zX9 (aF qe q)
  have x8:Hid (∀u∈qc,u.oneCell'=true):=O (by rw[←q1];exact xa);have zj:=O q1;rw[q1] at Y q0;have HR:=O v0;have E:=O qq;have z:=O q0;have I:=O (v4.keep0 qm.1);clear v0 qq q0 vq vg hq q1 xa;have F:=lN wr;obtain⟨ho,vy⟩:=zX9 q.hole
  have xg:=O vy;clear vy;refine wp_seq_k fun K1 uq=>?_
  refine wp_seq_k fun K2 ud=>?_
  refine E1 [18,19,20,21,22,23,24,25,26,27] (QD l sh ho wr) ?_ ?_
  ·rcases Nat.eq_zero_or_pos l with qw|qw
   ·have K:¬(0:Int)<(l:Int):=by omega
    have d0:decide ((0:Int)<(l:Int))=false:=decide_eq_false K;have v6:=O qw;clear qw;go_wp2_with fail;exact⟨rfl,[.int .i64 (l:Int),.bool false,.bool false,undef,undef,undef,undef,undef,undef,.bool false],(by simp only[nF,Act.put,List.setIfInBounds_toArray,List.set_cons_zero,List.set_cons_succ]),aA.refl _ _,_,_,_,_,_,_,_,_,_,_,rfl,(fun h=>by cases h),fun _=>.inl v6.out⟩
   ·have K:(0:Int)<(l:Int):=by omega
    have d0:decide ((0:Int)<(l:Int))=true:=decide_eq_true K;cases sh with
    | false =>
      go_wp2_with fail;exact⟨rfl,[.int .i64 (l:Int),.bool true,.bool true,.bool false,.bool false,undef,undef,.bool false,.bool true,.bool true],(by simp only[nF,Act.put,List.setIfInBounds_toArray,List.set_cons_zero,List.set_cons_succ]),aA.refl _ _,_,_,_,_,_,_,_,_,_,_,rfl,(fun _=>⟨qw,fun e=>by cases e⟩),fun e=>by cases e⟩
    | true =>
      cases ho with
      | false =>
        go_wp2_with ((with_reducible show WL _ _);refine aM (by rfl) 27 (.tmp 12) rfl b12 0 rfl qc _ (aC z.out) aG rfl (szP9 Y) ?_)
        refine((by rw[←zj.out];have h:=cE wr qe q E.val.pt;rw[xg.out] at h;exact h:Ka wr (aY wr false))).mono ?_;rintro e w9 ⟨rfl,qb⟩;have zf:=O qb;clear qb;go_wp2_with fail;exact⟨rfl,[.int .i64 (l:Int),.bool true,.bool true,.bool true,.bool true,.agg qc.toArray,.bool false,.bool false,.bool true,.bool true],(by simp only[nF,Act.put,List.setIfInBounds_toArray,List.set_cons_zero,List.set_cons_succ]),zf.out,_,_,_,_,_,_,_,_,_,_,rfl,(fun _=>⟨qw,fun _=>rfl⟩),fun e=>by cases e⟩
      | true =>
        go_wp2_with ((with_reducible show WL _ _);refine aM (by rfl) 27 (.tmp 12) rfl b12 0 rfl qc _ (aC z.out) aG rfl (szP9 Y) ?_)
        refine((by rw[←zj.out];have h:=cE wr qe q E.val.pt;rw[xg.out] at h;exact h:Ka wr (aY wr true))).mono ?_;rintro e w9 ⟨rfl,qb⟩;have zf:=O qb;clear qb;go_wp2_with fail;exact⟨rfl,[.int .i64 (l:Int),.bool true,.bool true,.bool true,.bool true,.agg qc.toArray,.bool true,.bool true,.bool false,.bool false],(by simp only[nF,Act.put,List.setIfInBounds_toArray,List.set_cons_zero,List.set_cons_succ]),zf.out,_,_,_,_,_,_,_,_,_,_,rfl,(fun e=>by cases e),fun _=>.inr ⟨rfl,rfl⟩⟩
  rintro _ wr ⟨qb,s1,s2,s3,s4,s5,s6,s7,s8,s9,bb,rfl,vx,vw⟩;have v1:=O vx;have xq:=O vw;replace HR:=O (cS.keep0 HR.out qb);replace E:=O (fH.keep0 E.out qb);replace I:=O (I.keep0 qb);replace z:=O (qb.blk z.out id);replace G:=O (qb.blk G.out id);replace qm:Hid (aA aB w wr/\M≤wr.heap.size):=O ⟨qm.1.trans qb,Nat.le_trans qm.2 qb.size⟩;replace F:=O (Loc.nil aB aB wr);have ua:=HR;have uc:=O qm.1.size;have ui:=O (Nat.le_refl wr.heap.size);clear qb vx vw;refine ud _ _ ?_;simp only[nF,Act.put,List.setIfInBounds_toArray,List.set_cons_zero,List.set_cons_succ];cases bb with
  | false =>
    have v3:Hid ((bC n t 3).ptr=q):=O (by
     rcases xq.out (by simp) with e|⟨e,hh⟩
     ·have e3:H=3:=by omega
      rw[←e3];exact HQ.out
     ·have h1:bC n t H=.hole:=fD (by rw[←(jY (n:=n) HT.out H (by omega)).hole_eq,HQ.out,xg.out,hh])
      have h2:=C7 n t h1 (3-H);rw[show H+(3-H)=3 by omega] at h2;rw[h2,←HQ.out,h1])
    go_wp2_with fail;have vh:Hid ((bC n t 3).ptr=q):=O v3.out;have qu:=O F.keep;clear F;obtain⟨S',xk⟩:∃S:World->Prop,S=fun w'=>cS w w' B M pv n t H (.slice sa H qh) pvs vss/\fH w' B M pv (.slice sa H qh) qe q/\w'.heap[b12]?=some (.cells qc.toArray 27 (0,0))/\aA aB w w':=⟨_,rfl⟩
    have U:=O (show ∀w',S' w'->_ from fun w' h=>by rw[xk] at h;exact h);have qf:=O (show ∀w',_->S' w' from fun w' h=>by rw[xk];exact h);have X:=(aA.refl aB wr).drew;have hS:S' wr.drew:=qf.out _ ⟨HR.keep0 X,E.keep0 X,X.blk z.out id,(qm.1.trans qu.out).trans X⟩;have qx:=O (X.blk G.out id);clear xk X;refine wp_region_held (S:=S') (by kernel_rfl) ?_;change wpAnyH _ _ _ _ _ _ _ _ wr.drew;generalize wr.drew=wy at hS qx ⊢;refine tna 0 (.slice sa H qh) rfl hS ?_;refine tnd 1 (.agg qc.toArray) rfl (yieldsIf_load_mid (by rfl) 27 (.tmp 12) rfl b12 0 rfl qc _ (fun w' h=>aC (U w' h).2.2.1) aG rfl (szP9 Y)) hS ?_;refine tna 2 (.slice sa H qh) rfl hS ?_;refine wA9 3 ?_;refine sta 27 (.tmp 9) (.tmp 57) b9 0 qc qx.out (by rw[List.size_toArray,aE,Y];omega) (szP9 Y) x8.out ?_;intro wz C hb;rw[aI _ _ (by rw[List.size_toArray,aE,Y])] at hb;have xt:=O hb
    have qa:S' wz:=qf.out _ (by
     obtain⟨h1,h2,h3,h4⟩:=U.out _ hS;have g0:=xf.1;refine⟨h1.keepT C (fun i K e=>?_) (fun i K e=>?_) (fun i K e=>by omega),h2.keepT C (fun i K e=>?_) (fun i K e=>by omega),C.blk h3 x2.symm,h4.tT C (fun i K e=>by omega)⟩
     ·obtain⟨cur,hc⟩:=aL h1.row K
      exact DU hc qx.out (by decide) e
     ·have:=zs.out i K;omega
     ·have:=zs.out i K;omega)
    clear hS C hb;refine wpList_nil ?_;refine⟨qa,?_⟩;refine tna 4 (.int .i64 0) rfl qa ?_;refine wpAnyH_done (by kernel_rfl) ?_ _;have HF:=O (U _ qa);clear qa U qf HR E z G qx;go_wp2_with fail;refine bodyPost_ret (Ge rfl _ _ b9 _ _ _ _ rfl xt.out aG rfl (by rw[List.size_toArray,Y];exact cC)) rfl ?_;exact⟨_,qe,H,pvs,vss,M,by rw[vh.out,zj.out];rfl,(fun hs=>(xq (by simp)).elim (fun e=>by omega) fun e=>by rw[hs] at e;cases e.1),HM.out,HF.1,by rw[vh.out];exact HF.2.1,HF.2.2.2⟩
  | true =>
    have qw:=(v1 (by simp)).1;obtain⟨l2,rfl⟩:∃l2,l=l2+1:=⟨l-1,by omega⟩
    have uf:l2≤2:=by omega
    have z9:=O (jY (n:=n) HT.out H (by omega));have e4:3-H=l2+1:=by omega
    rw[e4] at z9;clear e4 qw;have ul:(0:Int)≤(l2:Int):=by omega
    go_wp2_with ((with_reducible show WL _ _);refine wpList_load_mid rfl 27 (.tmp 12) rfl b12 0 rfl qc _ (aC z.out) aG rfl (szP9 Y) ?_)
    refine((by rw[←zj.out,←HQ.out];exact C6 I.out uf qe (bC n t H) z9.out (by rw[HQ.out];exact E.val.pt):Ka wr (eU wr B l2 (bC n t H)))).mono ?_;rintro e w6 ⟨vs,rfl,zw,xd,C⟩;have J:=O zw;have x4:=O xd;have vr:=O F.keep.size;have qj:=cX ((l2+1:Nat):Int) vs zw.nv;have z7:=cZ ((l2+1:Nat):Int) zw.nv;obtain⟨nn,qz⟩:=zX9 (bU ((l2+1:Nat):Int) vs (fun i=>((bC n t H).kid i).ptr))
    have x6:Hid (∀u∈nn,u.oneCell'=true):=O (by rw[←qz];exact z7);have x3:=O qz;rw[qz] at qj ⊢;clear z7 qz zw xd;replace F:=kL F C;replace HR:=O (cS.keep0 HR.out C);replace E:=O (fH.keep0 E.out C);replace I:=O (I.keep0 C);replace z:=O (C.blk z.out id);replace G:=O (C.blk G.out id);clear C;have qu:=O F.keep;replace F:=O (Loc.nil aB aB w6);have vi:=HR;have xb:=E;have z1:=I;have za:=z;have zy:=G;have z5:=J
    go_wp2_with ((with_reducible show WL _ _);refine al 98 (.agg cQ.toArray) (cQ.toArray) iM ?_)
    intro zk w7 V zm qp
    go_wp2_with ((with_reducible show WL _ _);refine sta 98 (.tmp 14) (.tmp 35) zk 0 nn qp (by first|decide|(rw[List.size_toArray,qj];exact Nat.le_refl _)|simp[qj,bK]) (by rw[qj];exact dA) x6.out ?_)
    intro w8 C hb;rw[aI _ _ (by first|rfl|(rw[List.size_toArray,qj];rfl)|simp[qj,bK])] at hb;replace C:=tX zm C (fun i K e=>by omega);replace F:=lW F V C hb;replace HR:=O (cS.keep0 HR.out C);replace E:=O (fH.keep0 E.out C);replace I:=O (I.keep0 C);replace z:=O (C.blk z.out id);replace G:=O (C.blk G.out id);replace J:=O (bS.keep0 J.out C);clear V C hb zm qp;obtain⟨d,xn⟩:=zX9 (n / 4 ^ l2 % 4)
    have zp:=O xn;have q5:d<4:=by rw[←xn];exact cR n l2
    have V:=KM qc nn ((d:Nat):Int) Y qj;have qg:(qc++(nn++([.int .i64 ((d:Nat):Int)]:List Value))).length=177:=by simp[Y,qj]
    obtain⟨sc,q3⟩:=zX9 (qc++(nn++([.int .i64 ((d:Nat):Int)]:List Value)))
    have zi:Hid (∀u∈sc,u.oneCell'=true):=O (by
     intro u hu;rw[←q3] at hu;rcases List.mem_append.1 hu with hu|hu
     ·exact x8.out u hu
     rcases List.mem_append.1 hu with hu|hu
     ·exact x6.out u hu
     ·rcases List.mem_singleton.1 hu with rfl;rfl)
    have vn:=O q3;rw[q3] at V qg;have xu:=O V;clear xn V q3;go_wp2_with fail;apply Gd (R:=fun(qd:Nat) w'=>Hid (cS w w' B M pv n t H (.slice sa H qh) pvs vss/\fH w' B M pv (.slice sa H qh) qe q/\KI w' c S B/\w'.heap[b12]?=some (.cells qc.toArray 27 (0,0))/\w'.heap[b9]?=some (.cells aH.toArray 27 (0,0))/\bS w' B vs (fun i=>((bC n t H).kid i).ptr)/\Loc aB aB w6 w' [(qd,sc.toArray,166),(zk,nn.toArray,98)]))
    case h =>
     go_wp2_with fail;refine dwB aB (by kernel_rfl) ?_;intro w9 S U qf hS X;replace F:=kL F X;replace HR:=O (cS.keep0 HR.out X);replace E:=O (fH.keep0 E.out X);replace I:=O (I.keep0 X);replace z:=O (X.blk z.out id);replace G:=O (X.blk G.out id);replace J:=O (bS.keep0 J.out X);clear X;have xi:=F;have vm:=HR;have xc:=E;have z2:=I;have qt:=z;have z0:=G;have z6:=J;refine tnd 0 (.agg qc.toArray) rfl (yieldsIf_load_mid (by rfl) 27 (.tmp 12) rfl b12 0 rfl qc _ (fun w' h=>(U w' h).rangeAt (aC qt.out)) aG rfl (szP9 Y)) hS ?_;refine tnd 1 (.agg nn.toArray) rfl (yieldsIf_load_mid (by rfl) 98 (.tmp 14) rfl zk 0 rfl nn _ (fun w' h=>aC ((U w' h).blk (xi.b 0) id)) underlying98 rfl (by rw[qj];exact dA)) hS ?_;refine tna 2 (.int .i64 (n:Int)) rfl hS ?_;refine tna 3 (.int .i64 ((l2+1:Nat):Int)) rfl hS ?_;refine fY (k:=4) (l:=6) rfl rfl (by kernel_rfl) ?_ ?_
     ·go_wp2_with fail
      refine(C5 w9 n l2 HN.out (by omega)).mono ?_;rintro e wa ⟨rfl,C⟩;have qa:=qf.out _ ((U _ hS).trans C);replace F:=kL F C;replace HR:=O (cS.keep0 HR.out C);replace E:=O (fH.keep0 E.out C);replace I:=O (I.keep0 C);replace z:=O (C.blk z.out id);replace G:=O (C.blk G.out id);replace J:=O (bS.keep0 J.out C);clear hS C;rw[zp.out];go_wp2_with fail;refine⟨qa,?_⟩;refine tnd 5 (.agg sc.toArray) rfl (fI 166 #[(0,.tmp 41),(1,.tmp 42),(2,.tmp 45)] [(0,.agg qc.toArray),(1,.agg nn.toArray),(2,.int .i64 ((d:Nat):Int))] (.agg sc.toArray) xu.out) qa ?_;refine wA9 6 ?_;refine al 166 (.agg jT.toArray) (jT.toArray) Bo ?_;intro qd wb V C hb;have qv:=O (show w9.heap.size≤qd from by have:=(U _ qa).size;omega);have qo:=qf.out _ ((U _ qa).trans C);clear qa;replace F:=lW F V C hb;replace HR:=O (cS.keep0 HR.out C);replace E:=O (fH.keep0 E.out C);replace I:=O (I.keep0 C);replace z:=O (C.blk z.out id);replace G:=O (C.blk G.out id);replace J:=O (bS.keep0 J.out C);clear V C hb;refine wpList_nil ?_;refine⟨qo,?_⟩;refine wA9 7 ?_;refine sta 166 (.tmp 16) (.tmp 46) qd 0 sc (F.b 0) (by first|decide|(rw[qg];exact Nat.le_refl _)|simp[qg,iO]) (by rw[qg];exact tU) zi.out ?_;intro wc C hb;rw[aI _ _ (by first|rfl|simp[qg,iO])] at hb;have zl:=qf.out _ ((U _ qo).tT C (fun i K e=>by have:=qv.out;omega));clear qo;replace F:=O (F.set 0 C hb);replace HR:=O (cS.keep0 vi.out F.keep);replace E:=O (fH.keep0 xb.out F.keep);replace I:=O (z1.keep0 F.keep);replace z:=O (F.keep.blk za.out id);replace G:=O (F.keep.blk zy.out id);replace J:=O (bS.keep0 z5.out F.keep);clear C hb;refine wpList_nil ?_;refine⟨zl,?_⟩;refine wpAnyH_done (by kernel_rfl) ?_ _;clear zl U qf xi vm xc z2 qt z0 z6;refine noP ?_;exact⟨rfl,qd,rfl,O ⟨HR.out,E.out,I.out,z.out,G.out,J.out,F.out⟩⟩
     ·refine al 166 (.agg jT.toArray) (jT.toArray) Bo ?_
      intro qd wa V C hb;have qv:=O (show w9.heap.size≤qd from by have:=(U _ hS).size;omega);have qa:=qf.out _ ((U _ hS).trans C);clear hS;replace F:=lW F V C hb;replace HR:=O (cS.keep0 HR.out C);replace E:=O (fH.keep0 E.out C);replace I:=O (I.keep0 C);replace z:=O (C.blk z.out id);replace G:=O (C.blk G.out id);replace J:=O (bS.keep0 J.out C);clear V C hb;refine wpList_nil ?_;refine⟨qa,?_⟩;refine wA9 4 ?_;go_wp2_with fail;refine(C5 wa n l2 HN.out (by omega)).mono ?_;rintro e wb ⟨rfl,C⟩;have qo:=qf.out _ ((U _ qa).trans C);replace F:=kL F C;replace HR:=O (cS.keep0 HR.out C);replace E:=O (fH.keep0 E.out C);replace I:=O (I.keep0 C);replace z:=O (C.blk z.out id);replace G:=O (C.blk G.out id);replace J:=O (bS.keep0 J.out C);clear qa C;rw[zp.out];go_wp2_with fail;refine⟨qo,?_⟩;refine tnd 5 (.agg sc.toArray) rfl (fI 166 #[(0,.tmp 41),(1,.tmp 42),(2,.tmp 45)] [(0,.agg qc.toArray),(1,.agg nn.toArray),(2,.int .i64 ((d:Nat):Int))] (.agg sc.toArray) xu.out) qo ?_;refine wA9 7 ?_;refine sta 166 (.tmp 16) (.tmp 46) qd 0 sc (F.b 0) (by first|decide|(rw[qg];exact Nat.le_refl _)|simp[qg,iO]) (by rw[qg];exact tU) zi.out ?_;intro wc C hb;rw[aI _ _ (by first|rfl|simp[qg,iO])] at hb;have zl:=qf.out _ ((U _ qo).tT C (fun i K e=>by have:=qv.out;omega));clear qo;replace F:=O (F.set 0 C hb);replace HR:=O (cS.keep0 vi.out F.keep);replace E:=O (fH.keep0 xb.out F.keep);replace I:=O (z1.keep0 F.keep);replace z:=O (F.keep.blk za.out id);replace G:=O (F.keep.blk zy.out id);replace J:=O (bS.keep0 z5.out F.keep);clear C hb;refine wpList_nil ?_;refine⟨zl,?_⟩;refine wpAnyH_done (by kernel_rfl) ?_ _;clear zl U qf xi vm xc z2 qt z0 z6;refine noP ?_;exact⟨rfl,qd,rfl,O ⟨HR.out,E.out,I.out,z.out,G.out,J.out,F.out⟩⟩
    case hR =>
     rintro qd wd HF;replace HR:=O HF.1;replace E:=O HF.2.1;replace I:=O HF.2.2.1;replace z:=O HF.2.2.2.1;replace G:=O HF.2.2.2.2.1;replace J:=O HF.2.2.2.2.2.1;replace F:=O HF.2.2.2.2.2.2;clear HF;have zr:=O HR.row;have vp:=O (fun i (K:(Value.slice sa H qh).ownBlock=some i)=>show i<wr.heap.size from by obtain⟨cur,hc⟩:=aL ua.row K;exact lt_of_block hc);have x0:=O F.keep;have zd:=O (F.b 0);have zx:=O (F.b 1);have vt:=And.intro (F.lt 0).1 (F.lt 1).1;have xx:=O vt;have z3:=O qm.2;obtain⟨wE,vz,zv,xm,-⟩:=aV wd sc.toArray 166;obtain⟨bx,zu⟩:=zX9 wd.heap.size
     rw[zu] at xm;have vj:Hid (Rd wE 177 (.slice bx 1 1) 1 sc):=O (eQ (n:=1) (size:=177) xm (by rw[qg]) (by unfold maxLen;omega));have va:=O (zv.owns zr.out fun _ _=>id);have vo:=O zv.size;have xv:=O F.keep.size;have qk:=O zv;have uo:=O zu;have um:H≤2:=by omega
     clear xm zv vt F
     go_wp2_with (first
      | ((with_reducible show WL (some 48) (.load 166 _));refine wpList_load_mid rfl 166 (.tmp 16) rfl qd 0 rfl sc _ (aC zd.out) underlying166 rfl (by rw[qg];exact tU) ?_)
      | ((with_reducible show WL _ (.buildSlice _ 1 _));refine cO rfl 156 166 (.tmp 48) rfl underlying156 KK (by decide) sc qg (by decide) rfl ?_;rw[vz,zu])
      | (at_builtin;refine aP rfl (.tmp 47) (.tmp 49) 156 rfl w.heap.size 166 (.agg jT.toArray) 177 376 underlying156 KK rfl (by decide) (.slice sa H qh) H (mO n t H pvs vss) rfl va.out (.slice bx 1 1) 1 sc rfl vj.out zi.out (by unfold maxLen;omega) (by omega) (by have h1:=vo.out;have h2:=xv.out;have h3:=uc.out;have h4:=qu.size;omega) ?_))
     intro v2 w8 xo ql ug xl;obtain⟨g5,c5,rfl⟩:=ownsRow_succ xo;clear vz zu ug vj va;have zo:Hid (∀q,q<4->Apt (.slice sa H qh) (vs q)/\Cj M (vs q)):=O (fun q hq=>⟨fun i K e=>by have h1:=vp.out i K;have h2:=x4.out q hq i e;have h3:=vr.out;omega,fun i K=>by have h2:=x4.out q hq i K;have h3:=vr.out;have h4:=z3.out;omega⟩)
     have xj:Hid (cS w w8 B M pv n t (H+1) (.slice g5 (H+1) c5) (fun j=>if j=H then qe else pvs j) (fun j=>if j=H then vs else vss j)):=O (HR.next qk.out (by rw[HQ.out];exact E.val) E.apt E.far J.out zo.out (by
      have e:fL n t H qe vs=sc:=by
       unfold fL;rw[HQ.out,zj.out,←vn.out,←x3.out,←zp.out,show 3-H=l2+1 by omega,show 2-H=l2 by omega]
      rw[e];exact xo) ql xl)
     have zq:Hid (∀i,(Value.slice sa H qh).ownBlock=some i->i≠b9/\i≠b12/\i≠zk/\i≠qd):=O (fun i K=>by
      have h1:=vp.out i K;obtain⟨cur,hc⟩:=aL zr.out K;exact⟨DU hc G.out (by decide),DU hc z.out (by decide),by have:=xx.2;have:=qu.size;omega,by have:=xx.1;have:=qu.size;omega⟩)
     have zz:=O (ql.blk (qk.blk G.out id) (fun e=>(zq _ e).1 rfl));have qr:=O (ql.blk (qk.blk z.out id) (fun e=>(zq _ e).2.1 rfl));have zb:=O (ql.blk (qk.blk zx.out id) (fun e=>(zq _ e).2.2.1 rfl));have ze:=O (ql.blk (qk.blk zd.out id) (fun e=>(zq _ e).2.2.2 rfl));have x9:=O (fun i (K:(Value.slice sa H qh).ownBlock=some i)=>show w.heap.size≤i from aU zr.out K);have zf:Hid (aA aB w w8):=O ((((qm.1.trans qu.out).trans x0.out).trans qk.out).tT ql (fun i K e=>by have:=x9.out i e;omega));have v7:=O (show M≤w8.heap.size from by have h1:=z3.out;have h2:=qu.size;have h3:=x0.size;have h4:=qk.size;have h5:=ql.size;omega);have zt:Hid (fH w8 B M pv (.slice g5 (H+1) c5) (vs d) ((bC n t H).kid d).ptr):=O ⟨(((J d q5).keep0 qk.out).keepT ql (fun i K e=>(zo d q5).1 i e K)),tS (zo d q5).1 xl ((J d q5).keep0 qk.out),.inr (zo d q5).2⟩;have zn:=aJ (v:=vs d) zt.val.pt.sum;have zh:=aN zt.val.pt;have zg:=mI J.nv (by rw[x3.out];exact aC zb.out) q5;obtain⟨kc,qy⟩:=zX9 (aF (vs d) ((bC n t H).kid d).ptr)
     have x7:Hid (∀u∈kc,u.oneCell'=true):=O (by rw[←qy];exact zh);have v5:=O qy;rw[qy] at zn zg;have xz:=O zg;have uj:(0:Int)≤(d:Int):=by omega
     have uk:(d:Int)<4:=by omega
     have ue:w8.cell? ⟨qd,176,none⟩=some (.int .i64 (d:Int)):=aD (i:=176) ze.out (by
      rw[←vn.out,List.getElem?_toArray,List.getElem?_append_right (by omega),List.getElem?_append_right (by omega),Y,qj];rfl)
     clear xo ql xl zg zh qy HR E I z G J zx zd zr
     go_wp2_with ((with_reducible show WL _ _);first
      | refine wpList_load_mid rfl 27 (.tmp 54) rfl zk (1+d*35) rfl kc _ xz.out aG rfl (szP9 zn) ?_
      | refine sta 27 (.tmp 12) (.tmp 55) b12 0 kc qr.out (by rw[List.size_toArray,Y,zn];omega) (szP9 zn) x7.out ?_)
     intro w9 C hb;rw[aI _ _ (by rw[List.size_toArray,Y,zn])] at hb;have xw:=xf.2;have qn:Hid (∀i,i=b12->w.heap.size≤i/\i<M):=O (fun i e=>by rw[e];exact xw);have v9:=O (xj.keepT C (fun i K e=>by obtain⟨cur,hc⟩:=aL xj.row K;exact DU hc qr.out (by decide) e) (fun i K e=>by have:=zs.out i K;have:=(qn i e).1;omega) (fun i K e=>by have:=(qn i e).2;omega));have vc:=O (zt.keepT C (fun i K e=>by have:=zs.out i K;have:=(qn i e).1;omega) (fun i K e=>by have:=(qn i e).2;omega));have xy:=O (And.intro (zf.tT C (fun i K e=>by have:=(qn i e).1;omega):aA aB w w9) (show M≤w9.heap.size from by have h1:=v7.out;have h2:=C.size;omega));have xr:=O (C.blk zz.out x2.out);have x5:Hid (bC n t (H+1)=(bC n t H).kid d):=O (by show (bC n t H).kid (n / 4 ^ (2-H) % 4)=_;rw[show 2-H=l2 by omega,zp.out]);have xe:Hid (w9.heap[b12]?=some (.cells (aF (vs d) (bC n t (H+1)).ptr).toArray 27 (0,0))):=O (by rw[hb,x5.out,v5.out]);rw[←x5.out] at vc;clear C hb ue xj zt zz qr zb ze xz;go_wp2
     go_roundw
     case rel=>exact⟨l2,some ⟨g5,0,none⟩,H+1,c5,by omega,by first|rfl|go_num,rfl,xy,O ⟨_,_,v9.out⟩,O ⟨_,vc.out,xe.out⟩,xr⟩
     case measure=>simp[intOf]
theorem Tr.Ok.root(h:Tr.Ok S 3 t):t.ptr.root=true:=by
 unfold Pt.root;cases t with
 | hole=>rw[show Tr.hole.ptr.hole=true from jM];rfl
 | leaf p b=>exact h.elim
 | node p k =>
   have j:p.may=true:=h.1.may;have s:p.level=3:=h.1.lev;show (p.hole || (p.may && decide (p.level=3)))=true;rw[j,s];simp
theorem Bp(s:KI w c S B)(pv:Value)(t:Tr)(j:Tr.Ok S 0 t)(h:PtV w pv t.ptr)(i:Nat):Calls prog 91 #[.pointer c,.agg (aF pv t.ptr).toArray] w (gJ w (t.blk 0 i)):=by
 cases t with
 | hole=>exact Gc pv zPt h jM
 | leaf p b=>exact IS s pv p h j.1
 | node p k=>exact j.elim
def Off(w:World)(J:Nat->Prop)(k:Nat):Prop:=¬J k/\k<w.heap.size
theorem Off.keep{J b:Nat->Prop}(h:Off w J k)(s:aA J w w')(j:∀k,b k->J k\/w.heap.size≤k):Off w' b k:=
 ⟨fun e=>(j k e).elim h.1 fun e=>by have:=h.2;omega,by have:=h.2;have:=s.size;omega⟩
def DV(b:Nat->List Value)(k:Nat):Array Value:=#[.int .i64 ((2-k:Nat):Int),.agg (b (2-k)).toArray]
theorem IW(n:Nat){Res:Nat->Prop}{G b:Nat}(Y:Nat->List Value)(V:∀x,x<3->(Y x).length=177)(qh:3≤b)(hB:w.heap[G]?=some (.cells #[.slice g 3 b] 156 (0,0)))(hx:∀x,x<3->w.rangeAt g (x*177) (Y x)){cur:Array Value}(hg:w.heap[g]?=some (.cells cur 166 (0,0)))(qe:¬Res G)(qf:¬Res g) :
 ∀(l:Nat) (J:Nat->World->Prop) (Jx:World->Prop) (W:World),aA aB w W->J 0 W ->
  (∀k W1,k<3->J k W1->YieldAt Fence.wide (n-1) prog l (DV Y k) W1 fun e W'=>(e=.returned (.bool true)/\J (k+1) W'/\KpC Res W1 W')\/(e=.returned (.bool false)/\Jx W')) ->
  CallsIn Fence.wide n prog 126 (#[.func (.yield l) #[] #[]]++#[.pointer G]) W fun e W'=>(∃v,e=.returned v)/\(J 3 W'\/Jx W'):=by
 intro l J Jx W E qd hY;have HS:=O (And.intro (E.blk hB id) (E.blk hg id))
 have qb:Hid (∀W':World,W'.heap[g]?=some (.cells cur 166 (0,0))->∀x,x<3->W'.rangeAt g (x*177) (Y x)):=O fun W' h x qg j v hj =>
  (World.cell?_of_block (w:=w) (w':=W') (a:=⟨g,x*177+j,none⟩) (h.trans hg.symm)).trans (hx x qg j v hj)
 have qa:=O V;have qc:=O hY;have c0:=cell_of_one HS.1;clear hB hx hg V hY E;refine callsIn_of_wp func126 rfl trivial ?_ rfl;simp only[ntmps126,List.size_toArray,List.length_cons,List.length_nil,Nat.reduceAdd,Nat.reduceSub,Array.replicate_succ,Array.replicate_zero,List.push_toArray,List.append_toArray,List.nil_append,List.cons_append]
 gi_wp2
 clear c0
 gi_loopw [3] (fun i wr=>∃k:Nat,((k=3/\i=.int .i64 (-1))\/∃y:Nat,k+y=2/\i=.int .i64 (y:Int))/\J k wr/\Hid (wr.heap[G]?=some (.cells #[.slice g 3 b] 156 (0,0))/\wr.heap[g]?=some (.cells cur 166 (0,0)))) (fun i _=>(intOf i+1).toNat)
 case atStart=>exact⟨0,.inr ⟨2,rfl,rfl⟩,qd,HS⟩
 case round =>
  obtain⟨k,(⟨rfl,rfl⟩|⟨y,qk,rfl⟩),hJ,H⟩:=hrel
  ·gi_wp2
   go_end0
   exact⟨⟨_,rfl⟩,.inl hJ⟩
  ·have e1:(y:Int)<3:=by omega
   have qi:(0:Int)≤(y:Int):=by omega
   have qj:(y:Int)<(b:Int):=by omega
   have e2:2-k=y:=by omega
   have s:=qc.out k wr (by omega) hJ;unfold DV at s;rw[e2] at s;have F:=qb.out wr H.out.2 y (by omega);have X:=qa.out y (by omega);have ck:=cell_of_one H.out.1;obtain⟨sy,z⟩:=zX9 (Y y)
   rw[z] at s F X;obtain⟨fn,tmps,assign,body,hy,hR⟩:=s;clear e2 z
   gi_wp2_with (first
    | (refine lL rfl 166 (.tmp 15) rfl g (y*177) rfl sy _ F underlying166 rfl (by rw[X];exact tU) ?_)
    | gi_in)
   refine⟨fun h=>by simp[Fence.wide] at h,hR.mono ?_⟩;rintro e W3 (⟨rfl,K,C⟩|⟨rfl,U⟩)
   ·have I:Hid (W3.heap[G]?=some (.cells #[.slice g 3 b] 156 (0,0))/\W3.heap[g]?=some (.cells cur 166 (0,0))):=O ⟨C _ _ _ _ qe H.out.1,C _ _ _ _ qf H.out.2⟩
    have R:=O K;clear K C hJ hR hy H ck F
    gi_wp2
    rcases y with _|y
    ·go_roundw
     case rel=>exact⟨k+1,.inl ⟨by omega,rfl⟩,R.out,I⟩
     case measure=>simp[intOf]
    ·go_roundw
     case rel=>exact⟨k+1,.inr ⟨y,by omega,by first|rfl|go_num|(congr 1;omega)⟩,R.out,I⟩
     case measure=>simp[intOf];omega
   ·gi_wp2
    refine bodyPost_ret (results_none rfl _ _ _) rfl ?_;exact⟨⟨_,rfl⟩,.inr U⟩
theorem M6(v:Value)(w:World)(z:∃a n c,v=.slice a n c) :
 Calls prog 94 #[v] w fun e w'=>∃b,e=.returned (.func (.func 126) #[] #[.pointer (some ⟨b,0,none⟩)])/\w'.heap[b]?=some (.cells #[v] 156 (0,0))/\w.heap.size=b/\aA aB w w':=by
 obtain⟨a,n,c,rfl⟩:=z;go_in
 go_wp2_with ((with_reducible show WL (some 1) (.box 156 _));refine bx 156 (.tmp 0) #[.slice a n c] ?_)
 intro b w1 h x s;have j:=O (And.intro s (And.intro h x));clear h x s;go_wp2;go_ret;exact⟨b,rfl,j.1,j.2.1,j.2.2⟩
def oJ(S:Kor)(t:Tr)(n:Nat)(bs:List UInt8):Option Tr×Kor:=if t.blk 3 n=bs then (some t,S) else eK 3 S t n bs
theorem E4(S:Kor)(t:Tr)(n:Nat)(bs:List UInt8)(h:k+y=2):eK (k+1) S (bC n t y) n bs=match eK k S (bC n t (y+1)) n bs with
 | (none,T)=>(none,T)
 | (some u,T)=>T.lay (k+1) (eV (bC n t y).kid (n / 4 ^ k % 4) u):=by
 have e:bC n t (y+1)=(bC n t y).kid (n / 4 ^ k % 4):=by
  show (bC n t y).kid (n / 4 ^ (2-y) % 4)=_;rw[show 2-y=k by omega]
 rw[e];rfl
theorem C8:∀{y k:Nat},k+y=3->eK k S (bC n t y) n bs=(none,T)->eK 3 S t n bs=(none,T)
 | 0,k,h,e=>by
   have b:k=3:=by omega
   subst b;exact e
 | y+1,k,h,e=>C8 (y:=y) (k:=k+1) (by omega) (by rw[E4 S t n bs (k:=k) (y:=y) (by omega),e])
theorem GS(Y:S.Bd)(I:Tr.Ok S 3 t)(s:bs.length=256)(b:¬t.blk 3 n=bs)(h:k+y=3)(e:eK k S (bC n t y) n bs=(some u,T)) :
 Beh S T/\Tr.Ok T k u/\u.ptr.eqB (bC n t y).ptr=false:=by
 have F:Tr.Ok S k (bC n t y):=by
  have:=jY (n:=n) I y (by omega)
  rwa [show 3-y=k by omega] at this
 obtain⟨R,U⟩:=qP s n (by omega) Y F e;obtain⟨E,V,X⟩:=U u rfl;have J:u.blk k n=bs:=by rw[V,if_pos rfl]
 have hp:∀x j,x+j=3->t.blk 3 n=(bC n t x).blk j n:=by
  intro x
  induction x with
  | zero =>
     intro j hj;obtain rfl:j=3:=by omega
     rfl
  | succ x ih =>
    intro j hj;have K:=jY (n:=n) I x (by omega);rw[show 3-x=j+1 by omega] at K;rw[ih (j+1) (by omega),K.blk_succ];show _=((bC n t x).kid (n / 4 ^ (2-x) % 4)).blk j n;rw[show 2-x=j by omega]
 have H:=hp y k (by omega);refine⟨R,E,?_⟩;cases G:(bC n t y).isHole with
 | false=>exact Fr.ne F G X
 | true =>
   have C:=fD G;rw[C,Tr.blk_hole] at H;rw[C];refine Fr.ne_hole (S:=S) E ?_;cases z:u.isHole with
   | false=>rfl
   | true =>
     rw[fD z,Tr.blk_hole] at J;rw[←J] at b;exact absurd H b
theorem E5(k:Nat->Tr)(d:Nat)(u:Tr):fT (fun i=>(k i).ptr) d u.ptr=fun i=>(eV k d u i).ptr:=by
 funext i
 unfold fT eV
 by_cases e:i=d
 ·rw[if_pos e,if_pos e]
 ·rw[if_neg e,if_neg e]
theorem OL{k:Nat->Tr}(j:∀i,i<4->Tr.Ok S l (k i))(e:Ext S T)(s:Tr.Ok T l u):∀i,i<4->Tr.Ok T l (eV k d u i):=fun i b=>by
 by_cases h:i=d
 ·rw[h,fE];exact s
 ·rw[eF _ _ h];exact(j i b).ext e
abbrev IX:TypeId:=49
abbrev IY:TypeId:=27
def vK(W0:World)(b8 b9 b10 b12 c:Nat)(S:Kor)(B0:Nat->Prop)(n:Nat)(t:Tr)(bs:List UInt8)(k:Nat)(W:World):Prop:=
 ∃y v B',k+y=3/\W.heap[b12]?=some (.cells (aF v (eS (eK k S (bC n t y) n bs).1)).toArray IY (0,0)) /\
  W.heap[b10]?=some (.cells #[.int .i64 (fG (eK k S (bC n t y) n bs).1)] IX (0,0)) /\
  aX W B' v (eS (eK k S (bC n t y) n bs).1)/\(∀i,v.ownBlock=some i->i≠b8/\i≠b9/\i≠b10/\i≠b12) /\
  KI W c (eK k S (bC n t y) n bs).2 B'/\(∀i,B' i->B0 i\/W0.heap.size≤i)/\(∀i,B' i->IsC W i\/i<W0.heap.size/\B0 i/\¬IsC W0 i) /\
  aA (fun i=>B0 i\/i=b10\/i=b12) W0 W
def E6(W0:World)(b8 b9 b10 b12 c:Nat)(S:Kor)(B0:Nat->Prop)(n:Nat)(t:Tr)(bs:List UInt8)(W:World):Prop:=
 ∃T B',eK 3 S t n bs=(none,T)/\W.heap[b8]?=some (.cells aH.toArray IY (0,0))/\W.heap[b9]?=some (.cells #[.int .i64 15] IX (0,0)) /\
  KI W c T B'/\(∀i,B' i->B0 i\/W0.heap.size≤i)/\(∀i,B' i->IsC W i\/i<W0.heap.size/\B0 i/\¬IsC W0 i)/\aA (fun i=>B0 i\/i=b8\/i=b9\/i=b10\/i=b12) W0 W
theorem oY(j:W.heap[l]?=some o)(b:o.isCells=false)(h:IsC W i):¬(some l=some i):=fun e=>by
 obtain⟨cs,t,h⟩:=h;injection e with e
 rw[←e,j] at h;injection h with h
 rw[h] at b;cases b
theorem vK.put(h:vK W0 b8 b9 b10 b12 c S B0 n t bs k W)(K:W0.heap.size≤l)(J:W.heap[l]?=some o)(I:o.isCells=false)(o':Obj):vK W0 b8 b9 b10 b12 c S B0 n t bs k (W.putObj l o'):=by
 obtain⟨y,v,B',F,s,x,z,G,h6,h7,C,H⟩:=h;have b:=aA.of_grown (grownBy_putObj' W l o');have no:=fun {i:Nat}(h:IsC W i)=>oY J I h
 refine⟨y,v,B',F,b.blk s (no ⟨_,_,s⟩),b.blk x (no ⟨_,_,x⟩),z.keepT b (fun i E=>no (z.off i E).2),G,h6.keepT b (fun i e j=>?_),h7,fun i j=>?_,H.tT b (fun i E e=>by injection e with e;omega)⟩
 ·rcases C i j with h|h
  ·exact no h e
  ·have:=h.1;injection e with e;omega
 ·rcases C i j with h|h
  ·exact .inl (h.keep b (no h))
  ·exact .inr h
theorem E6.put(h:E6 W0 b8 b9 b10 b12 c S B0 n t bs W)(I:W0.heap.size≤l)(G:W.heap[l]?=some o)(F:o.isCells=false)(o':Obj):E6 W0 b8 b9 b10 b12 c S B0 n t bs (W.putObj l o'):=by
 obtain⟨T,B',C,s,x,h6,h7,z,E⟩:=h;have b:=aA.of_grown (grownBy_putObj' W l o');have no:=fun {i:Nat}(h:IsC W i)=>oY G F h
 refine⟨T,B',C,b.blk s (no ⟨_,_,s⟩),b.blk x (no ⟨_,_,x⟩),h6.keepT b (fun i e j=>?_),h7,fun i j=>?_,E.tT b (fun i H e=>by injection e with e;omega)⟩
 ·rcases z i j with h|h
  ·exact no h e
  ·have:=h.1;injection e with e;omega
 ·rcases z i j with h|h
  ·exact .inl (h.keep b (no h))
  ·exact .inr h
theorem vK.keep0(h:vK W0 b8 b9 b10 b12 c S B0 n t bs k W)(b:aA aB W W'):vK W0 b8 b9 b10 b12 c S B0 n t bs k W':=by
 obtain⟨y,v,B',j,s,x,z,C,h6,h7,E,F⟩:=h;exact⟨y,v,B',j,b.blk s id,b.blk x id,z.keep0 b,C,h6.keep0 b,h7,fun i G=>(E i G).imp (fun h=>h.keep b id) id,F.trans b.any⟩
open Go.RowKit Go.Maps Go.ChangeMaps
set_option maxRecDepth 100000
theorem Tr.Ok.blk_len:∀{l:Nat}{t:Tr},Tr.Ok S l t->∀(i:Nat),(t.blk l i).length=256
 | l,.hole,h,i=>by rw[Tr.blk_hole];exact KG
 | 0,.leaf p b,h,i=>h.1.len
 | 0,.node p k,h,i=>h.elim
 | l+1,.leaf p b,h,i=>h.elim
 | l+1,.node p k,h,i=>(h.2.1 _ (cR i l)).blk_len i
theorem Loc.wide{S:Nat->Prop}{l:List (Nat×Array Value×TypeId)}(h:Loc aB aB w0 w l)(b:∀k,B k->k<w0.heap.size):Loc S B w0 w l:=
 ⟨h.keep.any,h.ge,h.nd,h.at_,fun x j e=>by have:=h.ge x j;have:=b _ e;omega⟩
structure PJ(a b N:Nat)(k:Nat)(sv:Value)(pvs:Nat->Value)(vss:Nat->Nat->Value):Prop where
 sv:∀i,sv.ownBlock=some i->(i<a\/b≤i)/\i<N
 pvs:∀j,j<k->∀i,(pvs j).ownBlock=some i->(i<a\/b≤i)/\i<N
 vss:∀j,j<k->∀q,q<4->∀i,(vss j q).ownBlock=some i->(i<a\/b≤i)/\i<N
theorem cS.zone{pv0:Value}(h:cS w0 w' B M pv0 n t k sv pvs vss)(x:w0.heap.size≤M)(h0:∀i,pv0.ownBlock=some i->i<w.heap.size):PJ w.heap.size w0.heap.size w'.heap.size k sv pvs vss:=by
 refine⟨fun i b=>⟨.inr (aU h.row b),?_⟩,fun j s i b=>⟨?_,((h.pvs j s).1.off i b).2.lt⟩,fun j s q z i b=>⟨.inr (Nat.le_trans x (((h.vss j s).2 q z).2 i b)),(((h.vss j s).1 q z).off i b).2.lt⟩⟩
 ·obtain⟨cur,C⟩:=aL h.row b
  exact lt_of_block C
 ·rcases (h.pvs j s).2.2 with e|e
  ·exact .inl (h0 i (e▸b))
  ·exact .inr (Nat.le_trans x (e i b))
theorem cS.keepZ{T:Nat->Prop}{b:Nat}{pv0:Value}(h:cS w0 w B M pv0 n t k sv pvs vss)(z:PJ a b N k sv pvs vss)(C:aA T w w')(G:∀i,T i->(a≤i/\i<b)\/N≤i):cS w0 w' B M pv0 n t k sv pvs vss:=by
 have no:∀i,(i<a\/b≤i)/\i<N->¬T i:=fun i h e=>by rcases G i e with F|F<;>omega
 exact⟨C.owns h.row fun i x=>no i (z.sv i x),fun j s=>⟨(h.pvs j s).1.keepT C fun i x=>no i (z.pvs j s i x),(h.pvs j s).2⟩,fun j s=>⟨fun q E=>((h.vss j s).1 q E).keepT C fun i x=>no i (z.vss j s q E i x),(h.vss j s).2⟩⟩
theorem cS.toB{pv0:Value}(h:cS w0 w B M pv0 n t k sv pvs vss)(s:aA B w w')(x:∀i,B' i->B i\/w.heap.size≤i)(C:∀i,sv.ownBlock=some i->¬B i):cS w0 w' B' M pv0 n t k sv pvs vss:=
 ⟨s.owns h.row C,fun j b=>⟨(h.pvs j b).1.keep s x,(h.pvs j b).2⟩,fun j b=>⟨fun q z=>((h.vss j b).1 q z).keep s x,(h.vss j b).2⟩⟩
theorem aX.grow{T:Nat->Prop}(h:aX W0 B0 v p)(k:aA (fun i=>B0 i\/T i) W0 W)(j:∀i,v.ownBlock=some i->¬T i)(s:∀i,B' i->B0 i\/W0.heap.size≤i):aX W B' v p:=
 ⟨h.pt.keep k fun i b e=>e.elim (h.off i b).1 (j i b),fun i b=>⟨fun e=>(s i e).elim (h.off i b).1 fun e=>by have:=(h.off i b).2.lt;omega,(h.off i b).2.keep k fun e=>e.elim (h.off i b).1 (j i b)⟩⟩
theorem GT{pv0:Value}(h:cS w0 w B M pv0 n t k sv pvs vss){x:Nat}(b:x<k):(fL n t x (pvs x) (vss x)).length=177:=by
 unfold fL;rw[List.length_append,List.length_append,aJ (h.pvs x b).1.pt.sum,cX _ _ (h.vss x b).1.nv];rfl
theorem KN{pv0:Value}(h:cS w0 w B M pv0 n t k sv pvs vss)(hk:0<k):∃g b cur,sv=.slice (some ⟨g,0,none⟩) k b/\k≤b/\w.heap[g]?=some (.cells cur 166 (0,0))/\∀x,x<k->w.rangeAt g (x*177) (fL n t x (pvs x) (vss x)):=by
 rcases h.row.2 with⟨-,h0⟩|⟨g,b,cur,C,H,G,E,Y,h3,h4⟩
 ·omega
 ·refine⟨g,b,cur,C,E,G,fun x K j v I=>?_⟩
  obtain⟨J,U,V,s,-,-,-,F⟩:=Rd.of_owns h.row;rw[C] at s;cases s
  obtain⟨X,o',s,z⟩:=F (by rw[J];omega);cases s
  have:=z (x*177+j) v (gT (c:=fun j=>fL n t j (pvs j) (vss j)) (n:=177) (fun y R=>GT h (List.mem_range.1 R)) (jK K) I)
  rwa [Nat.zero_add] at this
theorem KO(b:dM w vs ps)(lv:Int)(s:k<4):∃P R,bU lv vs ps=P++(aF (vs k) (ps k)++R)/\P.length=1+k*35/\∀v p,bU lv (fT vs k v) (fT ps k p)=P++(aF v p++R):=by
 have h:=aJ (v:=vs 0) (b 0 (by omega)).sum;have j:=aJ (v:=vs 1) (b 1 (by omega)).sum;have l2:=aJ (v:=vs 2) (b 2 (by omega)).sum;rcases k with _|_|_|_|k
 ·exact⟨[.int .i64 lv],aF (vs 1) (ps 1)++(aF (vs 2) (ps 2)++aF (vs 3) (ps 3)),rfl,rfl,fun _ _=>rfl⟩
 ·exact⟨.int .i64 lv::aF (vs 0) (ps 0),aF (vs 2) (ps 2)++aF (vs 3) (ps 3),rfl,by rw[List.length_cons,h],fun _ _=>rfl⟩
 ·refine⟨.int .i64 lv::(aF (vs 0) (ps 0)++aF (vs 1) (ps 1)),aF (vs 3) (ps 3),?_,by rw[List.length_cons,List.length_append,h,j],fun v p=>?_⟩
  ·show Value.int .i64 lv::(aF (vs 0) (ps 0)++(aF (vs 1) (ps 1)++(aF (vs 2) (ps 2)++aF (vs 3) (ps 3))))=_
   rw[List.cons_append,List.append_assoc]
  ·show Value.int .i64 lv::(aF (vs 0) (ps 0)++(aF (vs 1) (ps 1)++(aF v p++aF (vs 3) (ps 3))))=_
   rw[List.cons_append,List.append_assoc]
 ·refine⟨.int .i64 lv::(aF (vs 0) (ps 0)++(aF (vs 1) (ps 1)++aF (vs 2) (ps 2))),[],?_,by rw[List.length_cons,List.length_append,List.length_append,h,j,l2],fun v p=>?_⟩
  ·show Value.int .i64 lv::(aF (vs 0) (ps 0)++(aF (vs 1) (ps 1)++(aF (vs 2) (ps 2)++aF (vs 3) (ps 3))))=_
   rw[List.cons_append,List.append_assoc,List.append_assoc,List.append_nil]
  ·show Value.int .i64 lv::(aF (vs 0) (ps 0)++(aF (vs 1) (ps 1)++(aF (vs 2) (ps 2)++aF v p)))=_
   rw[List.cons_append,List.append_assoc,List.append_assoc,List.append_nil]
 ·omega
theorem zT{b o:Nat}{P R:List Value}{t:TypeId}{fr:Nat×Nat}(x:w.heap[b]?=some (.cells (P++(A++R)).toArray t fr))(h:P.length=o):w.rangeAt b o A:=fun j v s=>by
 refine aD x ?_;rw[List.getElem?_toArray,List.getElem?_append_right (by omega),show o+j-P.length=j by omega,List.getElem?_append_left (List.getElem?_eq_some_iff.1 s).1];exact s
theorem OM{lv:Int}{b:Nat}{t:TypeId}(x:A.length=35)(C:dM w vs ps)(z:q<4)(h:W.heap[b]?=some (.cells (A++(bU lv vs ps++[dv])).toArray t (0,0))):W.rangeAt b (36+q*35) (aF (vs q) (ps q)):=by
 obtain⟨P,R,j,s,-⟩:=KO C lv z;rw[j,List.append_assoc,List.append_assoc,←List.append_assoc A] at h;exact zT h (by rw[List.length_append,x,s];omega)
theorem M7{N:List Value}{b:Nat}{t:TypeId}(h:A.length=35)(j:W.heap[b]?=some (.cells (A++(N++[dv])).toArray t (0,0))):W.rangeAt b 35 N:=zT j h
theorem GU{N:List Value}{b:Nat}{t:TypeId}(j:A.length=35)(s:N.length=141)(h:W.heap[b]?=some (.cells (A++(N++[dv])).toArray t (0,0))):W.cell? ⟨b,176,none⟩=some dv:=by
 refine aD h ?_;rw[List.getElem?_toArray,List.getElem?_append_right (by omega),List.getElem?_append_right (by omega),show 176-A.length-N.length=0 by omega];rfl
theorem ON{lv:Int}(C:A.length=35)(j:dM w vs ps)(b:q<4)(E:p.sum.length=32):spl (A++(bU lv vs ps++[dv])).toArray (36+q*35) (aF v p)=(A++(bU lv (fT vs q v) (fT ps q p)++[dv])).toArray:=by
 obtain⟨P,R,s,x,z⟩:=KO j lv b;have F:=aJ (v:=vs q) (j q b).sum;have l2:=aJ (v:=v) E;have h:=jA (A++P) (aF (vs q) (ps q)) (aF v p) (R++[dv]) (by rw[F,l2]);rw[List.length_append,C,x,show 35+(1+q*35)=36+q*35 by omega] at h;rw[s,z,List.append_assoc,List.append_assoc,List.append_assoc,List.append_assoc,←List.append_assoc A,←List.append_assoc A,h]
theorem Loc.round{K:World}{R U:Nat}{c4 V c8 X E c12 F G:Array Value}{t4 t5 t8 t9 s z:TypeId}
 (h:Loc B B0 w W0 [(b12,c12,z),(b10,E,s),(b9,X,t9),(b8,c8,t8),(U,V,t5),(R,c4,t4)]) (h12:K.heap[b12]?=some (.cells G z (0,0))) (h10:K.heap[b10]?=some (.cells F s (0,0)))
 (Y:∀i,B' i->B0 i\/W0.heap.size≤i) (qa:∀i,B0 i->B i\/w.heap.size≤i) (J:aA (fun i=>B0 i\/i=b10\/i=b12) W0 K) :
 Loc B B' w K [(b12,G,z),(b10,F,s),(b9,X,t9),(b8,c8,t8),(U,V,t5),(R,c4,t4)]:=by
 have I:=h.ge _ (List.mem_of_getElem? (i:=0) rfl);have H:=h.ge _ (List.mem_of_getElem? (i:=1) rfl);refine⟨h.keep.tT J fun i hi e=>?_,fun x j=>?_,h.nd,fun x j=>?_,fun x j e=>?_⟩
 ·rcases e with e|e|e
  ·exact(qa i e).elim id fun e=>absurd hi (by omega)
  ·subst e;exact absurd hi (by have:=H;dsimp only at this;omega)
  ·subst e;exact absurd hi (by have:=I;dsimp only at this;omega)
 ·simp only[List.mem_cons,List.not_mem_nil,or_false] at j
  rcases j with rfl|rfl|rfl|rfl|rfl|rfl
  ·exact I
  ·exact H
  ·exact h.ge _ (List.mem_of_getElem? (i:=2) rfl)
  ·exact h.ge _ (List.mem_of_getElem? (i:=3) rfl)
  ·exact h.ge _ (List.mem_of_getElem? (i:=4) rfl)
  ·exact h.ge _ (List.mem_of_getElem? (i:=5) rfl)
 ·simp only[List.mem_cons,List.not_mem_nil,or_false] at j
  rcases j with rfl|rfl|rfl|rfl|rfl|rfl
  ·exact h12
  ·exact h10
  ·exact J.blk (h.b 2) fun C=>C.elim ((h.aq 2)) fun e=>e.elim (fun e=>bH (i:=1) h.nd rfl 2 (by decide) rfl e) fun e=>bH (i:=0) h.nd rfl 2 (by decide) rfl e
  ·exact J.blk (h.b 3) fun C=>C.elim ((h.aq 3)) fun e=>e.elim (fun e=>bH (i:=1) h.nd rfl 3 (by decide) rfl e) fun e=>bH (i:=0) h.nd rfl 3 (by decide) rfl e
  ·exact J.blk (h.b 4) fun C=>C.elim ((h.aq 4)) fun e=>e.elim (fun e=>bH (i:=1) h.nd rfl 4 (by decide) rfl e) fun e=>bH (i:=0) h.nd rfl 4 (by decide) rfl e
  ·exact J.blk (h.b 5) fun C=>C.elim ((h.aq 5)) fun e=>e.elim (fun e=>bH (i:=1) h.nd rfl 5 (by decide) rfl e) fun e=>bH (i:=0) h.nd rfl 5 (by decide) rfl e
 ·have ap:∀(i:Nat) (x:Nat×Array Value×TypeId),([(b12,c12,z),(b10,E,s),(b9,X,t9),(b8,c8,t8),(U,V,t5),(R,c4,t4)]:List (Nat×Array Value×TypeId))[i]?=some x->¬B' x.1:=fun i x j e =>
   (Y _ e).elim (h.ap _ (List.mem_of_getElem? j)) fun e2=>by have:=lt_of_block (h.b i (b:=x.1) (cs:=x.2.1) (t:=x.2.2) j);omega
  simp only[List.mem_cons,List.not_mem_nil,or_false] at j;rcases j with rfl|rfl|rfl|rfl|rfl|rfl
  ·exact ap 0 _ rfl e
  ·exact ap 1 _ rfl e
  ·exact ap 2 _ rfl e
  ·exact ap 3 _ rfl e
  ·exact ap 4 _ rfl e
  ·exact ap 5 _ rfl e
theorem bS.keepT{T:Nat->Prop}(h:bS w B vs ps)(k:aA T w w')(j:∀q,q<4->∀i,(vs q).ownBlock=some i->¬T i):bS w' B vs ps:=fun q b=>(h q b).keepT k (j q b)
theorem bS.upd{k:Nat->Tr}(h:bS w B vs (fun i=>(k i).ptr))(j:aX w B v u.ptr):bS w B (fT vs d v) (fun i=>(eV k d u i).ptr):=fun q b=>by
 show aX w B (fT vs d v q) (eV k d u q).ptr
 by_cases e:q=d
 ·subst e;rw[oH,fE];exact j
 ·rw[oI _ _ e,eF _ _ e];exact h q b
theorem Cl.onT{T:Nat->Prop}(h:Cl w w1 B B')(k:aA T w1 w2)(j:∀i,B' i->¬T i):Cl w w2 B B':=fun i b=>(h i b).imp (fun c=>c.keep k (j i b)) id
theorem bI.upon{wd W:World}{U:Nat->Prop}{C:Value}
 (H:e=.returned (.tuple #[.agg (aF v (eS r)).toArray,.int .i64 (fG r)])) (J:aX W' B' v (eS r)) (E:KI W' c T B') (I:v=C\/dQ w v)
 (b:∀i,B0 i->B i\/w.heap.size≤i) (j:∀i,B' i->B0 i\/W0.heap.size≤i) (h0:aA aB w wd) (s:Cl wd W0 B B0) (G:∀i,B' i->IsC W' i\/i<W0.heap.size/\B0 i/\¬IsC W0 i)
 (z:aA B w W0) (K:aA U W0 W') (F:∀i,U i->B0 i\/w.heap.size≤i):bI w c B C r T e W':=
 ⟨v,B',H,J,E,fun i h=>(j i h).elim (b i) fun e=>.inr (Nat.le_trans z.size e),((Cl.refl w wd B h0).trans s).trans fun i h=>(G i h).imp id fun h=>h.2,I,z.tT K fun i x h=>(F i h).elim (fun h=>(b i h).elim id fun h=>absurd x (by omega)) fun h=>absurd x (by omega)⟩
def sec(b:UInt8):List UInt8:=List.replicate 256 b
theorem gW(b:UInt8):(sec b).length=256:=List.length_replicate
theorem GV{a b:UInt8}(h:sec a=sec b):a=b:=by
 have:=congrArg (fun l=>l.getD 0 0) h
 simpa [sec] using this
def nG(t:Tr)(bl:Nat->UInt8):Prop:=∀i,i<64->t.blk 3 i=sec (bl i)
theorem nG.hole:nG .hole fun _=>0:=fun i _=>Tr.blk_hole 3 i
theorem Cm(z:S.Bd)(C:Tr.Ok S 3 t)(I:n<64){b:List UInt8}(H:b.length=256)(h:oJ S t n b=(r,T)) :
 Beh S T/\∀u,r=some u->Tr.Ok T 3 u/\∀i,i<64->u.blk 3 i=if i=n then b else t.blk 3 i:=by
 unfold oJ at h
 by_cases c:t.blk 3 n=b
 ·rw[if_pos c] at h
  injection h with j s
  subst j s;refine⟨Beh.refl z,fun u x=>?_⟩;cases x
  refine⟨C,fun i _=>?_⟩
  by_cases e:i=n
  ·rw[if_pos e,e];exact c
  ·rw[if_neg e]
 ·rw[if_neg c] at h
  obtain⟨j,s⟩:=qP H n (Nat.le_refl 3) z C h;refine⟨j,fun u x=>?_⟩;obtain⟨E,F,-⟩:=s u x;refine⟨E,fun i G=>?_⟩;rw[F,show (4:Nat) ^ 3=64 from rfl,Nat.mod_eq_of_lt G,Nat.mod_eq_of_lt I]
theorem Bq{b:List UInt8}(h:S.room (N+4))(s:b≠zB)(j:t.blk 3 n≠b):∃u T,oJ S t n b=(some u,T)/\T.room N/\u.isHole=false:=by
 unfold oJ;rw[if_neg j];exact CS s n 3 t h
theorem nG.set(h:nG t bl){b:UInt8}(s:∀i,i<64->u.blk 3 i=if i=n then sec b else t.blk 3 i):nG u fun i=>if i=n then b else bl i:=fun i j=>by
 rw[s i j];show _=sec (if i=n then b else bl i)
 by_cases e:i=n
 ·rw[if_pos e,if_pos e]
 ·rw[if_neg e,if_neg e,h i j]
theorem OO(z:S.Bd)(E:Tr.Ok S 3 t)(h:cF 3 S t (f:Int) (g:Int)=(r,T)) :
 Beh S T/\∀u,r=some u->Tr.Ok T 3 u/\∀i,i<64->u.blk 3 i=if f≤i/\i<g then zB else t.blk 3 i:=by
 obtain⟨b,j⟩:=tO (Nat.le_refl 3) z E h;refine⟨b,fun u F=>?_⟩;obtain⟨s,x,-⟩:=j u F;refine⟨s,fun i C=>?_⟩;rw[x,show (4:Nat) ^ 3=64 from rfl,Nat.mod_eq_of_lt C]
 by_cases e:f≤i/\i<g
 ·rw[if_pos e,if_pos (by omega)]
 ·rw[if_neg e,if_neg (by omega)]
theorem nG.cut(h:nG t bl)(j:∀i,i<64->u.blk 3 i=if f≤i/\i<g then zB else t.blk 3 i):nG u fun i=>if f≤i/\i<g then 0 else bl i:=fun i b=>by
 rw[j i b];show _=sec (if f≤i/\i<g then 0 else bl i)
 by_cases e:f≤i/\i<g
 ·rw[if_pos e,if_pos e];rfl
 ·rw[if_neg e,if_neg e,h i b]
structure EdV where
 n:Int
 many:Int
 cut:Bool
 b:UInt8
def EdV.fr(x:EdV):Nat:=(x.n % 64).toNat
def EdV.up(x:EdV):Nat:=min (x.fr+(x.many % 65).toNat) 64
theorem EdV.frLt(x:EdV):x.fr<64:=by
 unfold EdV.fr;have:=Int.emod_lt_of_pos x.n (show (0:Int)<64 by omega);have:=Int.emod_nonneg x.n (show (64:Int)≠0 by omega);omega
theorem EdV.frInt(x:EdV):x.n % 64=(x.fr:Int):=by
 unfold EdV.fr;have:=Int.emod_nonneg x.n (show (64:Int)≠0 by omega);omega
theorem EdV.upInt(x:EdV):min ((x.fr:Int)+x.many % 65) 64=(x.up:Int):=by
 unfold EdV.up;have:=Int.emod_nonneg x.many (show (65:Int)≠0 by omega);omega
theorem EdV.frUp(x:EdV):x.fr≤x.up/\x.up≤64:=by
 have:=x.frLt;unfold EdV.up;omega
def Qp(bl:Nat->UInt8)(f g:Nat):Nat->UInt8:=fun i=>if f≤i/\i<g then 0 else bl i
def vL(bl:Nat->UInt8)(n:Nat)(b:UInt8):Nat->UInt8:=fun i=>if i=n then b else bl i
def edB(x:EdV)(bl:Nat->UInt8):Nat->UInt8:=if x.cut then Qp bl x.fr x.up else vL bl x.fr x.b
def edR(S:Kor)(t:Tr)(x:EdV):Option Tr×Kor:=if x.cut then cF 3 S t (x.fr:Int) (x.up:Int) else oJ S t x.fr (sec x.b)
theorem Br(s:S.Bd)(C:Tr.Ok S 3 t)(j:nG t bl){x:EdV}(h:edR S t x=(r,T)) :
 Beh S T/\∀u,r=some u->Tr.Ok T 3 u/\nG u (edB x bl):=by
 unfold edR at h;unfold edB;cases z:x.cut with
 | true =>
   rw[z] at h;have q:=OO s C h;exact⟨q.1,fun u b=>⟨(q.2 u b).1,j.cut (q.2 u b).2⟩⟩
 | false =>
   rw[z] at h;have q:=Cm s C x.frLt (gW x.b) h;exact⟨q.1,fun u b=>⟨(q.2 u b).1,j.set (q.2 u b).2⟩⟩
def blC(bl:Nat->UInt8):List Value:=(List.range 64).map fun i=>vb (bl i)
theorem jZ(bl:Nat->UInt8):(blC bl).length=64:=by unfold blC;simp
theorem OP(bl:Nat->UInt8)(h:i<64):(blC bl)[i]?=some (vb (bl i)):=by
 unfold blC;rw[List.getElem?_map,List.getElem?_range h];rfl
theorem OQ(bl:Nat->UInt8):∀u∈blC bl,u.oneCell'=true:=by
 intro u b;unfold blC at b;obtain⟨i,-,rfl⟩:=List.mem_map.1 b;rfl
theorem OR(bl:Nat->UInt8)(x:n<64)(b:UInt8):spl (blC bl).toArray n [vb b]=(blC (vL bl n b)).toArray:=by
 show (blC bl).toArray.setIfInBounds n (vb b)=_;rw[List.setIfInBounds_toArray]
 congr 1
 refine List.ext_getElem (by rw[List.length_set,jZ,jZ]) fun i j s=>?_
 rw[List.getElem_set];have q:∀f h,(blC f)[i]'h=vb (f i):=fun f h=>by simp[blC]
 rw[q,q];unfold vL
 by_cases e:n=i
 ·rw[if_pos e,if_pos e.symm]
 ·rw[if_neg e,if_neg (fun h=>e h.symm)]
theorem KR(f:Nat->Value)(d n c s l:Int):prog.built 192 [(0,.agg ((List.range 32).map f).toArray),(1,.int .i64 d),(2,.int .i64 n),(3,.int .i64 c),(4,.int .i64 s),(5,.int .i64 l)]=some ((List.range 32).map f++([.int .i64 d,.int .i64 n,.int .i64 c,.int .i64 s,.int .i64 l]:List Value)).toArray:=by kernel_rfl
theorem KS(L:Lab)(h:L.pool.length=32)(w:World):(Instr.build 192 #[(0,.agg (L.pool.map vb).toArray),(1,.int .i64 L.dev),(2,.int .i64 L.devs),(3,.int .i64 L.copies),(4,.int .i64 L.sectors),(5,.int .i64 L.life)]).run prog w=.ok (.agg L.cells.toArray) w:=by
 refine run_build w 192 _ _ ?_;unfold Lab.cells Lab.nums;rw[Ce (L.pool.map vb) (by rw[List.length_map,h])];exact KR _ _ _ _ _ _
def iS(b:List UInt8)(Mm:Nat->Nat->List UInt8)(d:Nat):Nat->Nat->Nat->List UInt8
 | 0=>Mm
 | k+1=>gO (iS b Mm d k) d k (if k=0 then b else zB)
theorem KT(b:List UInt8)(Mm:Nat->Nat->List UInt8)(d:Nat):gO Mm d 0 b=iS b Mm d 1:=rfl
theorem IZ(b:List UInt8)(Mm:Nat->Nat->List UInt8)(d:Nat)(h:0<k):gO (iS b Mm d k) d k zB=iS b Mm d (k+1):=by
 show _=gO (iS b Mm d k) d k (if k=0 then b else zB);rw[if_neg (by omega)]
theorem Bt(b:List UInt8)(Mm:Nat->Nat->List UInt8)(d:Nat):∀k,0<k->iS b Mm d k d 0=b
 | 1,_=>by show gO Mm d 0 b d 0=b;unfold gO;rw[if_pos ⟨rfl,rfl⟩]
 | k+2,_=>by
   show gO (iS b Mm d (k+1)) d (k+1) _ d 0=b;unfold gO;rw[if_neg (by omega)];exact Bt b Mm d (k+1) (by omega)
theorem zU(b:List UInt8)(Mm:Nat->Nat->List UInt8)(d:Nat){e s:Nat}(h:e≠d):∀k,iS b Mm d k e s=Mm e s
 | 0=>rfl
 | k+1=>by
   show gO (iS b Mm d k) d k _ e s=_;unfold gO;rw[if_neg (by omega)];exact zU b Mm d h k
def E7(w:World)(a:Nat)(B:Nat->Prop)(D Z:Nat)(Mm:Nat->Nat->List UInt8)(nw d:Nat)(b:List UInt8)(k:Nat)(w':World):Prop:=
 ∃B',bP w' a B' D Z (iS b Mm d k) (nw+k)/\(∀i,B' i->B i\/w.heap.size≤i)/\aA B w w'
theorem E7.next{b j:List UInt8}(x:∀i,B' i->B i\/w.heap.size≤i)(C:aA B w w1)(h:kP w1 a B' D Z (iS b Mm d k) (nw+k) d k j e w2)(H:gO (iS b Mm d k) d k j=iS b Mm d (k+1)):E7 w a B D Z Mm nw d b (k+1) w2:=by
 obtain⟨-,E,s,F,G⟩:=h;rw[H] at s;refine⟨E,s,fun i z=>?_,C.tT G fun i z e=>?_⟩
 ·rcases F i z with h|h
  ·exact x i h
  ·exact .inr (Nat.le_trans C.size h)
 ·rcases x i e with h|h
  ·exact h
  ·omega
def E8(w:World)(a:Nat)(B:Nat->Prop)(D Z:Nat)(Mm:Nat->Nat->List UInt8)(nw d:Nat)(b:List UInt8)(e:Ending)(w':World):Prop:=
 e=.returned (.int .i64 0)/\∃B' h,bP w' a B' D Z (iS b Mm d 5) h/\h≤nw+5/\(∀k,B' k->B k\/w.heap.size≤k)/\aA B w w'
theorem M8{t:Lst}(h:bB w c a m pid cp lv gv t)(ha:bP w a B D Z Mm nw)(hd:d<D)(qv:¬B c)(qy:∀i,B i->¬t.Own i)(qi:1≤cp/\cp≤3/\cp≤D)(hn:nw<1000000):Calls prog 83 #[.pointer c,.int .i64 (d:Int),.int .i64 0] w (E8 w a B D Z Mm nw d (eH (dL pid d D cp Z))):=by
 have qg:=ha.bd;have HM:Hid ((dL pid d D cp Z).may=true):=O (vE hd qg qi.1 qi.2.1 qi.2.2);have qm:=O h.idl;have zf:(pid.map vb).length=32:=by rw[List.length_map];exact h.idl
 have ql:=O (fun w=>KS (dL pid d D cp Z) h.idl w);have qd:=O (xS (dL pid d D cp Z) h.idl HM.out);obtain⟨b,qh⟩:=zX9 (eH (dL pid d D cp Z))
 obtain⟨lc,qk⟩:=zX9 ((dL pid d D cp Z).cells)
 have q9:=O qk;have q1:=O qh;rw[qh] at qd ⊢;rw[qk] at ql;have X:=O h;have J:=O ha;have HD:=O hd;have q5:=O qv;have ze:=O qy;have qz:=J;have q3:=X;have j:=lN w;have zi:8≤Z:=qg.2.2.1;clear h ha qh qk qg qv qy;go_in;go_wp2_with fail;refine dwA aB (by kernel_rfl) ?_;intro w1 S H Y C qb;replace j:=kL j qb;replace X:=O (X.keep0 qb);replace J:=O (J.keep0 qb);clear qb;have za:=j;have U:=X;have q0:=J;refine tna 0 (.pointer c) rfl C ?_;refine tnb 1 (.pointer c) rfl C ?_;refine tnb 2 (.pointer (some ⟨c,2,none⟩)) rfl C ?_;refine tnd 3 (.agg (pid.map vb).toArray) rfl (yieldsIf_load_mid (by rfl) 25 (.tmp 14) rfl c 2 rfl (pid.map vb) _ (fun w' h=>(H w' h).rangeAt (bB.id_ U.out)) underlying25 rfl (by rw[zf];exact xI)) C ?_;refine tna 4 (.int .i64 (d:Int)) rfl C ?_;refine tna 5 (.pointer c) rfl C ?_;refine tnb 6 (.pointer c) rfl C ?_;refine tnb 7 (.pointer c) rfl C ?_;refine tnd 8 (.pointer a) rfl (.inl ⟨by rfl,fun w' V=>by have c:World.cell? w' ⟨c,0,none⟩=some (.pointer a):=(H w' V).cell (bB.c0 U.out) id;go_simp⟩) C ?_;refine tna 10 (.pointer c) rfl C ?_;refine tnb 11 (.pointer c) rfl C ?_;refine tnb 12 (.pointer (some ⟨c,34,none⟩)) rfl C ?_;refine tnd 13 (.int .i64 (cp:Int)) rfl (.inl ⟨by rfl,fun w' V=>by have c:World.cell? w' ⟨c,34,none⟩=some (.int .i64 (cp:Int)):=(H w' V).cell (bB.cp_ U.out) id;go_simp⟩) C ?_;refine tna 14 (.pointer c) rfl C ?_;refine tnb 15 (.pointer c) rfl C ?_;refine tnb 16 (.pointer c) rfl C ?_;refine tnd 17 (.pointer a) rfl (.inl ⟨by rfl,fun w' V=>by have c:World.cell? w' ⟨c,0,none⟩=some (.pointer a):=(H w' V).cell (bB.c0 U.out) id;go_simp⟩) C ?_;refine tna 19 (.int .i64 0) rfl C ?_;refine wA9 9 ?_;go_wp2_with fail;refine(lS J.out).mono ?_;rintro e w2 ⟨rfl,z⟩;have qe:=Y.out _ ((H _ C).trans z);replace j:=kL j z;replace X:=O (X.keep0 z);replace J:=O (J.keep0 z);clear C z;go_wp2_with fail;refine⟨qe,?_⟩;refine wA9 18 ?_;go_wp2_with fail;refine(xN J.out).mono ?_;rintro e w3 ⟨rfl,z⟩;have qa:=Y.out _ ((H _ qe).trans z);replace j:=kL j z;replace X:=O (X.keep0 z);replace J:=O (J.keep0 z);clear qe z;go_wp2_with fail;refine⟨qa,?_⟩;refine tnd 20 (.agg lc.toArray) rfl (fI 192 #[(0,.tmp 15),(1,.tmp 16),(2,.tmp 21),(3,.tmp 25),(4,.tmp 30),(5,.tmp 31)] [(0,.agg (pid.map vb).toArray),(1,.int .i64 (d:Int)),(2,.int .i64 (D:Int)),(3,.int .i64 (cp:Int)),(4,.int .i64 (Z:Int)),(5,.int .i64 0)] (.agg lc.toArray) ql.out) qa ?_;refine wA9 21 ?_;go_wp2_with fail;have qn:=O j.keep.size;refine((by rw[←q9.out];exact ES (dL pid d D cp Z) qm.out w3:Ka w3 (ER w3 (dL pid d D cp Z)))).mono ?_;rintro e w4 ⟨v1,rfl,ho,z⟩;rw[HM.out,if_pos rfl];rw[q1.out,qd.out] at ho;obtain⟨la,R,rfl,-,-⟩:=(Rd.of_owns ho).form;have HO:=O ho;clear ho;have I:=Y.out _ ((H _ qa).trans z);replace j:=kL j z;replace X:=O (X.keep0 z);replace J:=O (J.keep0 z);clear qa z;go_wp2_with fail;refine⟨I,?_⟩;refine tna 22 (.tuple #[.slice la 256 R,.int .i64 0]) rfl I ?_;refine tnb 23 (.slice la 256 R) rfl I ?_;refine tnb 24 (.int .i64 0) rfl I ?_;refine tna 25 (.slice la 256 R) rfl I ?_;refine tna 26 (.int .i64 0) rfl I ?_;refine wpAnyH_done (by kernel_rfl) ?_ _;clear I H Y za U q0;go_wp2_with fail;have qo:=O j.keep;have zd:Hid (∀i,(Value.slice la 256 R).ownBlock=some i->¬B i):=O (fun i hi e=>by have h1:=aU HO.out hi;have h2:=qz.lt e;have h3:=qn.out;omega);clear j
 go_loopw [7,39] (fun u i wr=>∃k:Nat,k≤5/\i=.int .i64 k/\(∃ua un uc,u=.slice ua un uc/\((k=0/\la=ua/\256=un/\R=uc)\/0<k))/\Hid (E7 w a B D Z Mm nw d b k wr)/\Hid (k=0->aA aB w4 wr)) (fun _ i _=>5-(intOf i).toNat)
 case atStart=>exact⟨0,by omega,rfl,⟨_,_,_,rfl,.inl ⟨rfl,rfl,rfl,rfl⟩⟩,O ⟨B,J.out,fun i h=>.inl h,qo.any⟩,O fun _=>aA.refl _ _⟩
 case round =>
  obtain⟨k,z,rfl,⟨ua,un,uc,rfl,hu⟩,HI,qc⟩:=hrel;obtain⟨B2,qf,qq,qj⟩:=HI.out;have x:=O qf;have E:=O qq;have F:=O qj;have G:=O (q3.keep qj q5.out ze.out);have K:=O (fun i (e:B2 i)=>qf.lt e);clear qf qq qj HI
  by_cases zl:k<5
  ·have zj:(0:Int)≤(k:Int):=by omega
   have zk:(k:Int)<5:=by omega
   have j:=lN wr;rcases hu with⟨rfl,rfl,rfl,rfl⟩|zg
   ·clear x E F K
    have x:=O (J.keep0 (qc.out rfl));have E:Hid (∀i,B i->B i\/w.heap.size≤i):=O (fun i h=>.inl h);have F:Hid (aA B w wr):=O (qo.trans (qc.out rfl)).any;have K:=O (fun i (e:B i)=>x.lt e);have zb:=O ((qc.out rfl).owns HO.out fun _ _=>id);have c1:wr.cell? ⟨c,0,none⟩=some (.pointer a):=(bB.c0 G.out)
    go_wp2_with fail;clear c1;refine(qK (s:=0) x.out HD.out (by omega) b qd.out (.slice la 256 R) (Rd.of_owns zb.out) zd.out (by omega)).mono ?_;rintro e w5 hm;have HE:=O (E7.next E.out (F.trans j.keep.any) hm (KT b Mm d));obtain⟨rfl,-⟩:=hm;clear j G x E F K;go_wp2
    go_roundw
    case rel=>exact⟨0+1,by omega,by go_num,⟨_,_,_,rfl,.inr (by omega)⟩,HE,O fun h=>by omega⟩
    case measure=>simp[intOf]
   ·have zm:(0:Int)<(k:Int):=by omega
    go_wp2_with ((with_reducible show WL _ _);refine mkz (.const (.int .i64 256)) (.const (.int .i64 256)) ?_)
    intro qp w5 qu z hb;replace j:=lW j qu z hb;replace G:=O (G.keep0 z);replace x:=O (x.keep0 z);clear qu z hb;have c1:w5.cell? ⟨c,0,none⟩=some (.pointer a):=(bB.c0 G.out)
    go_wp2_with fail;clear c1;refine(qK (s:=k) x.out HD.out (by omega) zB rfl (.slice qp 256 256) (Rd.of_owns (oG (base:=0) (j.b 0) rfl (Nat.zero_le _))) (fun i hi e=>by have h8:=K.out _ e;have h9:=(j.lt 0).1;have h7:i=qp:=(by cases hi;rfl);omega) (by omega)).mono ?_;rintro e w6 hm;have HE:=O (E7.next E.out (F.trans j.keep.any) hm (IZ b Mm d zg));obtain⟨rfl,-⟩:=hm;clear j G x E F K;go_wp2
    go_roundw
    case rel=>exact⟨k+1,by omega,by go_num,⟨_,_,_,rfl,.inr (by omega)⟩,HE,O fun h=>by omega⟩
    case measure=>simp[intOf];omega
  ·obtain rfl:k=5:=by omega
   clear hu;have j:=lN wr;have c1:wr.cell? ⟨c,0,none⟩=some (.pointer a):=(bB.c0 G.out)
   go_wp2_with fail;clear c1;refine(Bg x.out HD.out (by omega)).mono ?_;rintro e w5 ⟨rfl,B3,zh,qt,qx,qr,qw⟩;have HP:Hid (E8 w a B D Z Mm nw d b (.returned (.int .i64 0)) w5):=O ⟨rfl,B3,zh,qt,qx,fun i hi=>(qr i hi).elim (E i) (fun h=>.inr (Nat.le_trans (F.trans j.keep.any).size h)),(F.trans j.keep.any).tT qw (fun i hi e=>(E i e).elim id fun h=>by omega)⟩;clear qt qx qr qw j G x E F K;go_wp2;go_ret;exact HP.out
theorem PK(z:2≤D/\D≤8/\8≤Z/\Z≤4096)(v:Value)(s:Rd w 2 v 0 []):Calls prog 121 #[.int .i64 (D:Int),.int .i64 (Z:Int),v] w (fun e w'=>∃g b x,e=.returned (.tuple #[.pointer (some ⟨g,0,none⟩),.int .i64 0])/\dU w' w.heap.size g b x D Z []/\aA aB w w'):=by
 refine(I0 w (D:Int) (Z:Int) v [] s).mono fun e w' h=>?_
 have j:vM (D:Int) (Z:Int) []=true:=by unfold vM;simp;omega
 unfold qR at h;rw[if_pos j] at h;exact h
def I2(w:World)(D Z:Nat)(e:Ending)(w':World):Prop:=∃g b h,e=.returned (.tuple #[.pointer (some ⟨g,0,none⟩),.int .i64 0])/\dU w' w.heap.size g b h D Z []/\aA aB w w'
def C9(w:World)(c a m:Nat)(pid:List UInt8)(cp:Nat)(lv:Value)(D Z:Nat)(e:Ending)(w':World):Prop:=
 e=.returned (.tuple #[])/\∃g b h,bB w' c a m pid cp lv (.pointer (some ⟨g,0,none⟩)) pX/\dU w' 0 g b h D Z []/\(∀k,Own g b h D k->w.heap.size≤k)/\aA (fun k=>k=c) w w'
theorem PL(a m:Nat)(pid:List UInt8)(s:pid.length=32)(cp:Nat)(lv gv b:Value)(t:Lst):spl (fP a m pid cp lv gv t).toArray 36 [b]=(fP a m pid cp lv b t).toArray:=by
 have h:=jA (.pointer a::.pointer m::(pid.map vb++[.int .i64 (cp:Int),lv])) [gv] [b] (t.ov::t.vv::hE t) rfl;have j:(.pointer a::.pointer m::(pid.map vb++[.int .i64 (cp:Int),lv])).length=36:=by simp[s]
 rw[j] at h;unfold fP
 simpa [List.append_assoc] using h
theorem PM(a m:Nat)(pid:List UInt8)(s:pid.length=32)(cp:Nat)(lv b gv:Value)(t:Lst):spl (fP a m pid cp lv gv t).toArray 35 [b]=(fP a m pid cp b gv t).toArray:=by
 have h:=jA (.pointer a::.pointer m::(pid.map vb++[.int .i64 (cp:Int)])) [lv] [b] (gv::t.ov::t.vv::hE t) rfl;have j:(.pointer a::.pointer m::(pid.map vb++[.int .i64 (cp:Int)])).length=35:=by simp[s]
 rw[j] at h;unfold fP
 simpa [List.append_assoc] using h
def lQ(w:World)(c a m:Nat)(pid:List UInt8)(cp:Nat)(lv:Value):Prop:=∃gv,bB w c a m pid cp lv gv pX
theorem lQ.keep0(h:lQ w c a m pid cp lv)(k:aA aB w w'):lQ w' c a m pid cp lv:=h.imp fun _ h=>h.keep0 k
theorem lQ.c0(h:lQ w c a m pid cp lv):w.cell? ⟨c,0,none⟩=some (.pointer a):=h.elim fun _ h=>h.c0
theorem lQ.old_(h:lQ w c a m pid cp lv):w.cell? ⟨c,37,none⟩=some (.slice none 0 0):=h.elim fun _ h=>h.old_
theorem lQ.live_(h:lQ w c a m pid cp lv):w.cell? ⟨c,38,none⟩=some (.slice none 0 0):=h.elim fun _ h=>h.live_
theorem dU.low{lo b s:Nat}{x:Nat->Option Nat}{L:List Ad}(h:dU w lo g s x D Z L)(j:b≤lo):dU w b g s x D Z L:=⟨h.top,h.words,h.chans,h.inj,h.bd,Nat.le_trans j h.lo.1,Nat.le_trans j h.lo.2.1,fun d k z C=>Nat.le_trans j (h.lo.2.2 d k z C)⟩
theorem KX(h:bB w c a m pid cp lv gv pX)(ha:bP w a B D Z Mm nw)(qe:¬B c):Calls prog 84 #[.pointer c] w (C9 w c a m pid cp lv D Z):=by
 have qd:=ha.bd;have qh:=O qd;have I:=O h.idl;have qa:=O (lt_of_block h.top);have C:=O h;have G:=O ha;have H:=lN w;have qm:Hid (∀i,i=c->¬B i):=O fun i e=>e▸qe
 clear h ha qd qe;go_in;go_wp2_with fail;obtain⟨S,R⟩:∃S:World->Prop,S=fun w'=>aA (fun k=>k=c) w.drew w'/\lQ w' c a m pid cp lv:=⟨_,rfl⟩
 have j:=O (show ∀w',S w'->aA (fun k=>k=c) w.drew w'/\lQ w' c a m pid cp lv from fun w' h=>by rw[R] at h;exact h);have E:=O (show ∀w',aA (fun k=>k=c) w.drew w'/\lQ w' c a m pid cp lv->S w' from fun w' h=>by rw[R];exact h);have s:S w.drew:=by rw[R];exact⟨aA.refl _ _,_,C.keep0 (aA.refl aB w).drew⟩
 have J:=(aA.refl aB w).drew;clear R;refine wp_region_held (S:=S) (by kernel_rfl) ?_;change wpAnyH _ _ _ _ _ _ _ _ w.drew;generalize w.drew=w1 at j E s J ⊢;replace H:=kL H J;replace C:=O (C.keep0 J);replace G:=O (G.keep0 J);clear J;have qk:=H;have qi:=C;have qg:=G;refine tna 0 (.pointer c) rfl s ?_;refine tna 1 (.pointer c) rfl s ?_;refine tnb 2 (.pointer c) rfl s ?_;refine tnb 3 (.pointer c) rfl s ?_;refine tnd 4 (.pointer a) rfl (.inl ⟨by rfl,fun w' F=>by have c:World.cell? w' ⟨c,0,none⟩=some (.pointer a):=lQ.c0 (j w' F).2;go_simp⟩) s ?_;refine tna 6 (.pointer c) rfl s ?_;refine tnb 7 (.pointer c) rfl s ?_;refine tnb 8 (.pointer c) rfl s ?_;refine tnd 9 (.pointer a) rfl (.inl ⟨by rfl,fun w' F=>by have c:World.cell? w' ⟨c,0,none⟩=some (.pointer a):=lQ.c0 (j w' F).2;go_simp⟩) s ?_;refine tna 11 (.pointer c) rfl s ?_;refine tnb 12 (.pointer c) rfl s ?_;refine tnb 13 (.pointer (some ⟨c,37,none⟩)) rfl s ?_;refine tnd 14 (.slice none 0 0) rfl (.inl ⟨by rfl,fun w' F=>by have c:World.cell? w' ⟨c,37,none⟩=some (.slice none 0 0):=lQ.old_ (j w' F).2;go_simp⟩) s ?_;refine tna 15 (.pointer c) rfl s ?_;refine tnb 16 (.pointer c) rfl s ?_;refine tnb 17 (.pointer (some ⟨c,38,none⟩)) rfl s ?_;refine tnd 18 (.slice none 0 0) rfl (.inl ⟨by rfl,fun w' F=>by have c:World.cell? w' ⟨c,38,none⟩=some (.slice none 0 0):=lQ.live_ (j w' F).2;go_simp⟩) s ?_;refine wA9 5 ?_;go_wp2_with fail;refine(lS G.out).mono ?_;rintro e w2 ⟨rfl,b⟩;have U:=E.out _ ⟨(j _ s).1.trans b.any,(j _ s).2.keep0 b⟩;replace H:=kL H b;replace C:=O (C.keep0 b);replace G:=O (G.keep0 b);clear s b;go_wp2_with fail;refine⟨U,?_⟩;refine wA9 10 ?_;go_wp2_with fail;refine(xN G.out).mono ?_;rintro e w3 ⟨rfl,b⟩;have V:=E.out _ ⟨(j _ U).1.trans b.any,(j _ U).2.keep0 b⟩;replace H:=kL H b;replace C:=O (C.keep0 b);replace G:=O (G.keep0 b);clear U b;go_wp2_with fail;refine⟨V,?_⟩;refine wA9 19 ?_;go_wp2_with fail;refine(KW w3 (.slice none 0 0) (.slice none 0 0) [] [] (fun x hx=>by cases hx) (fun x hx=>by cases hx) (Rd.nil _ _) (Rd.nil _ _) (by decide)).mono ?_;rintro e w4 ⟨v1,rfl,ho,b⟩;have e0:(dO ([]++[]:List Ad))=[]:=List.eq_nil_iff_forall_not_mem.2 (fun x hx=>by rw[jC] at hx;cases hx);rw[e0] at ho;obtain⟨ua,uc,qf,-,-⟩:=(Rd.of_owns ho).form;have ql:v1=.slice ua 0 uc:=qf;clear qf e0;subst ql;have HO:=O ho;clear ho;have X:=E.out _ ⟨(j _ V).1.trans b.any,(j _ V).2.keep0 b⟩;replace H:=kL H b;replace C:=O (C.keep0 b);replace G:=O (G.keep0 b);clear V b;go_wp2_with fail;refine⟨X,?_⟩;refine wA9 20 ?_;go_wp2_with fail;have qb:=O H.keep.size;refine((PK qh.out _ (Rd.of_owns HO.out):Ka w4 (I2 w4 D Z))).mono ?_;rintro e w5 ⟨g,b2,lc,rfl,Y,b⟩;have K:=O Y;have qn:=O (lt_of_block C.top);clear Y;have z:=E.out _ ⟨(j _ X).1.trans b.any,(j _ X).2.keep0 b⟩;replace H:=kL H b;replace C:=O (C.keep0 b);replace G:=O (G.keep0 b);replace HO:=O (b.owns HO.out fun _ _=>id);clear X b;go_wp2_with fail;refine⟨z,?_⟩;refine tna 21 (.tuple #[.pointer g,.int .i64 0]) rfl z ?_;refine tnb 22 (.pointer g) rfl z ?_;refine tnb 23 (.int .i64 0) rfl z ?_;refine tnb 24 (.pointer c) rfl z ?_;refine tnb 25 (.pointer (some ⟨c,36,none⟩)) rfl z ?_;refine wA9 26 ?_;refine sta 43 (.tmp 27) (.tmp 24) c 36 [.pointer g] C.top (by rw[List.size_toArray,vD I.out rfl];simp) (by kernel_rfl) (one9) ?_;intro w6 b hb;rw[PL _ _ _ I.out] at hb;have qc:S w6:=E.out _ ⟨(j _ z).1.trans b,_,hb,I.out,nD.zero _⟩;have qj:Hid (∀i,i=c->¬Own g b2 lc D i):=O (by rintro i rfl e;have:=(K.own_lt e).1;have:=qa.out;have:=qb.out;omega);have HP:Hid (C9 w c a m pid cp lv D Z (.returned (.tuple #[])) w6):=O ⟨rfl,g,b2,lc,⟨hb,I.out,nD.zero _⟩,(K.keep b qj.out).low (Nat.zero_le _),fun k e=>by have:=(K.own_lt e).1;have:=qb.out;omega,H.keep.any.trans b⟩;clear z b hb;refine wpList_nil ?_;refine⟨qc,?_⟩;refine wpAnyH_done (by kernel_rfl) ?_ _;clear qc j E qk qi qg;clear C G H HO K;go_wp2_with fail
 go_end0
 exact HP.out
theorem mkD(w:World)(D:Nat)(h:D≤8):(Instr.makeSlice 42 (.int .i64 (D:Int)) (.int .i64 (D:Int))).run prog w=.ok (.slice (w.heap.size) D D) (w.alloc (.cells (Array.replicate D (Value.int .i64 0)) 3)):=by
 rcases D with _|_|_|_|_|_|_|_|_|D
 ·kernel_rfl
 ·kernel_rfl
 ·kernel_rfl
 ·kernel_rfl
 ·kernel_rfl
 ·kernel_rfl
 ·kernel_rfl
 ·kernel_rfl
 ·kernel_rfl
 ·omega
theorem mkd{o:Oper}{a:Act}(x y:Operand)(D:Nat)(j:D≤8)(h:∀b w',w.heap.size=b->aA aB w w'->w'.heap[b]?=some (.cells (Array.replicate D (Value.int .i64 0)) 3 (0,0))->wpList prog ops Q vN (a.put o.dst (.slice (some ⟨b,0,none⟩) D D)) w')(E:a.eval x=.int .i64 (D:Int):=by rfl)(F:a.eval y=.int .i64 (D:Int):=by rfl)(z:o.guard=none:=by rfl)(C:o.op=.makeSlice 42 x y:=by rfl):wpList prog ops Q (o::vN) a w:=by
 refine wpList_plain z fun K s=>?_
 unfold Oper.wp execOp;simp only[C,E,F,Sem.run_bind,mkD w D j,Result.andThen_ok];exact s _ _ (h _ _ rfl ((aA.refl _ _).alloc _) (heap_alloc_new _ _))
def E9(P:Nat->List UInt8)(Mm:Nat->Nat->List UInt8):Nat->Nat->Nat->List UInt8
 | 0=>Mm
 | k+1=>iS (P k) (E9 P Mm k) k 5
theorem Da(P:Nat->List UInt8)(Mm:Nat->Nat->List UInt8):∀(k d:Nat),d<k->E9 P Mm k d 0=P d
 | 0,d,h=>by omega
 | k+1,d,h=>by
   show iS (P k) (E9 P Mm k) k 5 d 0=P d
   by_cases e:d=k
   ·subst e;exact Bt _ _ _ 5 (by decide)
   ·rw[zU _ _ _ e];exact Da P Mm k d (by omega)
def DvI(w:World)(a:Nat)(B:Nat->Prop)(D Z:Nat)(P:Nat->List UInt8)(Mm:Nat->Nat->List UInt8)(nw k:Nat)(w':World):Prop:=
 ∃B' b,bP w' a B' D Z (E9 P Mm k) b/\b≤nw+5*k/\(∀i,B' i->B i\/w.heap.size≤i)/\aA B w w'
def tB(w:World)(B:Nat->Prop)(D Z cp:Nat)(e:Ending)(w':World):Prop:=
 ∃c M B',e=.returned (.tuple #[.pointer (some ⟨c,0,none⟩),.int .i64 0])/\KI w' c ⟨D,Z,cp,[],M,0⟩ B'/\(∀k,B' k->B k\/w.heap.size≤k)/\aA B w w'
theorem Gg(ha:bP w a B D Z Mm nw)(pid:List UInt8)(qa:pid.length=32)(cp:Nat)(zl:1≤cp/\cp≤3/\cp≤D)(hn:nw≤1000):Calls prog 44 #[.pointer a,.agg (pid.map vb).toArray,.int .i64 (cp:Int)] w (tB w B D Z cp):=by
 have zk:=ha.bd;have K:=O zk;have zn:(pid.map vb).length=32:=by rw[List.length_map];exact qa
 have J:=O qa;have X:=O zl;have qt:=O (fun i (e:B i)=>ha.lt e);have z:=O ha;have j:=lN w;have zr:¬((D:Int)=0):=by omega
 have zs:¬((cp:Int)<1):=by omega
 have zt:¬((3:Int)<(cp:Int)):=by omega
 have zu:¬((D:Int)<(cp:Int)):=by omega
 clear ha qa;go_in
 go_wp2_with ((with_reducible show WL _ _);refine bxL j 40 (.tmp 0) (#[.pointer a]) ?_)
 intro b3 w1 b j;replace z:=O (z.keep0 b);clear b
 go_wp2_with ((with_reducible show WL _ _);refine bxL j 25 (.tmp 1) ((pid.map vb).toArray) ?_)
 intro b4 w2 b j;replace z:=O (z.keep0 b);clear b;have c1:w2.cell? ⟨b3,0,none⟩=some (.pointer a):=(aD (i:=0) (j.b 1) rfl)
 go_wp2_with fail;clear c1;refine(lS z.out).mono ?_;rintro e w3 ⟨rfl,b⟩;replace j:=kL j b;replace z:=O (z.keep0 b);clear b;have c1:w3.cell? ⟨b3,0,none⟩=some (.pointer a):=(aD (i:=0) (j.b 1) rfl)
 go_wp2_with fail;clear c1;refine(lS z.out).mono ?_;rintro e w4 ⟨rfl,b⟩;replace j:=kL j b;replace z:=O (z.keep0 b);clear b;have c1:w4.cell? ⟨b3,0,none⟩=some (.pointer a):=(aD (i:=0) (j.b 1) rfl)
 go_wp2_with fail;clear c1;refine(CW z.out).mono ?_;rintro e w5 ⟨rfl,b⟩;replace j:=kL j b;replace z:=O (z.keep0 b);clear b;have c1:w5.cell? ⟨b3,0,none⟩=some (.pointer a):=(aD (i:=0) (j.b 1) rfl)
 go_wp2_with ((with_reducible show WL _ _);refine wpList_load_mid rfl 25 (.tmp 4) rfl b4 0 rfl (pid.map vb) _ (aC (j.b 0)) underlying25 rfl (by rw[zn];exact xI) ?_)
 clear c1;have qv:=O j.keep.size;refine(MW z.out pid J.out cp).mono ?_;rintro e w6 ⟨c,m,rfl,hc,hm,q9,ze,zd,b⟩;have HC:=O hc;have HM:=O hm;have H:=O (And.intro (Nat.le_trans qv.out q9) (Nat.le_trans qv.out ze));have qj:=O zd;clear hc hm q9 ze zd;replace j:=kL j b;replace z:=O (z.keep0 b);clear b;go_wp2_with fail;have qu:=O j.keep.size;refine(sG HC.out z.out).mono ?_;rintro e w7 ⟨v1,rfl,ho,b⟩;obtain⟨va,vc,rfl,-,-⟩:=(Rd.of_owns ho).form;have HO:=O ho;clear ho;replace j:=kL j b;replace z:=O (z.keep0 b);replace HC:=O (HC.keep0 b);replace HM:=O (b.blk HM.out id);clear b;go_wp2_with fail;refine(Ga w7 (.slice va D vc) ((List.range D).map fun(i:Nat)=>(i:Int)) (by rw[List.length_map,List.length_range,List.map_map];exact Rd.of_owns HO.out) (by rw[List.length_map,List.length_range];omega) 81 b3 (enters_of func81 (by kernel_rfl) rfl) (fun x hx w' k=>by obtain⟨i,hi,rfl⟩:=List.mem_map.1 hx;have hi:=List.mem_range.1 hi;exact F9 (z.keep0 k) (k.blk (j.b 1) id) (i:Int) (by omega) (by omega))).mono ?_;rintro e w8 ⟨rfl,b⟩;replace j:=kL j b;replace z:=O (z.keep0 b);replace HC:=O (HC.keep0 b);replace HM:=O (b.blk HM.out id);replace HO:=O (b.owns HO.out fun _ _=>id);clear b;have zj:Hid (∀i,(Value.slice va D vc).ownBlock=some i->w.heap.size≤i):=O (fun i hi=>by have:=aU HO.out hi;have:=qu.out;omega);go_wp2_with fail;have R:=O (fun i (h:w.heap.size≤i) (e:B i)=>show False from by have:=qt.out i e;omega);have qo:=O (j.b 1);have zh:=O (j.lt 1).1;have Y:=O j.keep;have V:=O (lt_of_block HC.top);have qe:=O (lt_of_block HM.out);obtain⟨W0,qy⟩:=zX9 w8
 rw[qy] at HC HM z HO qo Y V qe ⊢;clear j qy;have zy:=qt
 go_loopw [46] (fun i wr=>∃k:Nat,k≤D/\i=.int .i64 k/\Hid (DvI W0 a B D Z (fun d=>eH (dL pid d D cp Z)) Mm nw k wr)) (fun i _=>D-(intOf i).toNat)
 case atStart=>exact⟨0,by omega,rfl,O ⟨B,nw,z.out,by omega,fun i h=>.inl h,aA.refl _ _⟩⟩
 case round =>
  obtain⟨k,b,rfl,HI⟩:=hrel;obtain⟨B2,zg,qz,zf,qd,U⟩:=HI.out;have s:=O qz;have qk:=O zf;have qb:=O qd;have I:=O U;have G:=O (HC.keep U (R _ H.1) (fun _ _=>rI));have F:Hid (fF wr m a):=O (U.blk HM.out (R _ H.2));have ql:=O (U.owns HO.out fun i hi=>R.out _ (zj i hi));have C:=O (U.blk qo.out (R _ zh.out));have E:Hid (¬B2 c/\¬B2 m):=O ⟨fun e=>(qd c e).elim (R _ H.1) fun h=>by have:=V.out;omega,fun e=>(qd m e).elim (R _ H.2) fun h=>by have:=qe.out;omega⟩;clear qz zf qd U HI
  by_cases zb:k<D
  ·have zv:(0:Int)≤(k:Int):=by omega
   have zw:(k:Int)<(D:Int):=by omega
   obtain⟨g,o,zp,hv,q1⟩:=oW (Rd.of_owns ql.out) (mH zb)
   have zx:(k:Int)<(vc:Int):=by
    obtain⟨_,a',c',h1,h2,h3,-⟩:=Rd.of_owns ql.out;cases h1;omega
   have zq:=O hv;obtain rfl:va=some ⟨g,o,none⟩:=by cases hv;rfl
   have HX:=O q1;clear hv q1;have c1:wr.cell? ⟨g,o+k,none⟩=some (.int .i64 (k:Int)):=HX.out;go_wp2_with fail;clear c1;refine(M8 G.out s.out zb E.1 (fun _ _=>rI) X.out (by have:=qk.out;omega)).mono ?_;rintro e w5 ⟨rfl,B3,zo,q0,zm,qw,za⟩;have HE:Hid (DvI W0 a B D Z (fun d=>eH (dL pid d D cp Z)) Mm nw (k+1) w5):=O ⟨B3,zo,q0,by have:=qk.out;omega,fun i hi=>(qw i hi).elim (qb i) (fun h=>.inr (Nat.le_trans I.size h)),I.tT za (fun i hi e=>(qb i e).elim id fun h=>by omega)⟩;clear q0 zm qw za G F ql C s qb I HX;go_wp2
   go_roundw
   case rel=>exact⟨k+1,by omega,by go_num,HE⟩
   case measure=>simp[intOf];omega
  ·obtain rfl:D=k:=by omega
   have j:=lN wr;have zi:=O (fun i (e:B2 i)=>s.lt e);have qx:D≤8:=K.2.1;have c1:wr.cell? ⟨b3,0,none⟩=some (.pointer a):=(aD (i:=0) C.out rfl)
   go_wp2_with fail;clear c1;refine(lS s.out).mono ?_;rintro e we ⟨rfl,b⟩;replace j:=kL j b;replace s:=O (s.keep0 b);replace G:=O (G.keep0 b);replace F:=O (b.blk F.out id);replace C:=O (b.blk C.out id);clear b
   go_wp2_with ((with_reducible show WL _ _);refine mkd (.tmp 59) (.tmp 59) D qx ?_)
   intro qm wf q3 b hb;replace j:=lW j q3 b hb;replace s:=O (s.keep0 b);replace G:=O (G.keep0 b);replace F:=O (b.blk F.out id);replace C:=O (b.blk C.out id);clear q3 b hb;have qr:=O j.keep;have qp:=O (j.b 0);have qc:=O (j.lt 0).1
   go_wp2_with ((with_reducible show WL _ _);refine sta 42 (.tmp 62) (.tmp 60) c 35 [.slice qm D D] G.top (by rw[List.size_toArray,vD J.out rfl];simp) (by kernel_rfl) (one9) ?_)
   intro w8 b hb;rw[PM _ _ _ J.out] at hb;have qq:Hid (bB w8 c a m pid cp (.slice qm D D) (.pointer none) pX):=O ⟨hb,J.out,nD.zero _⟩;have qg:=O (And.intro V.out I.size);have qi:=O (b.blk qp.out (fun e=>by have:=qc.out;have:=qg.out;omega));replace s:=O (s.keep b (by rintro i rfl;exact E.1));replace F:Hid (fF w8 m a):=O (b.blk F.out (fun e=>by have:=qj.out;omega));have qh:Hid (aA (fun i=>i=c) wr w8):=O (qr.any.trans b);clear b hb j G C qr qp;go_wp2_with fail;refine(KX qq.out s.out E.1).mono ?_;rintro e w9 ⟨rfl,g,b2,lc,q5,qf,qn,b⟩
   have HP:Hid (tB w B D Z cp (.returned (.tuple #[.pointer c,.int .i64 0])) w9):=by
    refine O ⟨c,E9 (fun d=>eH (dL pid d D cp Z)) Mm D,_,rfl,⟨⟨K.1,K.2.1,K.2.2.1,K.2.2.2,X.1,X.2.1,X.2.2,(by show (0:Int)≤0;decide),(by show (0:Int)<2147483648;decide)⟩,a,m,qm,g,b2,lc,pid,B2,zg,pX,rfl,⟨⟨q5,s.keep b (by rintro i rfl;exact E.1),b.blk F.out (fun e=>by have:=qj.out;omega),b.blk qi.out (fun e=>by have:=qc.out;have:=qg.out;omega),X.out,fun d hd=>Da _ _ _ _ hd⟩,qf,fun k e=>?_,?_,?_⟩,rfl⟩,?_,?_⟩
    ·have h1:=qn k e
     have h2:=qh.size;have h3:=qg.out;have h4:=qj.out;have h5:=lt_of_block qi.out;refine⟨fun e2=>?_,by omega,by omega,by omega,rI⟩;have:=s.lt e2;omega
    ·exact⟨E.1,E.2,fun e=>by have:=zi.out _ e;have:=qc.out;omega,fun i h=>(rI h).elim⟩
    ·have h1:=JH [] D Z
     have h2:D*Z≤8*4096:=Nat.mul_le_mul qx K.2.2.2;have:=qk.out;show zg+uE (cJ [] D Z)≤40000+8*0;omega
    ·rintro k (rfl|rfl|rfl|e|e|e)
     ·exact .inr H.1
     ·exact .inr H.2
     ·exact .inr (by have:=qc.out;have:=I.size;have:=Y.size;omega)
     ·exact(qb k e).imp id fun h=>Nat.le_trans Y.size h
     ·exact .inr (by have:=qn k e;have:=qh.size;have:=I.size;have:=Y.size;omega)
     ·exact(rI e).elim
    ·have k1:aA B w wr:=Y.any.trans I.out
     have k2:aA (fun i=>i=c) wr w9:=qh.trans b;exact k1.tT k2 (fun i hi e=>by have:=H.1;omega)
   clear q5 qf qn b qq s F qi;go_wp2
   go_ret2
   exact HP.out
def ofC(x:UInt8)(k:Nat):List Value:=(List.range 256).map fun i=>if i<k then vb x else .int .u8 0
theorem tW(x:UInt8)(k:Nat):(ofC x k).length=256:=by unfold ofC;simp
theorem Nf(x:UInt8):ofC x 0=dK:=by
 rw[show dK=List.replicate 256 (.int .u8 0) from rfl];refine List.eq_replicate_iff.2 ⟨tW x 0,fun v b=>?_⟩;unfold ofC at b;obtain⟨i,-,rfl⟩:=List.mem_map.1 b;exact if_neg (by omega)
theorem Ng(x:UInt8):ofC x 256=(sec x).map vb:=by
 unfold ofC sec;rw[List.map_replicate];refine List.eq_replicate_iff.2 ⟨by simp,fun v h=>?_⟩;obtain⟨i,b,rfl⟩:=List.mem_map.1 h;exact if_pos (List.mem_range.1 b)
theorem OT(x:UInt8)(k:Nat)(z:k<256):spl (ofC x k).toArray k [vb x]=(ofC x (k+1)).toArray:=by
 show (ofC x k).toArray.setIfInBounds k (vb x)=_;rw[List.setIfInBounds_toArray]
 congr 1
 refine List.ext_getElem (by rw[List.length_set,tW,tW]) fun i b s=>?_
 rw[List.getElem_set];have q:∀j h,(ofC x j)[i]'h=if i<j then vb x else .int .u8 0:=fun j h=>by simp[ofC]
 rw[q,q]
 by_cases e:k=i
 ·subst e;rw[if_pos rfl,if_pos (by omega)]
 ·rw[if_neg e]
  by_cases d:i<k
  ·rw[if_pos d,if_pos (by omega)]
  ·rw[if_neg d,if_neg (by omega)]
def OU(w:World)(x:UInt8)(e:Ending)(w':World):Prop:=∃v,e=.returned v/\w'.ownsRow w.heap.size 5 1 v 256 ((sec x).map vb)/\aA aB w w'
def Fa(w:World)(Z:Nat)(e:Ending)(w':World):Prop:=∃c M B,e=.returned (.pointer (some ⟨c,0,none⟩))/\KI w' c ⟨2,Z,2,[],M,0⟩ B/\(∀k,B k->w.heap.size≤k)/\aA aB w w'
theorem tY{base:Nat}{x:List Value}(h:w.ownsRow base 5 1 v 256 x)(j:∀i,B i->i<base):∀i,v.ownBlock=some i->¬B i/\i<w.heap.size:=fun i b =>
 ⟨fun e=>by have:=aU h b;have:=j i e;omega,by obtain⟨cur,s⟩:=aL h b;exact lt_of_block s⟩
theorem pT{a b:UInt8}(h:a≠b):sec a≠sec b:=fun e=>h (GV e)
theorem xY{id:Nat}{a:Act}{α β γ δ:Type}(F:α->β->γ->δ->Act)(R:α->β->γ->δ->World->Prop)(h:(Code.region id ops true).wp P (fun x a w=>x=.normal/\∃p q r s,a=F p q r s/\R p q r s w) a w)(hR:∀p q r s w,R p q r s w->Q .normal (F p q r s) w):(Code.region id ops true).wp P Q a w:=
 wp_mono h fun e a w h=>by obtain⟨rfl,p,q,r,s,rfl,b⟩:=h;exact hR p q r s w b
theorem Loc.turn2{S L j:Nat->Prop}{l:List (Nat×Array Value×TypeId)}(h:Loc S L w0 w l)(k:aA B w w')(z:∀k,B k->L k)(C:∀k,k<w0.heap.size->B k->S k)(s:∀k,k<w.heap.size->j k->L k):Loc S j w0 w' l:=
 ⟨h.keep.trans' k (fun _ _ h=>h) C,h.ge,h.nd,fun x b=>k.blk (h.at_ x b) (fun e=>h.ap x b (z _ e)),fun x b E=>h.ap x b (s _ (lt_of_block (h.at_ x b)) E)⟩
theorem bsA{o:Oper}{a:Act}(t e:TypeId)(x:Operand)(H:P.underlying t=some (.slice e)){z:Value}{size bytes:Nat}(s:(P.info? e).map (fun i=>(i.zero,i.size,i.bytes))=some (some z,size,bytes))(C:0<size)
 (vs:List Value) (E:vs.length=size) (j:size≤2 ^ 24) (h:∀b w',w.heap.size=b->aA aB w w'->w'.heap[b]?=some (.cells vs.toArray e (0,0))->wpList P ops Q vN (a.put o.dst (.slice (some ⟨b,0,none⟩) 1 1)) w')
 (I:a.eval x=.agg vs.toArray:=by rfl) (F:o.guard=none:=by rfl) (G:o.op=.buildSlice t 1 #[(0,x)]:=by rfl):wpList P ops Q (o::vN) a w:=
 cO F t e x G H s C vs E j I (h _ _ rfl ((aA.refl _ _).alloc _) (heap_alloc_new _ _))
def NI(w:World)(e:Ending)(w':World):Prop:=e=.returned (.bool true)/\aA aB w w'
theorem rL(w:World)(x:UInt8):Calls prog 47 #[vb x] w (OU w x):=by
 obtain⟨H,b⟩:=zX9 (vb x)
 have I:=O b;have R:H.oneCell'=true:=by rw[←b];rfl
 have U:H.cells=#[H]:=by rw[←b];rfl
 rw[b];clear b;go_in
 go_wp2_with ((with_reducible show WL _ _);refine mkz (.const (.int .i64 256)) (.const (.int .i64 256)) ?_)
 intro G w1 C K J;rw[←Nf x] at J;have s:=O C;have X:Hid (w1.heap[G]?=some (.cells (ofC x 0).toArray 5 (0,0))/\aA aB w w1):=O ⟨J,K⟩;clear J K C;go_wp2_with fail
 go_loopw [4] (fun i wr=>∃k:Nat,k≤256/\i=.int .i64 (k:Int)/\Hid (wr.heap[G]?=some (.cells (ofC x k).toArray 5 (0,0))/\aA aB w wr)) (fun i _=>256-(intOf i).toNat)
 case atStart=>exact⟨0,by omega,rfl,X⟩
 case round =>
  obtain⟨k,K,rfl,z⟩:=hrel
  by_cases F:k<256
  ·go_wp2_with ((with_reducible show WL _ _);refine sta 5 (.tmp 15) (.tmp 14) G k [H] z.1 (by rw[List.size_toArray,tW];exact F) (by kernel_rfl) (by intro v V;rw[List.mem_singleton] at V;rw[V];exact R) ?_ (hy:=U))
   intro w2 E j;rw[←I.out,OT x k F] at j;have Y:Hid (w2.heap[G]?=some (.cells (ofC x (k+1)).toArray 5 (0,0))/\aA aB w w2):=O ⟨j,z.2.tT E (fun i hi e=>by have:=s.out;omega)⟩;clear E j z;go_wp2
   go_roundw
   case rel=>exact⟨k+1,by omega,by go_num,Y⟩
   case measure=>simp[intOf];omega
  ·obtain rfl:k=256:=by omega
   go_wp2;go_ret;exact⟨_,rfl,by rw[←Ng x];exact oG z.1 (by rw[tW]) (by have:=s.out;omega),z.2⟩
theorem Bw(w:World)(Z:Nat)(Y:8≤Z/\Z≤4096):Calls prog 19 #[.int .i64 (Z:Int)] w (Fa w Z):=by
 have C:=lN w;have R:=O Y;have b:=Oc;have I:(fC.map vb).length=32:=by rw[List.length_map];rfl
 obtain⟨J,j⟩:=zX9 (fC.map vb)
 have H:=O j;rw[j] at b;have x:=O b;clear b j I;go_in
 go_wp2_with ((with_reducible show WL _ _);refine bld 25 #[] [] (.agg J.toArray) x.out ?_)
 refine((MC w 2 Z ⟨by omega,by omega,R.1,R.2⟩)).mono ?_;rintro e w1 ⟨a,V,rfl,s,E,F⟩;have K:=O s;have z:=O E;clear s E;replace C:=kL C F;clear F
 go_wp2_with ((with_reducible show WL _ _);refine bld 25 #[] [] (.agg J.toArray) x.out ?_)
 refine((by rw[←H.out];exact Gg K.out fC rfl 2 ⟨by omega,by omega,by omega⟩ (by omega):Ka w1 (tB w1 V 2 Z 2))).mono ?_;rintro e w2 ⟨c,M,B,rfl,G,U,F⟩;have X:Hid (Fa w Z (.returned (.pointer c)) w2):=O ⟨c,M,B,rfl,G,fun k h=>(U k h).elim (z k) fun e=>by have:=C.keep.size;omega,C.keep.tT F (fun i hi e=>by have:=z.out i e;omega)⟩;clear C K G U F
 go_wp2_with ((with_reducible show WL _ _);refine bld 25 #[] [] (.agg J.toArray) x.out ?_)
 go_ret;exact X.out
def LR(B:Nat->Prop)(rs:List (Value×Pt))(k:Nat):Prop:=B k\/∃r∈rs,r.1.ownBlock=some k
structure Cs(B0:Nat->Prop)(w0:World)(c:Nat)(S:Kor)(B:Nat->Prop)(rs:List (Value×Pt))(w:World)(l:List (Nat×Array Value×TypeId)):Prop where
 loc:Loc B0 (LR B rs) w0 w l
 ki:KI w c S B
 pv:∀r∈rs,aX w B r.1 r.2
 bb:∀i,B i->B0 i\/w0.heap.size≤i
section
variable {B0:Nat->Prop}{w0 w w':World}{c:Nat}{S T:Kor}{B B':Nat->Prop}{rs rs':List (Value×Pt)}{l:List (Nat×Array Value×TypeId)}
variable{cs cs':Array Value}{t:TypeId}{v:Value}{p:Pt}
theorem Cs.lt_(h:Cs B0 w0 c S B rs w l){k:Nat}(b:LR B rs k):k<w.heap.size:=by
 rcases b with b|⟨r,j,b⟩
 ·exact h.ki.lt b
 ·exact((h.pv r j).off k b).2.lt
theorem Cs.keep(h:Cs B0 w0 c S B rs w l):aA B0 w0 w:=h.loc.keep
theorem Cs.b(h:Cs B0 w0 c S B rs w l)(i:Nat){b:Nat}(j:l[i]?=some (b,cs,t):=by rfl):w.heap[b]?=some (.cells cs t (0,0)):=h.loc.b i j
theorem Cs.ne(h:Cs B0 w0 c S B rs w l)(i j:Nat){b x:Nat}{E:TypeId}(s:j≠i:=by decide)(z:l[i]?=some (b,cs,t):=by rfl)(C:l[j]?=some (x,cs',E):=by rfl):x≠b:=bH h.loc.nd z j s C
theorem Cs.keeps(h:Cs B0 w0 c S B rs w l)(k:aA aB w w'):Cs B0 w0 c S B rs w' l:=⟨h.loc.keeps k,h.ki.keep0 k,fun r b=>(h.pv r b).keep0 k,h.bb⟩
theorem Cs.new(h:Cs B0 w0 c S B rs w l){b:Nat}(_:True)(j:w.heap.size=b)(k:aA aB w w')(s:w'.heap[b]?=some (.cells cs t (0,0))):Cs B0 w0 c S B rs w' ((b,cs,t)::l):=
 ⟨h.loc.new (fun _ e=>h.lt_ e) j k s,h.ki.keep0 k,fun r x=>(h.pv r x).keep0 k,h.bb⟩
theorem Cs.set(h:Cs B0 w0 c S B rs w l)(i:Nat){b:Nat}(k:aA (fun k=>k=b) w w')(C:w'.heap[b]?=some (.cells cs' t (0,0)))(x:l[i]?=some (b,cs,t):=by rfl):Cs B0 w0 c S B rs w' (l.set i (b,cs',t)):=by
 have s:=h.loc.ap _ (List.mem_of_getElem? x);exact⟨h.loc.set i k C x,h.ki.keepT k (fun i e j=>by subst e;exact s (.inl j)),fun r z=>(h.pv r z).keepT k (fun i j e=>by subst e;exact s (.inr ⟨r,z,j⟩)),h.bb⟩
theorem Cs.tail{x:Nat×Array Value×TypeId}(h:Cs B0 w0 c S B rs w (x::l)):Cs B0 w0 c S B rs w l:=⟨h.loc.tail,h.ki,h.pv,h.bb⟩
theorem Cs.sub(h:Cs B0 w0 c S B rs w l)(j:∀r∈rs',r∈rs):Cs B0 w0 c S B rs' w l:=
 ⟨⟨h.loc.keep,h.loc.ge,h.loc.nd,h.loc.at_,fun x z s=>h.loc.ap x z (s.imp id fun ⟨r,b,e⟩=>⟨r,j r b,e⟩)⟩,h.ki,fun r b=>h.pv r (j r b),h.bb⟩
theorem Cs.laid(h:Cs B0 w0 c S B rs w l)(C:aX w' B' v p)(x:KI w' c T B')(j:∀k,B' k->B k\/w.heap.size≤k)(z:dQ w v)(k:aA B w w'):Cs B0 w0 c T B' ((v,p)::rs) w' l:=by
 refine⟨h.loc.turn2 k (fun _ e=>.inl e) (fun i s e=>(h.bb i e).elim id fun e=>by omega) ?_,x,?_,fun i e=>(j i e).elim (h.bb i) fun e=>.inr (Nat.le_trans h.keep.size e)⟩
 ·rintro i s (e|⟨r,b,e⟩)
  ·exact(j i e).elim .inl fun e=>by omega
  ·rcases List.mem_cons.1 b with rfl|b
   ·have:=z i e;omega
   ·exact .inr ⟨r,b,e⟩
 ·intro r b
  rcases List.mem_cons.1 b with rfl|b
  ·exact C
  ·exact(h.pv r b).keep k j
theorem Cs.start(h:KI w c S B):Cs B w c S B [] w []:=⟨Loc.nil _ _ w,h,(fun r b=>by cases b),fun _ e=>.inl e⟩
theorem Cs.start1(h:KI w c S B)(b:aX w B v p):Cs B w c S B [(v,p)] w []:=⟨Loc.nil _ _ w,h,(fun r j=>by cases List.mem_singleton.1 j;exact b),fun _ e=>.inl e⟩
theorem Cs.pv0(h:Cs B0 w0 c S B rs w l)(i:Nat)(b:rs[i]?=some (v,p):=by rfl):aX w B v p:=h.pv _ (List.mem_of_getElem? b)
theorem Cs.fin{w2:World}(h:Cs B0 w0 c S B rs w l)(b:∀k,B0 k->w2.heap.size≤k)(k:aA aB w2 w0):aA aB w2 w:=
 k.trans' h.keep (fun _ _ h=>h.elim) (fun i j e=>by have:=b i e;omega)
end
variable{w:World}{v:Value}
theorem nmP{B:Nat->Prop}{p:Pt}(h:aX w B v p):∃c,Hid (aF v p=c)/\c.length=35/\Hid (∀u∈c,u.oneCell'=true):=⟨_,O rfl,aJ h.pt.sum,O (aN h.pt)⟩
theorem oZ(h:v=.slice none 0 0\/dQ w v):dQ w v:=h.elim (fun e=>by rw[e];exact dQ.nil w) id
structure Ds(SP:Nat->Prop)(wd:World)(B0:Nat->Prop)(w0:World)(c:Nat)(S:Kor)(B:Nat->Prop)(rs:List (Value×Pt))(w:World)(l:List (Nat×Array Value×TypeId)):Prop extends Cs B0 w0 c S B rs w l where
 dr:aA SP wd w
section
variable {SP:Nat->Prop}{wd:World}{B0:Nat->Prop}{w0 w w':World}{c:Nat}{Sk T:Kor}{B B':Nat->Prop}{rs rs':List (Value×Pt)}{l:List (Nat×Array Value×TypeId)}{P:Program}{ops:Array Oper}{o:Oper}{a:Act}{Q:Exit->Act->World->Prop}{md:Region.Mode}{S:World->Prop}{xT:Nat}{L:Array Bool}
variable{cs:Array Value}{t:TypeId}
theorem Ds.keeps(h:Ds SP wd B0 w0 c Sk B rs w l)(k:aA aB w w'):Ds SP wd B0 w0 c Sk B rs w' l:=⟨h.toCs.keeps k,h.dr.trans k.any⟩
theorem Ds.laid(h:Ds SP wd B0 w0 c Sk B rs w l)(b:∀i,i<wd.heap.size->B i->SP i){v:Value}{p:Pt}(z:aX w' B' v p)(s:KI w' c T B')(j:∀k,B' k->B k\/w.heap.size≤k)(x:dQ w v)(k:aA B w w'):Ds SP wd B0 w0 c T B' ((v,p)::rs) w' l:=
 ⟨h.toCs.laid z s j x k,h.dr.trans' k (fun _ _ e=>e) b⟩
theorem Ds.own(h:Ds B wd B0 w0 c Sk B rs wd l)(k:aA B wd w')(i:Nat){b:Nat}(j:l[i]?=some (b,cs,t):=by rfl):w'.heap[b]?=some (.cells cs t (0,0)):=k.blk (h.b i j) fun e=>h.loc.ap _ (List.mem_of_getElem? j) (.inl e)
theorem alD(j:Hid (Ds SP wd B0 w0 c Sk B rs w l))(x:Hid (∀w',aA SP wd w'->S w'))(T:TypeId)(z:Value)(cs:Array Value)(J:Hid (∀w,(zeroValue T).run P w=.ok z w))
 (h:∀b w',wd.heap.size≤b->aA aB w w'->Hid (Ds SP wd B0 w0 c Sk B rs w' ((b,cs,T)::l))->wpAnyH P md ops Q S xT L (a.put o.dst (.pointer (some ⟨b,0,none⟩))) w')
 (E:z.cells=cs:=by rfl) (H:o.guard=none:=by rfl) (I:o.op=.alloc T:=by rfl):wpList P ops (Exit.then (fun F w'=>S w'/\wpAnyH P md ops Q S xT L F w') Q) [o] a w:=
 al T z cs J (fun b w' C s G=>wpList_nil ⟨x _ (j.dr.trans s.any),h b w' (by have:=j.dr.size;omega) s (O ⟨j.toCs.new trivial C s G,j.dr.trans s.any⟩)⟩) E H I
theorem stD(z:Hid (Ds SP wd B0 w0 c Sk B rs w l))(C:Hid (∀w',aA SP wd w'->S w'))(i:Nat){b:Nat}(H:l[i]?=some (b,cs,t))(T:TypeId)(x y:Operand)(vs:List Value)(E:wd.heap.size≤b\/SP b)
 (s:vs.length=cs.size) (V:(P.info? T).map (·.size)=some vs.length) (K:∀v∈vs,v.oneCell'=true)
 (h:∀w',Hid (Ds SP wd B0 w0 c Sk B rs w' (l.set i (b,vs.toArray,t)))->wpAnyH P md ops Q S xT L (a.put o.dst undef) w')
 (X:a.eval x=.pointer b:=by rfl) (Y:(a.eval y).cells=vs.toArray:=by rfl) (R:o.guard=none:=by rfl) (U:o.op=.store T x y:=by rfl):wpList P ops (Exit.then (fun J w'=>S w'/\wpAnyH P md ops Q S xT L J w') Q) [o] a w:=
 sta T x y b 0 vs (z.b i H) (by omega) V K (fun w' I F=>by
  rw[aI _ _ s] at F;have G:aA SP wd w':=z.dr.tT I (fun j hj e=>E.elim (fun h=>by omega) (fun h=>by rw[e];exact h));exact wpList_nil ⟨C _ G,h w' (O ⟨z.toCs.set i I F H,G⟩)⟩) X Y R U
end
variable{P:Program}{ops:Array Oper}{a:Act}{B0 B:Nat->Prop}{w0 w:World}{c:Nat}{Sk:Kor}{rs:List (Value×Pt)}{l:List (Nat×Array Value×TypeId)}{S:World->Prop}
theorem sJ{Q:Exit->Act->World->Prop}{id:Nat}(SP:Nat->Prop)(j:Hid (Cs B0 w0 c Sk B rs w l))(s:P.follows .mixedOrders=true)
 (h:∀wd (S:World->Prop),Hid (∀w',S w'->aA SP wd w')->Hid (∀w',aA SP wd w'->S w')->aA aB w wd->Hid (Ds SP wd B0 w0 c Sk B rs wd l)->wpAnyH P .any ops (yR Q) S ops.size (Array.replicate ops.size false) a wd):(Code.region id ops true).wp P Q a w:=by
 have b:=(aA.refl aB w).drew;exact nE (S:=fun w'=>aA SP w.drew w') s (h w.drew (fun w'=>aA SP w.drew w') (O fun _ h=>h) (O fun _ h=>h) b (O ⟨j.keeps b,aA.refl _ _⟩))
theorem ldD{o:Oper}(h:TypeId)(x:Operand)(b k:Nat)(cs:List Value)(d:TypeDesc)(j:∀w,S w->w.rangeAt b k cs)(E:P.underlying h=some d)(z:(P.info? h).map (·.size)=some cs.length)(F:Region.wanted o (yielded ops a.tmps)=true:=by rfl)
 (C:o.op=.load h x:=by rfl) (G:a.eval x=.pointer (some ⟨b,k,none⟩):=by rfl) (s:d.isRow=true:=by rfl):YieldsIf P ops S o (.agg cs.toArray) a:=
 yieldsIf_load_mid F h x C b k G cs d j E s z
theorem sD9 {SP:Nat->Prop}{wd:World}(h:Hid (∀w',aA SP wd w'->S w'))(k:Hid (Ds SP wd B0 w0 c Sk B rs w l)):S w:=h.out _ k.out.dr
end
end Go.Proofs.YtiinnfhjpaeffaaGreat
