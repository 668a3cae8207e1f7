import Derived.Test.YtiinnfhjpaeffaaGreatW1
import Derived.Test.YtiinnfhjpaeffaaGreatW5
import Derived.Test.YtiinnfhjpaeffaaGreatW6
import Derived.BigRegion
import Derived.WalkMore
namespace Go.Proofs.YtiinnfhjpaeffaaGreat
set_option maxHeartbeats 64000000
set_option maxRecDepth 100000
set_option linter.unusedVariables false
section
open Go.RowKit Go.Maps Go.ChangeMaps
abbrev Adr:={ a:Ad // eM a }
theorem G4(n l B1 b:Nat)(lst:List (Ad×Nix))(J Jx:List Adr->World->Prop)(Bs:Nat)(hA:AbidesFrom Bs J)(W:World)(hBs:Bs≤W.heap.size)
 (hY:∀pre x W,J pre W->pre.length<lst.length->YieldAt Fence.wide (n-1) Tryz.prog l #[adV x.1] W fun e W' =>
   (e=.returned (.bool true)/\J (pre++[x]) W'/\Cc B1 W W')\/(e=.returned (.bool false)/\Jx (pre++[x]) W'))
 (h1:W.heap[B1]?=some (.cells #[.map (some b)] 122 (0,0))) (h2:cN eM adV eS W b lst) (h0:J [] W) :
 CallsIn Fence.wide n Tryz.prog 152 #[.func (.yield l) #[] #[],.pointer (some ⟨B1,0,none⟩)] W fun e W'=>(∃v,e=.returned v) /\
  ((∃ys:List Adr,(ys.map (·.1)).Perm (lst.map (·.1))/\J ys W')\/(∃pre,True/\Jx pre W')):=by
 refine callsIn_of_wp Tryz.func152 rfl trivial ?_ rfl;simp only[Tryz.ntmps152,List.size_toArray,List.length_cons,List.length_nil,Nat.reduceAdd,Nat.reduceSub,Array.replicate_succ,Array.replicate_zero,List.push_toArray,List.append_toArray,List.nil_append,List.cons_append];have c1:=cell_of_one h1;have H1:=O h1;have H2:=O h2;have H0:=O h0;clear h1 h2 h0
 gi_wp2_with (first
  | (gi_at_range;refine vR rfl _ _ rfl Tryz.underlying122 rfl H2.out ?_;intro w0 hi0 hk0 hs0)
  | gi_in)
 go_frame
 have hJ1:J [] w0:=hA _ _ _ none H0.out (mD hk0) (fun r e=>by cases e);have hc0:w0.heap[B1]?=some (.cells #[.map (some b)] 122 (0,0)):=hk0.blk H1.out id;have R0:=O (And.intro hi0 (And.intro hJ1 hc0));clear hi0 hk0 hs0 hJ1 hc0 c1
 gi_loopw [3] (fun _ wr=>∃(left:List (Ad×Nix)) (pre:List Adr),Hid (dK eM adV eS wr b W.heap.size lst left/\J pre wr/\wr.heap[B1]?=some (.cells #[.map (some b)] 122 (0,0)))/\(pre.map (·.1)++left.map (·.1)).Perm (lst.map (·.1)))
  (fun _ wr=>wr.rangeLeft b W.heap.size)
 case atStart=>exact⟨lst,[],R0,by simp⟩
 case round =>
  obtain⟨left,pre,hR,hp⟩:=hrel
  gi_wp2_with (first
   | (gi_at_next;refine wT rfl _ rfl rfl hR.out.1 ?_ ?_)
   | gi_in)
  ·intro hl
   gi_wp2
   go_end0
   subst hl;exact⟨⟨_,rfl⟩,.inl ⟨pre,by simpa using hp,hR.out.2.1⟩⟩
  ·intro i x v w2 hxi hxo hi2 hk2 hs2 he2
   have hplen:pre.length<lst.length:=by
    have h1:=hp.length_eq;have h2:=(List.getElem?_eq_some_iff.1 hxi).1;simp at h1;omega
   have hJ2:J pre w2:=hA _ _ _ (some W.heap.size) hR.out.2.1 (BD hk2) (fun r e=>by cases e;exact⟨hBs,hR.out.1.walk⟩);have hc2:w2.heap[B1]?=some (.cells #[.map (some b)] 122 (0,0)):=hk2.blk hR.out.2.2 (by have:=lt_of_block H1.out;omega)
   have hp2:((pre++[(⟨x,hxo⟩:Adr)]).map (·.1)++(left.eraseIdx i).map (·.1)).Perm (lst.map (·.1)):=by
    refine List.Perm.trans ?_ hp;have:=(oF hxi).map (·.1);simp only[List.map_append,List.map_cons,List.map_nil,List.append_assoc,List.singleton_append];exact(this.append_left _).symm
   have HJ2:=O hJ2;have HI2:=O hi2;have HE2:=O he2;have HC2:=O hc2;have HP2:=O hp2;have HR2:=O (hR.out.1.count);have HL:=O (List.getElem?_eq_some_iff.1 hxi).1;have hvl:(aO x).length=2:=rfl;clear hJ2 hi2 hk2 hs2 he2 hc2 hp2 hxi hp hR;unfold adV
   gi_wp2_with (first
    | (refine vS rfl _ rfl rfl HE2.out ?_;show wpListIn _ _ _ _ _ _ (Act.put _ _ (Value.tuple #[.agg (aO x).toArray,eS v])) _)
    | (refine oJ rfl 82 rfl eF eC #[.int .i64 0,.int .i64 0] rfl ?_)
    | (refine nM rfl 82 (.tmp 3) (.tmp 9) rfl w2.heap.size 0 (aO x) rfl rfl #[.int .i64 0,.int .i64 0] _ (heap_alloc_new _ _) (by rw[hvl];simp) (by rw[hvl];exact bW) (bL _) ?_;intro w3 hb3 hk3
       rw[aI _ _ (by rw[hvl];simp)] at hb3;have HB3:=O hb3;have HK3:=O (show aA aB w2 w3 from((aA.refl aB w2).alloc _).trans' hk3 (fun _ _ h=>h) (fun i hi e=>by omega));clear hb3 hk3;have hJ3:=hA _ _ _ none HJ2.out (mD HK3.out) (fun r e=>by cases e);have hYk:=hY pre ⟨x,hxo⟩ w3 hJ3 hplen;unfold adV at hYk;obtain⟨fn,tmps,assign,body,hy,hR⟩:=hYk;dsimp only at hy hR;clear hJ3)
    | (refine kD rfl 82 (.tmp 3) rfl w2.heap.size 0 rfl (aO x) _ (aD HB3.out) bS rfl (by rw[hvl];exact bW) ?_)
    | gi_in)
   refine⟨fun h=>by simp[Fence.wide] at h,hR.mono ?_⟩;rintro e W3 (⟨rfl,hJ4,hk4⟩|⟨rfl,hJx⟩)
   ·have HR4:=O (show dK eM adV eS W3 b W.heap.size lst (left.eraseIdx i)/\J (pre++[⟨x,hxo⟩]) W3/\W3.heap[B1]?=some (.cells #[.map (some b)] 122 (0,0)) from
     ⟨(HI2.out.keep HK3.out id id).walks hk4.1,hJ4,hk4.2.trans (HK3.out.blk HC2.out id)⟩)
    clear hJ4 hk4 hR hy
    gi_wp2
    go_roundw
    case rel=>exact⟨_,_,HR4,HP2.out⟩
    case measure=>rw[HR4.out.1.count,HR2.out,List.length_eraseIdx_of_lt HL.out];have:=HL.out;omega
   ·gi_wp2
    refine bodyPost_ret (results_none rfl _ _ _) rfl ?_;exact⟨⟨_,rfl⟩,.inr ⟨_,trivial,hJx⟩⟩
theorem Ce(n B1 b:Nat)(lst:List (Ad×Nix))(w:World)(h1:w.heap[B1]?=some (.cells #[.map (some b)] 122 (0,0)))(h2:cN eM adV eS w b lst) :
 SeqStopsK Fence.wide n Tryz.prog 152 #[.pointer (some ⟨B1,0,none⟩)] (fun x:Adr=>#[adV x.1]) (Cc B1) (fun ys=>(ys.map (·.1)).Perm (lst.map (·.1))) (fun _=>True) lst.length w:=by
 intro l J Jx W hW hJ _ hY h0;obtain⟨es,clock,hb,hm⟩:=h2;exact G4 n l B1 b lst J Jx _ hJ W (Nat.le_refl _) hY ((hW.block _ (lt_of_block h1)).trans h1) ⟨es,clock,(hW.block _ (Array.getElem?_eq_some_iff.1 hb).1).trans hb,hm⟩ h0
theorem D1(mb:Option Nat)(w:World) :
 Calls Tryz.prog 105 #[.map mb] w fun e w'=>e=.returned (.func (.func 152) #[] #[.pointer (some ⟨w.heap.size,0,none⟩)])/\w'=w.alloc (.cells #[.map mb] 122):=by
 go_enter Tryz.func105,Tryz.ntmps105
 go_wp2
 go_ret;exact⟨rfl,rfl⟩
def aQ(ys:List Ad):List Value:=ys.flatMap aO
def zV(w:World)(lst:List Ad)(e:Ending)(w':World):Prop:=
 ∃v ys,e=.returned v/\ys.Perm lst/\w'.ownsRow w.heap.size 82 2 v ys.length (aQ ys)/\aA aB w w'
def zW(s:Nat)(w3:World)(ys:List Adr)(W:World):Prop:=
 (∃v,W.heap[s]?=some (.cells #[v] 23 (0,0))/\W.ownsRow w3.heap.size 82 2 v ys.length (aQ (ys.map (·.1))))/\aA (fun k=>k=s) w3 W
theorem zW.own{s:Nat}{w3:World}(hB:s<w3.heap.size):OwnFrom w3.heap.size (zW s w3):=by
 rintro pre W W' row ⟨⟨v,h1,h2⟩,hk⟩ hg hr;have kg:=aA.of_grown hg
 have no:∀k cur e,W.heap[k]?=some (.cells cur e (0,0))->¬row=some k:=fun k cur e hc e1=>by
  obtain⟨_,o,ho,hcs⟩:=hr k e1;rw[hc] at ho;cases ho
  cases hcs
 refine⟨⟨v,kg.blk h1 (no _ _ _ h1),kg.owns h2 (fun k hb=>by obtain⟨cur,hc⟩:=aL h2 hb;exact no _ _ _ hc)⟩,hk.grown hg fun k e1 hlt=>?_⟩;have:=(hr k e1).1;omega
theorem LG{s B1 n:Nat}{w3 W W4 w5:World}{v v':Value}{xs:List Value}{pre:List Adr}{x:Adr}(hs:s<w3.heap.size)(hB1:B1<w3.heap.size)(hne:B1≠s)(hn:n=pre.length)
 (h1:W.heap[s]?=some (.cells #[v] 23 (0,0))) (h2:W.ownsRow w3.heap.size 82 2 v n xs) (hk:aA (fun k=>k=s) w3 W) (hk4:aA aB W W4) (hk5:aA (fun k=>v.ownBlock=some k) W4 w5)
 (h5:w5.heap[s]?=some (.cells #[v] 23 (0,0))) (ho:w5.ownsRow w3.heap.size 82 2 v' (n+1) (aQ (pre.map (·.1))++aO x.1)) :
 KeepsFrom w3.heap.size W (w5.setCell ⟨s,0,none⟩ v')/\Cc B1 W (w5.setCell ⟨s,0,none⟩ v')/\zW s w3 (pre++[x]) (w5.setCell ⟨s,0,none⟩ v'):=by
 subst hn
 have kt:aA (fun k=>k=s\/v.ownBlock=some k) W (w5.setCell ⟨s,0,none⟩ v'):=
  (hk4.trans' hk5 (fun _ _ h=>h.elim) (fun i _ h=>.inr h)).setCell (fun _=>.inl rfl) _
 have ks:aA (fun k=>k=s) w5 (w5.setCell ⟨s,0,none⟩ v'):=aA.setCell (S:=fun k=>k=s) (p:=⟨s,0,none⟩) (aA.refl _ _) (fun _=>rfl) _
 have hc:∀k o,W.heap[k]?=some o->(k=s\/v.ownBlock=some k)->o.isCells=true:=by
  rintro k o ho (rfl|h)
  ·rw[h1] at ho;cases ho;rfl
  ·obtain⟨cur,hc⟩:=aL h2 h
   rw[hc] at ho;cases ho;rfl
 refine⟨(eT kt hc).from _,⟨⟨kt.size,fun i o hi hw=>kt.blk hi fun h=>?_⟩,kt.block _ (by have:=hk.size;omega) ?_⟩,⟨v',?_,?_⟩,hk.trans' kt (fun _ _ h=>h) ?_⟩
 ·have:=hc i o hi h
  rw[Obj.not_cells_of_walk hw] at this;cases this
 ·rintro (h|h)
  ·exact hne h
  ·have:=bJ h2 h;omega
 ·exact dO h5 0 v'
 ·rw[List.length_append]
  have e:aQ ((pre++[x]).map (·.1))=aQ (pre.map (·.1))++aO x.1:=by simp[aQ]
  rw[e];exact ks.owns ho fun k hb e=>by have:=bJ ho hb;omega
 ·rintro i hi (h|h)
  ·exact h
  ·have:=bJ h2 h;omega
theorem JB{w w3 W:World}{lst:List Ad}{v:Value}{ys:List Ad}{D:Nat}{o o':Obj}(ho:o.isCells=false)(hD:W.heap[D]?=some o)(h2:W.ownsRow w3.heap.size 82 2 v ys.length (aQ ys))(hp:ys.Perm lst)
 (hk:aA aB w W) (hs:w.heap.size≤w3.heap.size/\w3.heap.size≤D):zV w lst (.returned v) (W.putObj D o'):=by
 have kd:=aA.of_grown (grownBy_putObj' W D o')
 have no:∀k cur e,W.heap[k]?=some (.cells cur e (0,0))->¬some D=some k:=fun k cur e hc e1=>by
  cases e1
  rw[hD] at hc;cases hc
  cases ho
 refine⟨v,ys,rfl,hp,?_,hk.trans' kd (fun _ _ h=>h) (fun i hi e=>by cases e;omega)⟩;exact aV (kd.owns h2 fun k hb=>by obtain⟨cur,hc⟩:=aL h2 hb;exact no _ _ _ hc) hs.1
def G5(s B1 p:Nat)(x:Adr):Act:=
 { tmps:=#[.slice none 0 0,.func (.func 152) #[] #[.pointer (some ⟨B1,0,none⟩)],.pointer (some ⟨s,0,none⟩),undef,.slice none 0 0,.pointer (some ⟨p,0,none⟩),.func (.func 152) #[] #[.pointer (some ⟨B1,0,none⟩)],.agg (aO x.1).toArray,undef,undef,undef,undef,undef],defers:=[] }
def BV(s B1:Nat)(x:Adr)(a:Act)(W:World):Prop:=∃p,a=G5 s B1 p x/\W.heap[p]?=some (.cells (aO x.1).toArray 82 (0,0))
theorem BV.own{s B1:Nat}(B:Nat)(x:Adr)(a:Act):OwnFrom B (fun(_:Unit) W=>BV s B1 x a W):=by
 rintro _ W W' row ⟨p,ha,hp⟩ hg hr;refine⟨p,ha,(aA.of_grown hg).blk hp fun e1=>?_⟩;obtain⟨_,o,ho,hcs⟩:=hr p e1;rw[hp] at ho;cases ho
 cases hcs
theorem D2(w:World)(lst:List (Ad×Nix))(B1 b:Nat)(h1:w.heap[B1]?=some (.cells #[.map (some b)] 122 (0,0)))(h2:cN eM adV eS w b lst)(hlen:lst.length≤65536) :
 Calls Tryz.prog 202 #[.slice none 0 0,.func (.func 152) #[] #[.pointer (some ⟨B1,0,none⟩)]] w (zV w (lst.map (·.1))):=by
 have H1:=O h1;have H2:=O h2;clear h1 h2;refine callsIn_wide.1 (callsIn_of_wp_marks (F:=Fence.wide) (n:=3) Tryz.func202 rfl trivial (wpIn_wide.2 ?_));simp only[Tryz.ntmps202,List.size_toArray,List.length_cons,List.length_nil,Nat.reduceAdd,Nat.reduceSub,Array.replicate_succ,Array.replicate_zero,List.push_toArray,List.append_toArray,List.nil_append,List.cons_append];go_wp2_with fail;obtain⟨w3,hw3⟩:∃w3,w.alloc (.cells #[.slice none 0 0] 23)=w3:=⟨_,rfl⟩
 have hk3:aA aB w w3:=by rw[←hw3];exact(aA.refl _ _).alloc _
 have hs3:w3.heap.size=w.heap.size+1:=by rw[←hw3];exact World.size_alloc _ _
 have hbx:w3.heap[w.heap.size]?=some (.cells #[.slice none 0 0] 23 (0,0)):=by rw[←hw3];exact heap_alloc_new _ _
 have hB1:B1<w3.heap.size:=by have:=lt_of_block H1.out;omega
 rw[hw3];refine wpIn_wide (n:=3).1 ?_
 refine' wpIn_rangeFunc_ownH rfl (by omega) (gf:=152) rfl trivial (enters_of Tryz.func152 (by kernel_rfl) rfl)
  (Ce _ B1 b lst w3 (hk3.blk H1.out id) (H2.out.keep hk3 id)) ?hKt ?hKb (Below.refl _ _) (fun _=>rfl) (zW w.heap.size w3) (fun _ _ _=>False) (zW.own (by omega)) (fun c s A B row hs _ _=>hs) ?h0 (BV w.heap.size B1) (BV.own _) ?assign ?body ?done ?stop
 case hKt=>exact fun h k=>⟨h.1.trans k.1,k.2.trans h.2⟩
 case hKb=>exact fun W l o o' hl ho hc hw=>⟨KeepsWalks.putObj o' ho hw,World.putObj_heap_other (by omega)⟩
 case h0=>exact⟨⟨.slice none 0 0,hbx,World.ownsRow_nil _ _ _ _⟩,aA.refl _ _⟩
 case assign =>
  intro l pre x W K hI hK;have hvl:(aO x.1).length=2:=rfl;refine cO (by kernel_rfl) (fun ⟨_,_,h⟩=>h) ?_;unfold adV;rw[Jw];simp only[List.setIfInBounds_toArray,List.set_cons_zero,List.set_cons_succ]
  go_wp2_with (first
   | (refine aR rfl 82 rfl eF eC #[.int .i64 0,.int .i64 0] rfl ?_)
   | ((with_reducible show WL none (.store 82 (.tmp 5) (.tmp 7)));refine aP rfl 82 (.tmp 5) (.tmp 7) rfl W.heap.size 0 (aO x.1) rfl rfl #[.int .i64 0,.int .i64 0] _ (heap_alloc_new _ _) (by rw[hvl];simp) (by rw[hvl];exact bW) (bL _) ?_;intro W2 hb2 hk2))
  rw[aI _ _ (by rw[hvl];simp)] at hb2;have hkw:aA aB W W2:=((aA.refl aB W).alloc _).trans' hk2 (fun _ _ h=>h) (fun i hi e=>by omega);refine hK _ _ ((eT hkw (fun _ _ _ h=>h.elim)).from _) ⟨⟨hkw.size,fun i o hi ho=>hkw.blk hi id⟩,hkw.block _ ?_ id⟩ ?_ ⟨W.heap.size,rfl,hb2⟩
  ·have:=hI.2.size;omega
  ·exact zW.own (by omega) pre W W2 none hI (mD hkw) (fun r e=>by cases e)
 case body =>
  rintro l pre x a' W hl hrec ⟨⟨v,h1,h2⟩,hk⟩ ⟨p,rfl,hp⟩ hlen';have hvl:(aO x.1).length=2:=rfl;obtain⟨av,cv,rfl,-,-⟩:=(Rd.of_owns h2).form;have c1:=cell_of_one h1;have f1:=cV h1 0;have HB:=O h1;have H2':=O h2;have HK:=O hk;have HP:=O hp;clear h1 h2 hk hp hrec hw3 hbx;unfold G5;refine wpIn_block ?_;refine cO (by kernel_rfl) (fun ⟨_,_,h⟩=>h) ?_
  go_wp2_with (first
   | ((with_reducible show WL (some 9) (.load 82 (.tmp 5)));refine wpList_load_mid rfl 82 (.tmp 5) rfl p 0 rfl (aO x.1) _ (aD HP.out) bS rfl (by rw[hvl];exact bW) ?_)
   | ((with_reducible show WL (some 10) (.buildSlice _ _ _));refine cC rfl 23 82 (.tmp 9) rfl Tryz.underlying23 rC (by decide) (aO x.1) hvl (by decide) rfl ?_
      have hk4:aA aB W (W.alloc (.cells (aO x.1).toArray 82)):=(aA.refl _ _).alloc _;have HO4:=O (hk4.owns H2'.out (fun _ _ h=>h));have HR4:=O (eE (n:=1) (size:=2) (heap_alloc_new W (.cells (aO x.1).toArray 82)) (by rw[hvl]) (by unfold maxLen;omega));have HB4:=O (hk4.blk HB.out id);have HK4:=O hk4;have hs4:=World.size_alloc W (.cells (aO x.1).toArray 82);generalize hW4:W.alloc (.cells (aO x.1).toArray 82)=W4 at *;clear hW4 hk4)
   | (at_builtin;refine aN rfl (.tmp 8) (.tmp 10) 23 rfl w3.heap.size 82 eF 2 16 Tryz.underlying23 rC rfl (by decide) (.slice av pre.length cv) pre.length (aQ (pre.map (·.1))) rfl HO4.out (.slice (some ⟨W.heap.size,0,none⟩) 1 1) 1 (aO x.1) rfl HR4.out (bL _) (by unfold maxLen;omega) (by omega) (by have:=HK.out.size;omega) ?_
      intro v' w5 ho5 hk5 hn5 hb5;obtain⟨g',cap',rfl⟩:=ownsRow_succ ho5;have HB5:=hk5.blk HB4.out (fun e=>by have:=bJ HO4.out e;omega);have c5:=cell_of_one HB5;have f5:=cV HB5 0;have HO5:=O ho5;have HK5:=O hk5;have HBX5:=O HB5;clear ho5 hk5 hn5 hb5 HB5 c1 f1))
  exact LG (by omega) hB1 (by have:=lt_of_block H1.out;omega) rfl HB.out H2'.out HK.out HK4.out HK5.out HBX5.out HO5.out
 case done =>
  intro D xs W hD hS hI hDd;obtain⟨⟨v,h1,h2⟩,hk⟩:=hI;have c1:=cell_of_one h1;obtain⟨ar,cr,rfl,-,-⟩:=(Rd.of_owns h2).form;have hkw:aA aB w W:=aA.trans' (S:=aB) (T:=fun k=>k=w.heap.size) (b:=w3) hk3 hk (fun _ _ h=>h) (fun i hi e=>by omega);have H2':=O h2;have HD:=O hDd;have HKW:=O hkw;have HS:=O hS;clear h1 h2 hk hDd hkw hS hw3 hbx;go_wp2_with fail;refine⟨by simp,.inl ⟨_,_,rfl,run_takeDeferred HD.out,?_⟩⟩;refine⟨_,results_tmp rfl _ _ _,?_⟩;refine JB rfl HD.out (ys:=xs.map (·.1)) (by simpa using H2'.out) HS.out HKW.out ⟨by omega,hD⟩
 case stop=>exact fun D c pre W _ _ h _=>h.elim
theorem rD{w:World}{v:Value}{l:List Int}(h:Rd w 1 v l.length (l.map fun x=>.int .i64 x)){k:Nat}{x:Int}(hk:l[k]?=some x):∃g o cap,v=.slice (some ⟨g,o,none⟩) l.length cap/\w.cell? ⟨g,o+k,none⟩=some (.int .i64 x):=by
 obtain⟨h0,a,cap,rfl,h1,h2,h3,h4⟩:=h;have hlt:=(List.getElem?_eq_some_iff.1 hk).1;obtain⟨g,o,rfl,hc⟩:=h4 (by rw[List.length_map];omega);exact⟨g,o,cap,rfl,hc k _ (by rw[List.getElem?_map,hk];rfl)⟩
def nV(l:List Nat):List Value:=l.map fun(x:Nat)=>Value.int .i64 (x:Int)
def fO(w:World)(base g cap:Nat)(l:List Nat):Prop:=base≤g/\l.length≤cap/\cap≤maxLen/\∃cur:Array Value,w.heap[g]?=some (.cells cur 3 (0,0))/\cur.size=cap/\cur.toList.take l.length=nV l
theorem fO.keep{T:Nat->Prop}{w w':World}{base g cap:Nat}{l:List Nat}(h:fO w base g cap l)(k:aA T w w')(hT:¬T g):fO w' base g cap l:=by
 obtain⟨h1,h2,h3,cur,h4,h5⟩:=h;exact⟨h1,h2,h3,cur,k.blk h4 hT,h5⟩
theorem fO.cell{w:World}{base g cap:Nat}{l:List Nat}(h:fO w base g cap l){k x:Nat}(hk:l[k]?=some x):w.cell? ⟨g,k,none⟩=some (.int .i64 (x:Int)):=by
 obtain⟨h1,h2,h3,cur,h4,h5,h6⟩:=h;have hl:=(List.getElem?_eq_some_iff.1 hk).1;refine aC h4 ?_
 have h7:(cur.toList.take l.length)[k]?=some (.int .i64 (x:Int)):=by
  rw[h6];unfold nV;rw[List.getElem?_map,hk];rfl
 rw[List.getElem?_take,if_pos hl] at h7
 simpa using h7
theorem fO.free{w:World}{base g cap:Nat}{l:List Nat}(h:fO w base g cap l)(k:Nat):w.frozen? ⟨g,k,none⟩=false:=by
 obtain⟨h1,h2,h3,cur,h4,h5,h6⟩:=h;exact cV h4 k
theorem fO.set{w:World}{base g cap:Nat}{l:List Nat}(h:fO w base g cap l){k:Nat}(hk:k<l.length)(x:Nat):fO (w.setCell ⟨g,k,none⟩ (.int .i64 (x:Int))) base g cap (l.set k x)/\aA (fun i=>i=g) w (w.setCell ⟨g,k,none⟩ (.int .i64 (x:Int))):=by
 obtain⟨h1,h2,h3,cur,h4,h5,h6⟩:=h;refine⟨⟨h1,by rw[List.length_set];exact h2,h3,_,dO h4 k _,by rw[Array.size_setIfInBounds];exact h5,?_⟩,(aA.refl (fun i=>i=g) w).setCell (p:=⟨g,k,none⟩) (fun _=>rfl) _⟩;rw[List.length_set,Array.toList_setIfInBounds,List.take_set,h6];unfold nV;rw[List.map_set]
theorem fO.rd{w:World}{base g cap:Nat}{l:List Nat}(h:fO w base g cap l):Rd w 1 (.slice (some ⟨g,0,none⟩) l.length cap) l.length (nV l):=by
 obtain⟨h1,h2,h3,cur,h4,h5,h6⟩:=h;refine⟨by simp[nV],some ⟨g,0,none⟩,cap,rfl,h2,h3,(by intro e;cases e),fun _=>⟨g,0,rfl,fun i u hu=>?_⟩⟩;refine aC h4 ?_;have hl:i<l.length:=by have:=(List.getElem?_eq_some_iff.1 hu).1;simpa [nV] using this
 rw[←h6,List.getElem?_take,if_pos hl] at hu
 simpa using hu
theorem Hi{A B:List Nat}{y x:Nat}:((A++y::x::B).set (A.length+1) y).set A.length x=A++x::y::B:=by
 rw[List.set_append_right _ _ (by omega),List.set_append_right _ _ (by omega)];simp
theorem Hj{fr:List Int}{A B:List Nat}{x:Nat}(h:mZ fr (A++B))(hA:∀y∈A.getLast?,cX fr y x=true)(hB:∀y∈B,cX fr x y=true):mZ fr (A++x::B):=by
 unfold mZ at *;rw[List.pairwise_append] at h ⊢;obtain⟨h1,h2,h3⟩:=h;refine⟨h1,List.pairwise_cons.2 ⟨hB,h2⟩,fun a ha b hb=>?_⟩;rcases List.mem_cons.1 hb with rfl|hb
 ·rcases List.eq_nil_or_concat A with rfl|⟨A',z,rfl⟩
  ·cases ha
  ·have hz:cX fr z b=true:=hA z (by simp)
   rw[List.concat_eq_append] at h1 ha;rcases List.mem_append.1 ha with h|h
   ·exact DU ((List.pairwise_append.1 h1).2.2 a h z (List.mem_singleton.2 rfl)) hz
   ·rw[List.mem_singleton.1 h]
    exact hz
 ·exact h3 a ha b hb
theorem LN(x y:Int):decide (gY x y<0)=decide (x<y):=by
 unfold gY
 by_cases h:x<y
 ·simp[h]
 ·by_cases h2:y<x<;>simp[h,h2]
structure wX(fr:List Int)(o ys:List Nat)(i j x:Nat)(A B:List Nat):Prop where
 ys:ys=A++x::(B++o.drop (i+1))
 len:A.length=j
 at_:o[i]?=some x
 ranks:mZ fr (A++B)
 perm:(A++B).Perm (o.take i)
 below:∀y∈B,cX fr x y=true
theorem wX.down{fr:List Int}{o ys:List Nat}{i j x:Nat}{A B:List Nat}{y:Nat}(h:wX fr o ys i (j+1) x (A++[y]) B)(hy:cX fr x y=true):wX fr o (A++x::y::(B++o.drop (i+1))) i j x A (y::B):=by
 have hl:=h.len;rw[List.length_append,List.length_singleton] at hl;refine⟨rfl,by omega,h.at_,by have:=h.ranks;rwa [List.append_assoc] at this,by have:=h.perm;rwa [List.append_assoc] at this,fun z hz=>?_⟩;rcases List.mem_cons.1 hz with rfl|hz
 ·exact hy
 ·exact h.below z hz
theorem wX.stop{fr:List Int}{o ys:List Nat}{i j x:Nat}{A B:List Nat}(h:wX fr o ys i j x A B)(hA:∀y∈A.getLast?,cX fr y x=true):ys=(A++x::B)++o.drop (i+1)/\mZ fr (A++x::B)/\(A++x::B).Perm (o.take (i+1)):=by
 refine⟨by rw[h.ys];simp,Hj h.ranks hA h.below,?_⟩;rw[List.take_add_one,h.at_];exact List.perm_middle.trans ((List.perm_append_comm (l₁:=[x]) (l₂:=A++B)).trans (h.perm.append_right [x]))
theorem JM(w:World)(bx i j:Nat)(fr:List Int)(v:Value)(hr:Rd w 1 v fr.length (fr.map fun x=>.int .i64 x))(hB:w.heap[bx]?=some (.cells #[v] 42 (0,0)))(hi:i<fr.length)(hj:j<fr.length) :
 Calls Tryz.prog 266 #[.int .i64 (i:Int),.int .i64 (j:Int),.pointer (some ⟨bx,0,none⟩)] w fun e w'=>e=.returned (.int .i64 (gY (fr.getD j 0) (fr.getD i 0)))/\aA aB w w':=by
 obtain⟨oa,ca,rfl,-,-⟩:=hr.form;obtain⟨n,hn⟩:∃n,fr.length=n:=⟨_,rfl⟩
 obtain⟨x,hx⟩:∃x,fr[i]?=some x:=⟨fr[i]'hi,List.getElem?_eq_getElem _⟩
 obtain⟨y,hy⟩:∃x,fr[j]?=some x:=⟨fr[j]'hj,List.getElem?_eq_getElem _⟩
 have ex:fr.getD i 0=x:=by rw[List.getD_eq_getElem?_getD,hx];rfl
 have ey:fr.getD j 0=y:=by rw[List.getD_eq_getElem?_getD,hy];rfl
 rw[ex,ey];obtain⟨p,o,cap,hv,hcx⟩:=rD hr hx;have e1:oa=some ⟨p,o,none⟩:=by cases hv;rfl
 subst e1;obtain⟨p',o',cap',hv',hcy⟩:=rD hr hy;have e2:(⟨p,o,none⟩:Addr)=⟨p',o',none⟩:=by cases hv';rfl
 cases e2
 rw[hn] at hi hj hB;have hc:w.cell? ⟨bx,0,none⟩=some (.slice (some ⟨p,o,none⟩) n ca):=aC hB rfl;have HC:=O (fun w'=>EC y x w');obtain⟨r,hrr⟩:∃r,gY y x=r:=⟨_,rfl⟩
 rw[hrr] at HC ⊢;have hii:(i:Int)<(n:Int):=by omega
 have hji:(j:Int)<(n:Int):=by omega
 have hi0:(0:Int)≤(i:Int):=by omega
 have hj0:(0:Int)≤(j:Int):=by omega
 have HB:=O hB;clear hr hn hx hy ex ey hv hv' hrr hB;go_in;go_wp2_with fail;obtain⟨S,hS0⟩:∃S:World->Prop,S=fun w'=>aA aB w w':=⟨_,rfl⟩
 have HSE:=O (show ∀w',S w'->aA aB w w' from fun w' h=>by rw[hS0] at h;exact h);have HSI:=O (show ∀w',aA aB w w'->S w' from fun w' h=>by rw[hS0];exact h);have hS:S w.drew:=by rw[hS0];exact(aA.refl _ _).drew
 clear hS0;refine wp_region_held (S:=S) (by kernel_rfl) ?_;change wpAnyH _ _ _ _ _ _ _ _ w.drew;generalize w.drew=wq41 at hS ⊢;refine tkd 0 (.slice (some ⟨p,o,none⟩) n ca) rfl (.inl ⟨by rfl,fun w' hw'=>by have c:=(HSE.out w' hw').cell hc id;go_simp⟩) hS ?_;simp only[Act.put,List.setIfInBounds_toArray,List.set_cons_zero,List.set_cons_succ,List.getElem_toArray,List.getElem_cons_zero];refine tna 1 (.int .i64 (j:Int)) rfl hS ?_;refine tnb 2 (.pointer (some ⟨p,o+j,none⟩)) rfl hS ?_;refine tnd 3 (.int .i64 y) rfl (.inl ⟨by rfl,fun w' hw'=>by have c:=(HSE.out w' hw').cell hcy id;go_simp⟩) hS ?_;refine tnd 4 (.slice (some ⟨p,o,none⟩) n ca) rfl (.inl ⟨by rfl,fun w' hw'=>by have c:=(HSE.out w' hw').cell hc id;go_simp⟩) hS ?_;refine tna 5 (.int .i64 (i:Int)) rfl hS ?_;refine tnb 6 (.pointer (some ⟨p,o+i,none⟩)) rfl hS ?_;refine tnd 7 (.int .i64 x) rfl (.inl ⟨by rfl,fun w' hw'=>by have c:=(HSE.out w' hw').cell hcx id;go_simp⟩) hS ?_;refine wA9 8 ?_;go_wp2_with fail;refine(HC.out _).mono ?_;rintro e wq42 ⟨rfl,hkw⟩;have hk:aA aB wq41 wq42:=hkw▸aA.refl _ _;clear hkw;have hS1:=HSI.out _ ((HSE.out _ hS).trans hk);clear hS hk;go_wp2_with fail;refine⟨hS1,?_⟩;refine tna 9 (.int .i64 r) rfl hS1 ?_;refine wpAnyH_done (by kernel_rfl) ?_ _;have HKR:=O (HSE.out _ hS1);clear hS1 HSE HSI;have HK:=O HKR.out;clear HKR;go_wp2;go_ret;exact⟨rfl,HK.out⟩
def mF(w:World)(base g cap:Nat)(fr:List Int)(o:List Nat)(e:Ending)(w':World):Prop:=e=.returned (.tuple #[])/\∃P,fO w' base g cap P/\mZ fr P/\P.Perm o/\aA (fun j=>j=g) w w'
theorem Fs(w:World)(bx base g cap:Nat)(fr:List Int)(o:List Nat)(v:Value)(hr:Rd w 1 v fr.length (fr.map fun x=>.int .i64 x))(hB:w.heap[bx]?=some (.cells #[v] 42 (0,0)))(hgv:v.ownBlock≠some g)
 (hrow:fO w base g cap o) (h8:o.length≤8) (hinc:o.Pairwise (·<·)) (hlt:∀i∈o,i<fr.length) :
 Calls Tryz.prog 270 #[.slice (some ⟨g,0,none⟩) o.length cap,.int .i64 0,.int .i64 (o.length:Int),(.func (.func 266) #[] #[.pointer (some ⟨bx,0,none⟩)])] w (mF w base g cap fr o):=by
 have HR:=O hr;have HB:=O hB;have HINC:=O hinc;have HLT:=O hlt;have HRW:=O hrow;have HGV:=O hgv;obtain⟨n,hn⟩:∃n,o.length=n:=⟨_,rfl⟩
 have HN:=O hn;rw[hn] at h8 ⊢
 have hgb:g≠bx:=by
  intro e;subst e;obtain⟨-,-,-,cur,h4,-⟩:=hrow;rw[hB] at h4;cases h4
 clear hr hB hinc hlt hrow hn hgv;go_in;go_wp2_with fail
 go_loopw [8,9] (fun i _ wr=>∃(k:Nat) (P:List Nat),1≤k/\(k≤n\/k=1)/\i=.int .i64 k/\Hid (fO wr base g cap (P++o.drop k))/\Hid (mZ fr P)/\Hid (P.Perm (o.take k))/\Hid (aA (fun j=>j=g) w wr)) (fun i _ _=>n-(intOf i).toNat)
 case atStart=>exact⟨1,o.take 1,Nat.le_refl _,.inr rfl,rfl,O (by rw[List.take_append_drop];exact HRW.out),O (by unfold mZ;rcases o with _|⟨x,o⟩<;>simp),O (List.Perm.refl _),O (aA.refl _ _)⟩
 case round =>
 obtain⟨k,P,hk1,hkn,rfl,HROW,HRK,HPM,HK⟩:=hrel
 by_cases hlk:k<n
 ·have hki:(k:Int)<(n:Int):=by omega
  have hk0:(0:Int)≤(k:Int):=by omega
  obtain⟨x,hx⟩:∃x,o[k]?=some x:=⟨o[k]'(by rw[HN.out];exact hlk),List.getElem?_eq_getElem _⟩
  have hPl:P.length=k:=by rw[HPM.out.length_eq,List.length_take,HN.out];omega
  have hdrop:o.drop k=x::o.drop (k+1):=by
   rw[List.drop_eq_getElem_cons (by rw[HN.out];exact hlk)]
   congr 1
   rw[List.getElem?_eq_getElem (by rw[HN.out];exact hlk)] at hx;exact Option.some.inj hx
  have HX:=O hx;have HS0:Hid (wX fr o (P++o.drop k) k k x P []):=O ⟨by rw[hdrop];rfl,hPl,hx,by rw[List.append_nil];exact HRK.out,by rw[List.append_nil];exact HPM.out,fun y hy=>by cases hy⟩;obtain⟨wo,hwo⟩:∃wo,wr=wo:=⟨_,rfl⟩
  rw[hwo] at HROW HK ⊢;clear hwo hx hPl hdrop;go_wp2_with fail
  go_loopw [9] (fun i wr=>∃(j:Nat) (ys A B:List Nat),j≤k/\i=.int .i64 j/\Hid (fO wr base g cap ys)/\Hid (wX fr o ys k j x A B)/\Hid (aA (fun j=>j=g) w wr)) (fun i _=>(intOf i).toNat)
  case atStart=>exact⟨k,_,P,[],Nat.le_refl _,rfl,HROW,HS0,HK⟩
  case round =>
  clear HROW HK HS0;obtain⟨j,ys,A,B,hj,rfl,HROW,HS,HK⟩:=hrel;rcases Nat.eq_zero_or_pos j with hj0|hj0
  ·subst hj0
   have hA:A=[]:=List.length_eq_zero_iff.1 HS.out.len;have hstop:∀y∈A.getLast?,cX fr y x=true:=by subst hA;intro y hy;cases hy
   clear hA;go_wp2_with fail;obtain⟨S,hS0⟩:∃S:World->Prop,S=fun w'=>aA aB wr w':=⟨_,rfl⟩
   have HSE:=O (show ∀w',S w'->aA aB wr w' from fun w' h=>by rw[hS0] at h;exact h);have HSI:=O (show ∀w',aA aB wr w'->S w' from fun w' h=>by rw[hS0];exact h);have hS:S wr.drew:=by rw[hS0];exact(aA.refl _ _).drew
   clear hS0;refine wp_region_held (S:=S) (by kernel_rfl) ?_;change wpAnyH _ _ _ _ _ _ _ _ wr.drew;generalize wr.drew=wq41 at hS ⊢;refine tka 0 (.int .i64 0) rfl hS ?_;simp only[Act.put,List.setIfInBounds_toArray,List.set_cons_zero,List.set_cons_succ,List.getElem_toArray,List.getElem_cons_zero];refine tna 1 (.int .i64 0) rfl hS ?_;refine tnb 2 (.bool false) rfl hS ?_;refine tna 3 (.bool false) rfl hS ?_;refine tnc 4 undef rfl hS ?_;refine tnc 5 undef rfl hS ?_;refine tnc 6 undef rfl hS ?_;refine tnc 7 undef rfl hS ?_;refine tnc 8 undef rfl hS ?_;refine tnc 9 undef rfl hS ?_;refine tnc 10 undef rfl hS ?_;refine tnc 11 undef rfl hS ?_;refine tnc 12 undef rfl hS ?_;refine tnc 13 undef rfl hS ?_;refine tnc 14 undef rfl hS ?_;refine tnc 15 undef rfl hS ?_;refine tna 16 (.bool false) rfl hS ?_;refine wpAnyH_done (by kernel_rfl) ?_ _;have HKR:=O (HSE.out _ hS);clear hS HSE HSI;have HROW:=O (HROW.out.keep HKR.out id);have HK:=O (HK.out.trans' HKR.out (U:=fun j=>j=g) (fun _ _ h=>h) (fun _ _ h=>h.elim));clear HKR;have HF:=O (HS.out.stop hstop);have HR2:Hid (fO _ base g cap ((A++x::B)++o.drop (k+1))):=O (by rw[←HF.out.1];exact HROW.out);clear hstop;go_wp2
   go_roundw
   case rel=>exact⟨k+1,A++x::B,by omega,.inl (by omega),by go_num,HR2,O HF.out.2.1,O HF.out.2.2,HK⟩
   case measure=>simp[intOf];omega
  ·obtain⟨j,rfl⟩:∃m,j=m+1:=⟨j-1,by omega⟩
   obtain⟨A,y,rfl⟩:∃A' y,A=A'++[y]:=by
    rcases List.eq_nil_or_concat A with rfl|⟨A',z,rfl⟩
    ·have:=HS.out.len;simp at this
    ·exact⟨A',z,by rw[List.concat_eq_append]⟩
   have hAl:A.length=j:=by have:=HS.out.len;rw[List.length_append,List.length_singleton] at this;omega
   have hys:ys=A++y::x::(B++o.drop (k+1)):=by rw[HS.out.ys];simp
   have hcy:=HROW.out.cell (k:=j) (x:=y) (by rw[hys,List.getElem?_append_right (by omega),hAl];simp);have hcx:=HROW.out.cell (k:=j+1) (x:=x) (by rw[hys,List.getElem?_append_right (by omega),hAl];simp);have hyo:y∈o:=List.mem_of_mem_take (HS.out.perm.mem_iff.1 (by simp));have hxo:x∈o:=List.mem_of_getElem? HX.out
   have hyx:y<x:=by
    have hm:y∈o.take k:=HS.out.perm.mem_iff.1 (by simp);obtain⟨q,hq⟩:=List.getElem?_of_mem hm;have hqk:=(List.getElem?_eq_some_iff.1 hq).1;rw[List.length_take] at hqk;rw[List.getElem?_take,if_pos (by omega)] at hq;have hx:=HX.out;obtain⟨h1,rfl⟩:=List.getElem?_eq_some_iff.1 hq;obtain⟨h2,rfl⟩:=List.getElem?_eq_some_iff.1 hx;exact List.pairwise_iff_getElem.1 HINC.out q k h1 h2 (by omega)
   have HYL:=O (HLT.out y hyo);have HXL:=O (HLT.out x hxo);have HC:=O (fun wx (kk:aA (fun j=>j=g) w wx)=>JM wx bx x y fr v (HR.out.keep kk fun b hb e=>HGV.out (by rw[hb,e])) (kk.blk HB.out (fun e=>hgb e.symm)) HXL.out HYL.out);obtain⟨r,hr⟩:∃r,gY (fr.getD y 0) (fr.getD x 0)=r:=⟨_,rfl⟩
   obtain⟨bb,hbb⟩:∃b,decide (r<0)=b:=⟨_,rfl⟩
   have HAH:Hid (cX fr x y=bb):=O (by
    rw[←hbb,←hr,LN];unfold cX;rw[Bool.eq_iff_iff];simp only[Bool.or_eq_true,Bool.and_eq_true,decide_eq_true_eq];omega)
   rw[hr] at HC;have HRB:=O hbb;have HYS:=O hys;have HAL:=O hAl;have HYX:=O hyx;clear hyo hxo hyx hr hbb hys hAl;have hji:(0:Int)<((j+1:Nat):Int):=by omega
   have hjn:((j+1:Nat):Int)<(n:Int):=by omega
   have hj1:((j+1:Nat):Int)-1=(j:Int):=by omega
   obtain⟨jj,hjj⟩:∃jj,j+1=jj:=⟨_,rfl⟩
   rw[hjj] at hji hjn hj1 hcx ⊢;have HJJ:=O hjj;have hjn2:(j:Int)<(n:Int):=by omega
   have hjp:0<jj:=by omega
   have hjnn:(0:Int)≤(j:Int):=by omega
   have hwj:IntKind.i64.wrap (j:Int)=(j:Int):=by rw[IntWalk.i64_in _ (by omega)]
   clear hjj;go_wp2_with fail;obtain⟨S,hS0⟩:∃S:World->Prop,S=fun w'=>aA aB wr w':=⟨_,rfl⟩
   have HSE:=O (show ∀w',S w'->aA aB wr w' from fun w' h=>by rw[hS0] at h;exact h);have HSI:=O (show ∀w',aA aB wr w'->S w' from fun w' h=>by rw[hS0];exact h);have hS:S wr.drew:=by rw[hS0];exact(aA.refl _ _).drew
   clear hS0;refine wp_region_held (S:=S) (by kernel_rfl) ?_;change wpAnyH _ _ _ _ _ _ _ _ wr.drew;generalize wr.drew=wq41 at hS ⊢;refine tka 0 (.int .i64 (jj:Int)) rfl hS ?_;simp only[Act.put,List.setIfInBounds_toArray,List.set_cons_zero,List.set_cons_succ,List.getElem_toArray,List.getElem_cons_zero];refine tna 1 (.int .i64 0) rfl hS ?_;refine tnb 2 (.bool true) rfl hS ?_;refine tna 3 (.bool true) rfl hS ?_;refine tna 4 (.func (.func 266) #[] #[.pointer (some ⟨bx,0,none⟩)]) rfl hS ?_;refine tna 5 (.slice (some ⟨g,0,none⟩) n cap) rfl hS ?_;refine tna 6 (.int .i64 (jj:Int)) rfl hS ?_;refine tnb 7 (.pointer (some ⟨g,jj,none⟩)) rfl hS ?_;refine tnd 8 (.int .i64 (x:Int)) rfl (.inl ⟨by rfl,fun w' hw'=>by have c:=(HSE.out w' hw').cell hcx id;go_simp⟩) hS ?_;refine tna 9 (.slice (some ⟨g,0,none⟩) n cap) rfl hS ?_;refine tna 10 (.int .i64 (jj:Int)) rfl hS ?_;refine tnb 11 (.int .i64 (j:Int)) rfl hS ?_;refine tnb 12 (.pointer (some ⟨g,j,none⟩)) rfl hS ?_;refine tnd 13 (.int .i64 (y:Int)) rfl (.inl ⟨by rfl,fun w' hw'=>by have c:=(HSE.out w' hw').cell hcy id;go_simp⟩) hS ?_;refine wA9 14 ?_;go_wp2_with fail;refine(HC.out _ (HK.out.trans' (HSE.out _ hS) (U:=fun j=>j=g) (fun _ _ h=>h) (fun _ _ h=>h.elim))).mono ?_;rintro e wq42 ⟨rfl,hk⟩;have hS1:=HSI.out _ ((HSE.out _ hS).trans hk);clear hS hk;go_wp2_with fail;refine⟨hS1,?_⟩;refine tnd 15 (.bool bb) rfl (.inl ⟨by rfl,fun _ _=>by have e:=HRB.out;go_simp⟩) hS1 ?_;refine tna 16 (.bool bb) rfl hS1 ?_;refine wpAnyH_done (by kernel_rfl) ?_ _;have HKR:=O (HSE.out _ hS1);clear hS1 HSE HSI;have HROW:=O (HROW.out.keep HKR.out id);have HK:=O (HK.out.trans' HKR.out (U:=fun j=>j=g) (fun _ _ h=>h) (fun _ _ h=>h.elim));have hcy:=HKR.out.cell hcy id;have hcx:=HKR.out.cell hcx id;clear HKR HC;cases bb
   ·have hstop:∀z∈(A++[y]).getLast?,cX fr z x=true:=by
     intro z hz;have e:z=y:=by simpa using hz.symm
     subst e;exact AE (by have:=HYX.out;omega) HAH.out
    clear hcy hcx;have HF:=O (HS.out.stop hstop);have HR2:Hid (fO _ base g cap (((A++[y])++x::B)++o.drop (k+1))):=O (by rw[←HF.out.1];exact HROW.out);clear hstop;go_wp2
    go_roundw
    case rel=>exact⟨k+1,(A++[y])++x::B,by omega,.inl (by omega),by go_num,HR2,O HF.out.2.1,O HF.out.2.2,HK⟩
    case measure=>simp[intOf];omega
   ·have HSD:=O (HS.out.down HAH.out)
    have hz1:=(HROW.out.set (k:=jj) (by rw[HYS.out,←HJJ.out];simp[HAL.out]) y)
    have hz2:=(hz1.1.set (k:=j) (by rw[List.length_set,HYS.out];simp[HAL.out]) x)
    have hz3:fO ((wq42.setCell ⟨g,jj,none⟩ (.int .i64 (y:Int))).setCell ⟨g,j,none⟩ (.int .i64 (x:Int))) base g cap (A++x::y::(B++o.drop (k+1))):=by
     have h:=hz2.1;rw[HYS.out,←HJJ.out,←HAL.out,Hi] at h;rw[←HJJ.out,←HAL.out];exact h
    have hkk:=HK.out.trans (hz1.2.trans hz2.2);have HZ:=O (And.intro hz3 hkk);have hf1:=HROW.out.free jj;have hf2:=hz1.1.free j;have hcy2:(wq42.setCell ⟨g,jj,none⟩ (.int .i64 (y:Int))).cell? ⟨g,j,none⟩=some (.int .i64 (y:Int)):=GU (by intro e;have:=HJJ.out;have e2:jj=j:=congrArg Addr.off e;omega) hcy;clear hz1 hz2 hz3 hkk;have hjjr:((jj:Nat):Int)<(n:Int):=hjn;go_wp2_with fail
    go_region
    have HZ2:=O (And.intro (HZ.out.1.keep (T:=aB) (aA.refl aB _).drew id) (HZ.out.2.drew));clear HZ hf1 hf2 hcy2 hcy hcx;go_wp2
    go_roundw
    case rel=>exact⟨j,_,A,y::B,by omega,by go_num,HZ2.1,HSD,HZ2.2⟩
    case measure=>simp[intOf];omega
 ·have hfin:o.drop k=[]:=List.drop_eq_nil_iff.2 (by rw[HN.out];omega)
  have htk:o.take k=o:=List.take_of_length_le (by rw[HN.out];omega);have hpost:mF w base g cap fr o (.returned (.tuple #[])) wr:=⟨rfl,P,by have h:=HROW.out;rwa [hfin,List.append_nil] at h,HRK.out,by have h:=HPM.out;rwa [htk] at h,HK.out⟩
  have HPO:=O hpost;clear hpost hfin htk;go_wp2_with fail
  go_end0
  exact HPO.out
theorem fO.of_owns{w:World}{base m pc:Nat}{pa:Option Addr}{l:List Nat}(h:w.ownsRow base 3 1 (.slice pa m pc) m (nV l))(hm:0<m)(hl:l.length=m):∃g,pa=some ⟨g,0,none⟩/\fO w base g pc l:=by
 rcases h.2 with⟨h1,-⟩|⟨g,cap,cur,h1,h2,h3,h4,h5,h6,h7⟩
 ·cases h1;omega
 ·cases h1
  exact⟨g,rfl,h2,by omega,h5,cur,h3,by omega,by rw[hl,←h7,Nat.mul_one]⟩
def wY(w w':World)(v:Value)(l:List Nat):Prop:=Rd w' 1 v l.length (nV l)/\∀k,v.ownBlock=some k->w.heap.size≤k
def sC(w:World)(o:Option (List Nat))(e:Ending)(w':World):Prop:=
 match o with
 | none=>e=.returned (.tuple #[.slice none 0 0,.bool false])/\aA aB w w'
 | some l=>∃v,e=.returned (.tuple #[v,.bool true])/\wY w w' v l/\aA aB w w'
theorem JN(th:List Bool){k:Nat}{b:Bool}(h:th[k]?=some b):(th.take (k+1)).countP id=(th.take k).countP id+if b then 1 else 0:=by
 rw[List.take_add_one,h,List.countP_append];cases b<;>rfl
def tS(fr:List Int):Bool:=fr.all fun x=>decide (0≤x) && decide (x≤4096)
def jH(fr:List Int)(th:List Bool)(cp:Int):Bool:=decide (2≤fr.length) && decide (fr.length≤8) && decide (th.length=fr.length) && decide (1≤cp) && decide (cp≤3) && tS fr
theorem D7{fr:List Int}{th:List Bool}{cp:Int}(h:jH fr th cp=true):2≤fr.length/\fr.length≤8/\th.length=fr.length/\1≤cp/\cp≤3/\∀x∈fr,0≤x/\x≤4096:=by
 unfold jH tS at h;simp only[Bool.and_eq_true,decide_eq_true_eq,List.all_eq_true] at h;exact⟨h.1.1.1.1.1,h.1.1.1.1.2,h.1.1.1.2,h.1.1.2,h.1.2,h.2⟩
theorem LO{w:World}{v:Value}{l:List Bool}(h:Rd w 1 v l.length (l.map Value.bool)){k:Nat}{x:Bool}(hk:l[k]?=some x):∃g o cap,v=.slice (some ⟨g,o,none⟩) l.length cap/\w.cell? ⟨g,o+k,none⟩=some (.bool x):=by
 obtain⟨h0,a,cap,rfl,h1,h2,h3,h4⟩:=h;have hlt:=(List.getElem?_eq_some_iff.1 hk).1;obtain⟨g,o,rfl,hc⟩:=h4 (by rw[List.length_map];omega);exact⟨g,o,cap,rfl,hc k _ (by rw[List.getElem?_map,hk];rfl)⟩
theorem Ft(w:World)(bx base g cap:Nat)(fr:List Int)(o:List Nat)(v:Value)(hr:Rd w 1 v fr.length (fr.map fun x=>.int .i64 x))(hB:w.heap[bx]?=some (.cells #[v] 42 (0,0)))(hgv:v.ownBlock≠some g)
 (hrow:fO w base g cap o) (h8:o.length≤8) (hinc:o.Pairwise (·<·)) (hlt:∀i∈o,i<fr.length) :
 Calls Tryz.prog 269 #[.slice (some ⟨g,0,none⟩) o.length cap,.int .i64 (o.length:Int),(.func (.func 266) #[] #[.pointer (some ⟨bx,0,none⟩)])] w (mF w base g cap fr o):=by
 have HC:=Fs w bx base g cap fr o v hr hB hgv hrow h8 hinc hlt;obtain⟨n,hn⟩:∃n,o.length=n:=⟨_,rfl⟩
 rw[hn] at HC h8 ⊢;have HC:=O HC;clear hr hB hgv hrow hinc hlt hn;have h20:¬(20:Int)≤(n:Int):=by omega
 have h20':¬(20:Int)<(n:Int):=by omega
 go_in;go_wp2_with fail
 go_loopw [7,8] (fun x y wr=>x=.int .i64 0/\y=.int .i64 20/\wr=w) (fun _ _ _=>0)
 case atStart=>exact⟨rfl,rfl,rfl⟩
 case round =>
 obtain⟨rfl,rfl,rfl⟩:=hrel;go_wp2_with fail;refine HC.out.mono ?_;rintro e w2 ⟨rfl,P,h1,h2,h3,h4⟩;have HP:Hid (mF _ base g cap fr o (.returned (.tuple #[])) w2):=O ⟨rfl,P,h1,h2,h3,h4⟩;clear h1 h2 h3 h4 HC;go_wp2_with fail
 go_loopw [6] (fun x wr=>x=.int .i64 20/\wr=w2) (fun _ _=>0)
 case atStart=>exact⟨rfl,rfl⟩
 case round =>
 obtain⟨rfl,rfl⟩:=hrel;go_wp2_with fail
 go_end0
 exact HP.out
theorem Aa(w:World)(bx base g cap:Nat)(fr:List Int)(o:List Nat)(v:Value)(hr:Rd w 1 v fr.length (fr.map fun x=>.int .i64 x))(hB:w.heap[bx]?=some (.cells #[v] 42 (0,0)))(hgv:v.ownBlock≠some g)
 (hrow:fO w base g cap o) (h8:o.length≤8) (hinc:o.Pairwise (·<·)) (hlt:∀i∈o,i<fr.length) :
 Calls Tryz.prog 265 #[.slice (some ⟨g,0,none⟩) o.length cap,(.func (.func 266) #[] #[.pointer (some ⟨bx,0,none⟩)])] w (mF w base g cap fr o):=by
 have HC:=Ft w bx base g cap fr o v hr hB hgv hrow h8 hinc hlt;obtain⟨n,hn⟩:∃n,o.length=n:=⟨_,rfl⟩
 rw[hn] at HC ⊢;have HC:=O HC;clear hr hB hgv hrow hinc hlt hn h8;go_in;go_wp2_with fail;refine HC.out.mono ?_;rintro e w2 ⟨rfl,P,h1,h2,h3,h4⟩;have HP:Hid (mF w base g cap fr o (.returned (.tuple #[])) w2):=O ⟨rfl,P,h1,h2,h3,h4⟩;clear h1 h2 h3 h4 HC;go_wp2_with fail
 go_end0
 exact HP.out
theorem Fu(w:World)(v vt:Value)(fr:List Int)(th:List Bool)(cp:Nat)(hr:Rd w 1 v fr.length (fr.map fun x=>.int .i64 x))(ht:Rd w 1 vt th.length (th.map Value.bool))(h8:fr.length≤8)(hl:th.length=fr.length)(hcp:1≤cp)(hcp3:cp≤3) :
 Calls Tryz.prog 248 #[v,vt,.int .i64 (cp:Int)] w (sC w (bV fr th cp)):=by
 obtain⟨oa,ca,rfl,-,-⟩:=hr.form;obtain⟨ta,tc,rfl,-,-⟩:=ht.form;obtain⟨n,hn⟩:∃n,fr.length=n:=⟨_,rfl⟩
 rw[hn] at hr h8 hl ⊢;rw[hl] at ht ⊢;have HN:=O hn;have HTL:=O hl;obtain⟨w1,hw1,hk1,hb1,hs1⟩:=aT w #[Value.slice oa n ca] 42;have hsz:=hk1.size;have HK1:=O hk1;have HBX:=O hb1;have HR:=O (hr.keep hk1 fun _ _=>id);have HT:=O (ht.keep hk1 fun _ _=>id);have HS1:=O hs1;have HR0:=O hr;clear hk1 hb1 hs1 hr ht hn hl;go_in;go_wp2_with fail;clear hw1;have hcb:=aC HBX.out (i:=0) rfl
 go_step3
 go_wp2_with fail
 go_step3
 go_wp2_with fail
 go_loopw [8,9,14] (fun t u i wr=>∃(k m q:Nat) (pa:Option Addr) (pc:Nat),k≤n/\m≤k/\q≤k/\t=.slice pa m pc/\u=.int .i64 q/\i=.int .i64 k/\Hid ((cU fr th k).length=m)/\Hid ((th.take k).countP id=q)/\Hid (wr.ownsRow w1.heap.size 3 1 (.slice pa m pc) m (nV (cU fr th k)))/\Hid (aA aB w1 wr)) (fun _ _ i _=>n-(intOf i).toNat)
 case atStart=>exact⟨0,0,0,none,0,Nat.zero_le _,Nat.le_refl _,Nat.le_refl _,rfl,rfl,rfl,O rfl,O rfl,O (World.ownsRow_nil _ _ _ _),O (aA.refl _ _)⟩
 case round =>
 obtain⟨k,m,q,pa,pc,hk,hmk,hqk,rfl,rfl,rfl,HM,HQ,HO,HK⟩:=hrel;clear hcb;have hcb:=HK.out.cell (aC HBX.out (i:=0) rfl) id
 by_cases hlt:k<n
 ·have hki:(k:Int)<(n:Int):=by omega
  have hk0:(0:Int)≤(k:Int):=by omega
  obtain⟨x,hx⟩:∃x,fr[k]?=some x:=⟨fr[k]'(by rw[HN.out];exact hlt),List.getElem?_eq_getElem _⟩
  obtain⟨y,hy⟩:∃x,th[k]?=some x:=⟨th[k]'(by rw[HTL.out];exact hlt),List.getElem?_eq_getElem _⟩
  have hr:=HR.out.keep HK.out fun _ _=>id
  rw[←HN.out] at hr;obtain⟨p,o,cap,hv,hcx⟩:=rD hr hx;rw[HN.out] at hv;have e1:oa=some ⟨p,o,none⟩:=by cases hv;rfl
  subst e1;have hr2:=HT.out.keep HK.out fun _ _=>id
  rw[←HTL.out] at hr2;obtain⟨p2,o2,cap2,hv2,hcy⟩:=LO hr2 hy;rw[HTL.out] at hv2;have e1:ta=some ⟨p2,o2,none⟩:=by cases hv2;rfl
  subst e1;have HTS:=O (qN fr th k);have HUP:=O (JN th hy);have HCT:Hid (eJ fr th k=(y && decide (0<x))):=O (by unfold eJ;rw[List.getD_eq_getElem?_getD,List.getD_eq_getElem?_getD,hx,hy];rfl);clear hr hr2 hv hv2 hx hy;cases y
  ·go_wp2
   go_roundw
   case rel=>exact⟨k+1,m,q,pa,pc,by omega,by omega,by omega,rfl,rfl,by go_num,O (by rw[HTS.out,HCT.out];simpa using HM.out),O (by rw[HUP.out,HQ.out];rfl),O (by rw[HTS.out,HCT.out];simpa using HO.out),HK⟩
   case measure=>simp[intOf];omega
  ·by_cases hx0:0<x
   ·obtain⟨w8,hw8,hk8,hb8,hs8⟩:=aT wr #[.int .i64 (k:Int)] 3
    have HR8:Hid (Rd w8 1 (.slice (some ⟨wr.heap.size,0,none⟩) 1 1) 1 [.int .i64 (k:Int)]):=O (eE (n:=1) (size:=1) (vs:=[.int .i64 (k:Int)]) hb8 rfl (by unfold maxLen;omega));have HO8:=O (hk8.owns HO.out fun _ _=>id);have HK8:=O (HK.out.trans hk8);have hsz8:w1.heap.size≤w8.heap.size:=HK8.out.size;have HTT:Hid (cU fr th (k+1)=cU fr th k++[k]):=O (by rw[HTS.out,HCT.out,decide_eq_true hx0];rfl);have hone:∀u∈[Value.int .i64 (k:Int)],u.oneCell'=true:=by simp[Value.oneCell']
    clear hk8 hb8 hs8
    go_wp2_with (first
     | (at_builtin;try rw[hw8]
        refine aN rfl (.tmp 29) (.tmp 31) 42 rfl w1.heap.size 3 (.int .i64 0) 1 8 Tryz.underlying42 EH rfl (by decide) (.slice pa m pc) m (nV (cU fr th k)) rfl HO8.out (.slice (some ⟨wr.heap.size,0,none⟩) 1 1) 1 [.int .i64 (k:Int)] rfl HR8.out hone (by unfold maxLen;omega) (by omega) hsz8 ?_;intro v' w5 ho5 hk5 hn5 hb5;obtain⟨va,vc,rfl,-,-⟩:=(Rd.of_owns ho5).form;have HO5:Hid (w5.ownsRow w1.heap.size 3 1 (.slice va (m+1) vc) (m+1) (nV (cU fr th (k+1)))):=O (by rw[HTT.out];unfold nV;rw[List.map_append];exact ho5);have HK5:=O (HK8.out.trans' hk5 (U:=aB) (fun _ _ h=>h) (fun i hi e=>by have:=bJ HO8.out e;omega));clear ho5 hk5 hn5 hb5 hw8))
    go_roundw
    case rel=>exact⟨k+1,m+1,q+1,va,vc,by omega,by omega,by omega,rfl,by go_num,by go_num,O (by rw[HTT.out,List.length_append,HM.out];rfl),O (by rw[HUP.out,HQ.out];rfl),HO5,HK5⟩
    case measure=>simp[intOf];omega
   ·go_wp2
    go_roundw
    case rel=>exact⟨k+1,m,q+1,pa,pc,by omega,by omega,by omega,rfl,by go_num,by go_num,O (by rw[HTS.out,HCT.out,decide_eq_false hx0];simpa using HM.out),O (by rw[HUP.out,HQ.out];rfl),O (by rw[HTS.out,HCT.out,decide_eq_false hx0];simpa using HO.out),HK⟩
    case measure=>simp[intOf];omega
 ·obtain rfl:n=k:=by omega
  have hup:upN th=q:=by
   have h:=HQ.out;rw[List.take_of_length_le (by rw[HTL.out];exact Nat.le_refl _)] at h;exact h
  obtain⟨wt,hwt⟩:∃wt,min cp q=wt:=⟨_,rfl⟩
  have hwn:kO th cp=wt:=by unfold kO;rw[hup];exact hwt
  have hmin:min (cp:Int) (q:Int)=(wt:Int):=by omega
  have hmin2:(if (q:Int)<(cp:Int) then (q:Int) else (cp:Int))=(wt:Int):=by split<;>omega
  have hCH:bV fr th cp=if m=0\/m<wt then none else some ((iW fr th).take wt):=by
   unfold bV;rw[HN.out,hwn,HM.out]
   by_cases h0:cU fr th n=[]
   ·have hm0:m=0:=by rw[←HM.out,h0];rfl
    rw[if_pos (.inl h0),if_pos (.inl hm0)]
   ·have hm0:¬m=0:=fun e=>h0 (List.length_eq_zero_iff.1 (by rw[HM.out,e]))
    by_cases h1:m<wt
    ·rw[if_pos (.inr h1),if_pos (.inr h1)]
    ·rw[if_neg (fun h=>h.elim h0 h1),if_neg (fun h=>h.elim hm0 h1)]
  have HCH:=O hCH;have HWN:=O hwn;have hwt8:wt≤n:=by omega
  clear hCH hwn hup hwt;have hKF:=HK1.out.trans HK.out;have HKF:=O hKF;clear hKF
  by_cases hno:m=0\/m<wt
  ·have hpost:∀e,e=.returned (.tuple #[.slice none 0 0,.bool false])->sC w (bV fr th cp) e wr:=fun e he=>by rw[HCH.out,if_pos hno];exact⟨he,HKF.out⟩
   have HPO:=O hpost;clear hpost
   by_cases hm0:m=0
   ·subst hm0
    go_wp2
    go_ret2
    exact HPO.out _ rfl
   ·have hmi:¬(m:Int)=0:=by omega
    have hmw:(m:Int)<(wt:Int):=by omega
    go_wp2
    go_ret2
    exact HPO.out _ rfl
  ·have hm0:0<m:=by omega
   have hmi:¬(m:Int)=0:=by omega
   have hmw:¬(m:Int)<(wt:Int):=by omega
   obtain⟨g,e1,hrow⟩:=fO.of_owns HO.out hm0 HM.out;subst e1;have hgw:=hrow.1
   have HC:=Aa wr w.heap.size w1.heap.size g pc fr (cU fr th n) _ (by rw[HN.out];exact HR.out.keep HK.out fun _ _=>id) (HK.out.blk HBX.out id) (fun e=>by
    have h1:=HR0.out.lt (by
     have:=HN.out;have h2:0<(cU fr th n).length:=by rw[HM.out];exact hm0
     have h3:=Fc fr th n;rw[List.length_map];omega)
    obtain⟨k',h4,h5⟩:=h1;rw[e] at h4;cases h4
    omega) hrow (by rw[HM.out];omega) (List.Pairwise.filter _ List.pairwise_lt_range) (fun i hi=>by rw[HN.out];exact(rT.1 hi).1)
   rw[HM.out] at HC;have HC:=O HC;have hwtm:(wt:Int)≤(m:Int):=by omega
   have hwt0:(0:Int)≤(wt:Int):=by omega
   have hpcm:m≤pc:=by have:=hrow.2.1;rw[HM.out] at this;exact this
   have hpci:(wt:Int)≤(pc:Int):=by omega
   have HGW:=O hgw;clear hrow hgw;go_wp2_with fail;refine HC.out.mono ?_;rintro e w6 ⟨rfl,P,h1,h2,h3,h4⟩;have hrk:P=iW fr th:=vV (by rw[HN.out];exact h3) h2;have hrd:=h1.rd;have hPl:P.length=m:=by rw[h3.length_eq,HM.out]
   rw[hPl] at hrd
   have HNR:Hid (wY w w6 (.slice (some ⟨g,0,none⟩) wt wt) ((iW fr th).take wt)):=O (by
    rw[←hrk];have hlen:(P.take wt).length=wt:=by rw[List.length_take,hPl];omega
    obtain⟨k1,k2,k3,cur,k4,k5,k6⟩:=h1;rw[hPl] at k2 k6;refine⟨⟨by simp[nV],some ⟨g,0,none⟩,wt,by rw[hlen],by omega,by omega,(by intro e;cases e),fun _=>⟨g,0,rfl,fun i u hu=>?_⟩⟩,fun b hb=>?_⟩
    ·refine aC k4 ?_
     have hi:i<wt:=by have:=(List.getElem?_eq_some_iff.1 hu).1;unfold nV at this;rw[List.length_map,hlen] at this;exact this
     unfold nV at hu k6;rw[List.map_take,←k6,List.take_take,List.getElem?_take,if_pos (by omega)] at hu
     simpa using hu
    ·have e:g=b:=Option.some.inj hb
     have:=HGW.out;omega)
   have HKZ:=O (HKF.out.trans' h4 (U:=aB) (fun _ _ h=>h) (fun i hi e=>by have:=HGW.out;omega));have hpost:∀e,e=.returned (.tuple #[.slice (some ⟨g,0,none⟩) wt wt,.bool true])->sC w (bV fr th cp) e w6:=fun e he=>by rw[HCH.out,if_neg hno];exact⟨_,he,HNR.out,HKZ.out⟩
   have HPO:=O hpost;clear hpost h1 h2 h3 h4 hrk hrd hPl HC;go_wp2
   go_ret2
   exact HPO.out _ rfl
def kF(x:Int):Bool:=decide (x<0) || decide (4096<x)
theorem Fv(w:World)(x:Int):Calls Tryz.prog 263 #[.int .i64 x] w fun e w'=>e=.returned (.bool (kF x))/\w=w':=by
 by_cases h:x<0
 ·have e:kF x=true:=by unfold kF;rw[decide_eq_true h];rfl
  rw[e];go_in;go_wp2;go_ret;exact⟨rfl,rfl⟩
 ·have e:kF x=decide (4096<x):=by unfold kF;rw[decide_eq_false h];rfl
  rw[e];obtain⟨bb,hbb⟩:∃b,decide (4096<x)=b:=⟨_,rfl⟩
  have hd:decide (x<0)=false:=decide_eq_false h;go_in;go_wp2;go_ret;exact⟨rfl,rfl⟩
def LP(w:World)(b:Bool)(e:Ending)(w':World):Prop:=∃r:Int,e=.returned (.int .i64 r)/\(b=true->0≤r)/\(b=false->r<0)/\aA aB w w'
theorem Fw(w:World)(v:Value)(l:List Int)(hr:Rd w 1 v l.length (l.map fun x=>.int .i64 x))(h8:l.length≤65536):Calls Tryz.prog 117 #[v,.func (.func 263) #[] #[]] w (LP w (l.any kF)):=by
 obtain⟨oa,ca,rfl,-,-⟩:=hr.form;obtain⟨n,hn⟩:∃n,l.length=n:=⟨_,rfl⟩
 obtain⟨ab,hab⟩:∃b,l.any kF=b:=⟨_,rfl⟩
 have HAB:=O hab;rw[hab];clear hab;have HN:=O hn;have HR:=O hr;rw[hn] at HR h8 ⊢;clear hr hn;go_in;go_wp2_with fail
 go_loopw [8] (fun i wr=>∃k:Nat,k≤n/\i=.int .i64 k/\Hid ((l.take k).any kF=false)/\Hid (aA aB w wr)) (fun i _=>n-(intOf i).toNat)
 case atStart=>exact⟨0,Nat.zero_le _,rfl,O (by simp),O (aA.refl _ _)⟩
 case round =>
 obtain⟨k,hk,rfl,HT,HK⟩:=hrel
 by_cases hlt:k<n
 ·have hki:(k:Int)<(n:Int):=by omega
  have hk0:(0:Int)≤(k:Int):=by omega
  obtain⟨x,hx⟩:∃x,l[k]?=some x:=⟨l[k]'(by rw[HN.out];exact hlt),List.getElem?_eq_getElem _⟩
  have hr:=HR.out.keep HK.out fun _ _=>id
  rw[←HN.out] at hr;obtain⟨p,o,cap,hv,hcx⟩:=rD hr hx;rw[HN.out] at hv;have e1:oa=some ⟨p,o,none⟩:=by cases hv;rfl
  subst e1;have HX:=O hx;have HC:=Fv wr x;obtain⟨bb,hbb⟩:∃b,kF x=b:=⟨_,rfl⟩
  rw[hbb] at HC;have HC:=O HC;have HBB:=O hbb;clear hr hv hx hbb;go_wp2_with fail;refine HC.out.mono ?_;rintro e w4 ⟨rfl,rfl⟩;cases bb
  ·have HT2:Hid ((l.take (k+1)).any kF=false):=O (by rw[List.take_add_one,HX.out,List.any_append,HT.out];simpa using HBB.out)
   go_wp2
   go_roundw
   case rel=>exact⟨k+1,by omega,by go_num,HT2,HK⟩
   case measure=>simp[intOf];omega
  ·have ha:ab=true:=by rw[←HAB.out];exact List.any_eq_true.2 ⟨x,List.mem_of_getElem? HX.out,HBB.out⟩
   subst ha;go_wp2;go_ret;exact⟨_,rfl,fun _=>hk0,(fun h=>by cases h),HK.out⟩
 ·obtain rfl:n=k:=by omega
  have ha:ab=false:=by
   have h:=HT.out;rw[List.take_of_length_le (by rw[HN.out];exact Nat.le_refl _)] at h;rw[←HAB.out];exact h
  subst ha;go_wp2;go_ret;exact⟨_,rfl,(fun h=>by cases h),(fun _=>by decide),HK.out⟩
theorem BE(w:World)(v:Value)(l:List Int)(hr:Rd w 1 v l.length (l.map fun x=>.int .i64 x))(h8:l.length≤65536):Calls Tryz.prog 264 #[v,.func (.func 263) #[] #[]] w fun e w'=>e=.returned (.bool (l.any kF))/\aA aB w w':=by
 have HC:=O (Fw w v l hr h8);obtain⟨bb,hbb⟩:∃b,l.any kF=b:=⟨_,rfl⟩
 rw[hbb] at HC ⊢;clear hr h8 hbb;go_in;go_wp2_with fail;refine HC.out.mono ?_;rintro e w2 ⟨r,rfl,h1,h2,hk⟩;have HK:=O hk;clear hk HC;cases bb
 ·have hr0:¬0≤r:=by have:=h2 rfl;omega
  have hd:decide (0≤r)=false:=decide_eq_false hr0;clear h1 h2;go_wp2;go_ret;exact⟨rfl,HK.out⟩
 ·have hr0:0≤r:=h1 rfl
  have hd:decide (0≤r)=true:=decide_eq_true hr0;clear h1 h2;go_wp2;go_ret;exact⟨rfl,HK.out⟩
theorem Fx(fr:List Int):tS fr=!fr.any kF:=by
 unfold tS kF;rw[Bool.eq_iff_iff,Bool.not_eq_true',List.any_eq_false,List.all_eq_true];refine forall_congr' fun x=>forall_congr' fun _=>?_
 rw[Bool.and_eq_true,decide_eq_true_eq,decide_eq_true_eq,Bool.or_eq_true,decide_eq_true_eq,decide_eq_true_eq];omega
def Hk(w:World)(b:Bool)(e:Ending)(w':World):Prop:=e=.returned (.int .i64 (if b then 0 else 2))/\aA aB w w'
theorem Fy(w:World)(v vt:Value)(fr:List Int)(th:List Bool)(cp:Int)(hr:Rd w 1 v fr.length (fr.map fun x=>.int .i64 x))(ht:Rd w 1 vt th.length (th.map Value.bool)) :
 Calls Tryz.prog 247 #[v,vt,.int .i64 cp] w (Hk w (jH fr th cp)):=by
 have HCF:=O (fun(h:fr.length≤65536)=>BE w v fr hr h);obtain⟨oa,ca,rfl,-,-⟩:=hr.form;obtain⟨ta,tc,rfl,-,-⟩:=ht.form;have hm1:fr.length≤maxLen:=by obtain⟨_,a',c',h1,h2,h3,-⟩:=hr;omega
 have hm2:th.length≤maxLen:=by obtain⟨_,a',c',h1,h2,h3,-⟩:=ht;omega
 unfold maxLen at hm1 hm2;have hck:jH fr th cp=(decide (2≤fr.length) && decide (fr.length≤8) && decide (th.length=fr.length) && decide (1≤cp) && decide (cp≤3) && !fr.any kF):=by unfold jH;rw[Fx]
 rw[hck];obtain⟨n,hn⟩:∃n,fr.length=n:=⟨_,rfl⟩
 obtain⟨q,hq⟩:∃n,th.length=n:=⟨_,rfl⟩
 obtain⟨od,hod⟩:∃b,fr.any kF=b:=⟨_,rfl⟩
 rw[hn,hod] at HCF;rw[hn] at hm1 ⊢;rw[hq] at hm2 ⊢;rw[hod];clear hr ht hck hn hq hod;have HK0:=O (aA.refl aB w)
 by_cases h1:2≤n
 ·by_cases h2:n≤8
  ·by_cases h3:q=n
   ·subst h3
    have i1:¬(q:Int)<2:=by omega
    have i2:¬(8:Int)<(q:Int):=by omega
    have d1:decide ((q:Int)<2)=false:=decide_eq_false i1;have d2:decide ((8:Int)<(q:Int))=false:=decide_eq_false i2;rw[decide_eq_true h1,decide_eq_true h2,decide_eq_true (rfl:q=q)]
    by_cases h4:1≤cp
    ·by_cases h5:cp≤3
     ·have i3:¬cp<1:=by omega
      have i4:¬3<cp:=by omega
      have d3:decide (cp<1)=false:=decide_eq_false i3;have d4:decide (3<cp)=false:=decide_eq_false i4;rw[decide_eq_true h4,decide_eq_true h5];have HC:=O (HCF.out (by omega));go_in;go_wp2_with fail;refine HC.out.mono ?_;rintro e w2 ⟨rfl,hk⟩;have HK:=O hk;clear hk HC;cases od
      ·go_wp2
       go_ret;exact⟨rfl,HK.out⟩
      ·go_wp2
       go_ret;exact⟨rfl,HK.out⟩
     ·have i3:¬cp<1:=by omega
      have i4:3<cp:=by omega
      have d3:decide (cp<1)=false:=decide_eq_false i3;have d4:decide (3<cp)=true:=decide_eq_true i4;rw[decide_eq_true h4,decide_eq_false h5];go_in;go_wp2;go_ret;exact⟨rfl,HK0.out⟩
    ·have i3:cp<1:=by omega
     have d3:decide (cp<1)=true:=decide_eq_true i3;rw[decide_eq_false h4];go_in;go_wp2;go_ret;exact⟨rfl,HK0.out⟩
   ·have i1:¬(n:Int)<2:=by omega
    have i2:¬(8:Int)<(n:Int):=by omega
    have i3:(q:Int)≠(n:Int):=by omega
    have d1:decide ((n:Int)<2)=false:=decide_eq_false i1;have d2:decide ((8:Int)<(n:Int))=false:=decide_eq_false i2;have hb1:((q:Int) != (n:Int))=true:=bne_iff_ne.2 i3;have hb2:((q:Int) == (n:Int))=false:=beq_false_of_ne i3;rw[decide_eq_true h1,decide_eq_true h2,decide_eq_false h3];go_in;go_wp2;go_ret;exact⟨rfl,HK0.out⟩
  ·have i1:¬(n:Int)<2:=by omega
   have i2:(8:Int)<(n:Int):=by omega
   have d1:decide ((n:Int)<2)=false:=decide_eq_false i1;have d2:decide ((8:Int)<(n:Int))=true:=decide_eq_true i2;rw[decide_eq_true h1,decide_eq_false h2];go_in;go_wp2;go_ret;exact⟨rfl,HK0.out⟩
 ·have i1:(n:Int)<2:=by omega
  have d1:decide ((n:Int)<2)=true:=decide_eq_true i1;rw[decide_eq_false h1];go_in;go_wp2;go_ret;exact⟨rfl,HK0.out⟩
def nO(w:World)(fr:List Int)(th:List Bool)(cp:Int)(e:Ending)(w':World):Prop:=
 if jH fr th cp then
  match bV fr th cp.toNat with
  | none=>e=.returned (.tuple #[.slice none 0 0,.int .i64 15])/\aA aB w w'
  | some l=>∃v,e=.returned (.tuple #[v,.int .i64 0])/\wY w w' v l/\aA aB w w'
 else e=.returned (.tuple #[.slice none 0 0,.int .i64 2])/\aA aB w w'
theorem wY.of{w w1 w2:World}{v:Value}{l:List Nat}(h:wY w1 w2 v l)(k:aA aB w w1):wY w w2 v l:=⟨h.1,fun b hb=>Nat.le_trans k.size (h.2 b hb)⟩
theorem D8(w:World)(v vt:Value)(fr:List Int)(th:List Bool)(cp:Int)(hr:Rd w 1 v fr.length (fr.map fun x=>.int .i64 x))(ht:Rd w 1 vt th.length (th.map Value.bool)) :
 Calls Tryz.prog 219 #[v,vt,.int .i64 cp] w (nO w fr th cp):=by
 have HC:=O (Fy w v vt fr th cp hr ht);obtain⟨bb,hbb⟩:∃b,jH fr th cp=b:=⟨_,rfl⟩
 have HCH:=O (fun(h:bb=true) (wx:World) (k:aA aB w wx)=>by
  rw[←hbb] at h;obtain⟨h1,h2,h3,h4,h5,-⟩:=D7 h;have:=Fu wx v vt fr th cp.toNat (hr.keep k fun _ _=>id) (ht.keep k fun _ _=>id) h2 h3 (by omega) (by omega)
  rwa [Int.toNat_of_nonneg (by omega)] at this)
 have HBB:=O hbb;rw[hbb] at HC;obtain⟨oa,ca,rfl,-,-⟩:=hr.form;obtain⟨ta,tc,rfl,-,-⟩:=ht.form;clear hr ht hbb;cases bb
 ·have HP:Hid (∀w',aA aB w w'->∀e,e=.returned (.tuple #[.slice none 0 0,.int .i64 2])->nO w fr th cp e w'):=O (fun w' k e he=>by unfold nO;rw[HBB.out,if_neg (by decide)];exact⟨he,k⟩)
  clear HCH;go_in;go_wp2_with fail;refine HC.out.mono ?_;rintro e w2 ⟨rfl,hk⟩;have HK:=O hk;clear hk HC;go_wp2
  go_ret2
  exact HP.out _ HK.out _ rfl
 ·obtain⟨o,ho⟩:∃o,bV fr th cp.toNat=o:=⟨_,rfl⟩
  have HO:=O ho;rw[ho] at HCH;clear ho;have HP1:Hid (o=none->∀w',aA aB w w'->∀e,e=.returned (.tuple #[.slice none 0 0,.int .i64 15])->nO w fr th cp e w'):=O (fun h w' k e he=>by unfold nO;rw[HBB.out,if_pos rfl,HO.out,h];exact⟨he,k⟩);have HP2:Hid (∀l,o=some l->∀v w',wY w w' v l->aA aB w w'->∀e,e=.returned (.tuple #[v,.int .i64 0])->nO w fr th cp e w'):=O (fun l h v w' hn k e he=>by unfold nO;rw[HBB.out,if_pos rfl,HO.out,h];exact⟨v,he,hn,k⟩);clear HBB HO;go_in;go_wp2_with fail;refine HC.out.mono ?_;rintro e w2 ⟨rfl,hk⟩;have HK:=O hk;clear hk HC;go_wp2_with fail;refine(HCH.out (by simp) _ HK.out).mono ?_;intro e w3 hpost;cases o with
  | none =>
    obtain⟨rfl,hk⟩:=hpost;have HK2:=O (HK.out.trans hk);clear hk HCH;go_wp2
    go_ret2
    exact HP1.out (by simp) _ HK2.out _ rfl
  | some l =>
    obtain⟨v,rfl,hnr,hk⟩:=hpost;have HNR:=O (hnr.of HK.out);have HK2:=O (HK.out.trans hk);obtain⟨va,vc,rfl,-,-⟩:=hnr.1.form;clear hk HCH hnr;go_wp2
    go_ret2
    exact HP2.out l rfl _ _ HNR.out HK2.out _ rfl
theorem vD(w:World)(v v2:Value)(l m:List Int)(hl:Rd w 1 v l.length (l.map fun x=>.int .i64 x))(hm:Rd w 1 v2 m.length (m.map fun x=>.int .i64 x)):Calls Tryz.prog 23 #[v,v2] w (aX w (decide (l=m))):=by
 obtain⟨la,lc,rfl,-,-⟩:=hl.form;obtain⟨ma,mc,rfl,-,-⟩:=hm.form;have hlx:l.length≤maxLen:=by obtain⟨_,a',c',h1,h2,h3,-⟩:=hl;omega
 unfold maxLen at hlx;obtain⟨bb,hbb⟩:∃b,decide (l=m)=b:=⟨_,rfl⟩
 have HBB:=O hbb;rw[hbb];clear hbb;obtain⟨n,hn⟩:∃n,l.length=n:=⟨_,rfl⟩
 obtain⟨q,hq⟩:∃n,m.length=n:=⟨_,rfl⟩
 have HL:=O hl;have HM:=O hm;have HN:=O hn;have HQ:=O hq;rw[hn] at HL hlx ⊢;rw[hq] at HM ⊢;clear hl hm hn hq
 by_cases hne:n=q
 ·subst hne
  go_in;go_wp2_with fail
  go_loopw [5] (fun t wr=>∃k:Nat,k≤n/\t=.int .i64 k/\Hid (l.take k=m.take k)/\Hid (aA aB w wr)) (fun t _=>n-(intOf t).toNat)
  case atStart=>exact⟨0,Nat.zero_le _,rfl,O (by simp),O (aA.refl _ _)⟩
  case round =>
  obtain⟨k,hk,rfl,HT,HK⟩:=hrel
  by_cases hlt:k<n
  ·have hki:(k:Int)<(n:Int):=by omega
   have hk0:(0:Int)≤(k:Int):=by omega
   obtain⟨x,hx⟩:∃x,l[k]?=some x:=⟨l[k]'(by rw[HN.out];exact hlt),List.getElem?_eq_getElem _⟩
   obtain⟨y,hy⟩:∃x,m[k]?=some x:=⟨m[k]'(by rw[HQ.out];exact hlt),List.getElem?_eq_getElem _⟩
   have hr:=HL.out.keep HK.out fun _ _=>id
   rw[←HN.out] at hr;obtain⟨p,o,cap,hv,hc⟩:=rD hr hx;rw[HN.out] at hv;have e1:la=some ⟨p,o,none⟩:=by cases hv;rfl
   subst e1;have hr2:=HM.out.keep HK.out fun _ _=>id
   rw[←HQ.out] at hr2;obtain⟨p2,o2,cap2,hv2,hc2⟩:=rD hr2 hy;rw[HQ.out] at hv2;have e1:ma=some ⟨p2,o2,none⟩:=by cases hv2;rfl
   subst e1;have HX:=O hx;have HY:=O hy;obtain⟨bi,hbi⟩:∃b,(x != y)=b:=⟨_,rfl⟩
   have HBI:=O hbi;clear hr hr2 hv hv2 hx hy hbi;go_wp2_with fail;obtain⟨S,hS0⟩:∃S:World->Prop,S=fun w'=>aA aB wr w':=⟨_,rfl⟩
   have HSE:=O (show ∀w',S w'->aA aB wr w' from fun w' h=>by rw[hS0] at h;exact h);have HSI:=O (show ∀w',aA aB wr w'->S w' from fun w' h=>by rw[hS0];exact h);have hS:S wr.drew:=by rw[hS0];exact(aA.refl _ _).drew
   clear hS0;refine wp_region_held (S:=S) (by kernel_rfl) ?_;change wpAnyH _ _ _ _ _ _ _ _ wr.drew;generalize wr.drew=wq41 at hS ⊢;refine tka 0 (.slice (some ⟨p,o,none⟩) n lc) rfl hS ?_;simp only[Act.put,List.setIfInBounds_toArray,List.set_cons_zero,List.set_cons_succ,List.getElem_toArray,List.getElem_cons_zero];refine tna 1 (.int .i64 (k:Int)) rfl hS ?_;refine tnb 2 (.pointer (some ⟨p,o+k,none⟩)) rfl hS ?_;refine tnd 3 (.int .i64 x) rfl (.inl ⟨by rfl,fun w' hw'=>by have c:=(HSE.out w' hw').cell hc id;go_simp⟩) hS ?_;refine tna 4 (.slice (some ⟨p2,o2,none⟩) n mc) rfl hS ?_;refine tna 5 (.int .i64 (k:Int)) rfl hS ?_;refine tnb 6 (.pointer (some ⟨p2,o2+k,none⟩)) rfl hS ?_;refine tnd 7 (.int .i64 y) rfl (.inl ⟨by rfl,fun w' hw'=>by have c:=(HSE.out w' hw').cell hc2 id;go_simp⟩) hS ?_;refine tnd 8 (.bool bi) rfl (.inl ⟨by rfl,fun _ _=>by have e:=HBI.out;subst e;go_simp⟩) hS ?_;refine wpAnyH_done (by kernel_rfl) ?_ _;have HKR:=O (HSE.out _ hS);clear hS HSE HSI;have HK:=O (HK.out.trans HKR.out);clear HKR hc hc2;cases bi
   ·have e:x=y:=by simpa using HBI.out
    have HTE:Hid (l.take (k+1)=m.take (k+1)):=O (by rw[List.take_add_one,List.take_add_one,HT.out,HX.out,HY.out,e]);go_wp2
    go_roundw
    case rel=>exact⟨k+1,by omega,by go_num,HTE,HK⟩
    case measure=>simp[intOf];omega
   ·have e:x≠y:=by simpa using HBI.out
    have hb:bb=false:=by
     rw[←HBB.out];refine decide_eq_false fun e2=>e ?_
     have h:=HX.out;rw[e2,HY.out] at h;exact(Option.some.inj h).symm
    subst hb;go_wp2;go_ret;exact⟨rfl,HK.out⟩
  ·obtain rfl:k=n:=by omega
   have hb:bb=true:=by
    rw[←HBB.out];have h:=HT.out;rw[List.take_of_length_le (by rw[HN.out];exact Nat.le_refl _),List.take_of_length_le (by rw[HQ.out];exact Nat.le_refl _)] at h;exact decide_eq_true h
   subst hb;go_wp2;go_ret;exact⟨rfl,HK.out⟩
 ·have hd:decide ((n:Int)=(q:Int))=false:=decide_eq_false (by omega)
  have hni:(n:Int)≠(q:Int):=by omega
  have hb1:((n:Int) != (q:Int))=true:=bne_iff_ne.2 hni;have hb2:((n:Int) == (q:Int))=false:=beq_false_of_ne hni;have hb:bb=false:=by rw[←HBB.out];exact decide_eq_false fun e=>hne (by rw[←HN.out,←HQ.out,e])
  subst hb;go_in;go_wp2;go_ret;exact⟨rfl,aA.refl _ _⟩
end
end Go.Proofs.YtiinnfhjpaeffaaGreat
