import Derived.Test.YtoeinblfcbpcmaaGreatDoorC27
import Derived.Test.YtoeinblfcbpcmaaGreatDoorC39
namespace Go.Proofs.YtoeinblfcbpcmaaGreatDoor
open Tryz
set_option maxHeartbeats 0
set_option maxRecDepth 100000
set_option linter.unusedVariables false
section
open Go.RowKit Go.Maps Go.ChangeMaps
section
variable {P:Program}{n:Nat}{Q:Exit->Act->World->Prop}{ops:Array Oper}{rest:List Oper}
end
abbrev Id:={ l:List UInt8 // l.length=32 }
def iL(n:Int):Value:=.int .i64 n
variable{s B1:Nat}{w3 W:World}{v:Value}
theorem LW(n l B1 b:Nat)(lst:List (List UInt8×Int))(J Jx:List Id->World->Prop)(Bs:Nat)(hA:AbidesFrom Bs J)(W:World)(qa:Bs≤W.heap.size)
 (hY:∀a x W,J a W->a.length<lst.length->YieldAt Fence.wide (n-1) prog l #[idV x.1] W fun e t =>
   (e=.returned (.bool true)/\J (a++[x]) t/\tH B1 W t)\/(e=.returned (.bool false)/\Jx (a++[x]) t))
 (y:W.heap[B1]?=some (.cells #[.map (some b)] 205 (0,0))) (Z:bI lL idV iL W b lst) (h0:J [] W) :
 CallsIn Fence.wide n prog 197 #[.func (.yield l) #[] #[],.pointer B1] W fun e t=>(∃v,e=.returned v) /\
  ((∃ys:List Id,(ys.map (·.1)).Perm (lst.map (·.1))/\J ys t)\/(∃a,True/\Jx a t)):=by
 refine callsIn_of_wp func197 rfl trivial ?_ rfl;simp only[ntmps197,List.size_toArray,List.length_cons,List.length_nil,Nat.reduceAdd,Nat.reduceSub,Array.replicate_succ,Array.replicate_zero,List.push_toArray,List.append_toArray,List.nil_append,List.cons_append];have c1:=cell_of_one y;have H1:=O y;have H2:=O Z;have H0:=O h0;clear y Z h0
 gi_wp2_with (first
  | (gi_at_range;refine pU rfl _ _ rfl underlying205 rfl H2.out ?_;intro w0 H m qd)
  | gi_in)
 go_frame
 have z:J [] w0:=hA _ _ _ none H0.out (gQ m) (fun r e=>by cases e);have E:w0.heap[B1]?=some (.cells #[.map (some b)] 205 (0,0)):=m.blk H1.out id;have R0:=O (And.intro H (And.intro z E));clear H m qd z E c1
 gi_loopw [3] (fun _ wr=>∃(left:List (List UInt8×Int)) (a:List Id),Hid (dC lL idV iL wr b W.heap.size lst left/\J a wr/\wr.heap[B1]?=some (.cells #[.map (some b)] 205 (0,0)))/\(a.map (·.1)++left.map (·.1)).Perm (lst.map (·.1)))
  (fun _ wr=>wr.rangeLeft b W.heap.size)
 case atStart=>exact⟨lst,[],R0,by simp⟩
 case round =>
  obtain⟨left,a,c,M⟩:=hrel
  gi_wp2_with (first
   | (gi_at_next;refine qX rfl _ rfl rfl c.out.1 ?_ ?_)
   | gi_in)
  ·intro hl
   gi_wp2
   go_end0
   subst hl;exact⟨⟨_,rfl⟩,.inl ⟨a,by simpa using M,c.out.2.1⟩⟩
  ·intro i x v u f g I o qe G
   have q:a.length<lst.length:=by
    have y:=M.length_eq;have Z:=(List.getElem?_eq_some_iff.1 f).1;simp at y;omega
   have A:J a u:=hA _ _ _ (some W.heap.size) c.out.2.1 (wF o) (fun r e=>by cases e;exact⟨qa,c.out.1.walk⟩);have F:u.heap[B1]?=some (.cells #[.map (some b)] 205 (0,0)):=o.blk c.out.2.2 (by have:=lt_of_block H1.out;omega)
   have L:((a++[(⟨x,g⟩:Id)]).map (·.1)++(left.eraseIdx i).map (·.1)).Perm (lst.map (·.1)):=by
    refine List.Perm.trans ?_ M;have:=(lS f).map (·.1);simp only[List.map_append,List.map_cons,List.map_nil,List.append_assoc,List.singleton_append];exact(this.append_left _).symm
   have U:=O A;have T:=O I;have S:=O G;have R:=O F;have V:=O L;have X:=O (c.out.1.count);have HL:=O (List.getElem?_eq_some_iff.1 f).1;have d:(x.map vb).length=32:=by rw[List.length_map];exact g
   clear A I o qe G F L f M c;unfold idV
   gi_wp2_with (first
    | (refine pV rfl _ rfl rfl S.out ?_;show wpListIn _ _ _ _ _ _ (Act.put _ _ (Value.tuple #[.agg (x.map vb).toArray,iL v])) _)
    | (refine lE rfl 31 rfl jP mX (Array.replicate 32 (.int .u8 0)) rfl ?_)
    | (refine kJ rfl 31 (.tmp 3) (.tmp 9) rfl u.heap.size 0 (x.map vb) rfl rfl (Array.replicate 32 (.int .u8 0)) _ (heap_alloc_new _ _) (by rw[d];simp) (by rw[d];exact fZ) (bA _) ?_;intro w3 k K
       rw[aI _ _ (by rw[d];simp)] at k;have N:=O k;have j:=O (show aA aB u w3 from((aA.refl aB u).alloc _).tT K (fun i hi e=>by omega));clear k K;have B:=hA _ _ _ none U.out (gQ j.out) (fun r e=>by cases e);have D:=hY a ⟨x,g⟩ w3 B q;unfold idV at D;obtain⟨fn,tmps,assign,body,hy,c⟩:=D;dsimp only at hy c;clear B)
    | (refine lF rfl 31 (.tmp 3) rfl u.heap.size 0 rfl (x.map vb) _ (aD N.out) underlying31 rfl (by rw[d];exact fZ) ?_)
    | gi_in)
   refine⟨fun h=>by simp[Fence.wide] at h,c.mono ?_⟩;rintro e Y (⟨rfl,C,p⟩|⟨rfl,qc⟩)
   ·have w:=O (show dC lL idV iL Y b W.heap.size lst (left.eraseIdx i)/\J (a++[⟨x,g⟩]) Y/\Y.heap[B1]?=some (.cells #[.map (some b)] 205 (0,0)) from
     ⟨(T.keep j.out id id).walks p.1,C,p.2.trans (j.blk R.out id)⟩)
    clear C p c hy
    gi_wp2
    go_roundw
    case rel=>exact⟨_,_,w,V.out⟩
    case measure=>rw[w.1.count,X.out,List.length_eraseIdx_of_lt HL.out];have:=HL.out;omega
   ·gi_wp2
    refine bodyPost_ret (results_none rfl _ _ _) rfl ?_;exact⟨⟨_,rfl⟩,.inr ⟨_,trivial,qc⟩⟩
theorem FN(n B1 b:Nat)(lst:List (List UInt8×Int))(w:World)(a:w.heap[B1]?=some (.cells #[.map (some b)] 205 (0,0)))(g:bI lL idV iL w b lst) :
 SeqStopsK Fence.wide n prog 197 #[.pointer B1] (fun x:Id=>#[idV x.1]) (tH B1) (fun ys=>(ys.map (·.1)).Perm (lst.map (·.1))) (fun _=>True) lst.length w:=by
 intro l J e W c h _ i h0;obtain⟨f,clock,d,j⟩:=g;exact LW n l B1 b lst J e _ h W (Nat.le_refl _) i ((c.block _ (lt_of_block a)).trans a) ⟨f,clock,(c.block _ (Array.getElem?_eq_some_iff.1 d).1).trans d,j⟩ h0
theorem Gz(a:Option Nat)(w:World) :
 Calls prog 131 #[.map a] w fun e b=>e=.returned (.func (.func 197) #[] #[.pointer (w.heap.size)])/\b=w.alloc (.cells #[.map a] 205):=by
 go_in
 go_wp2
 go_ret;exact⟨rfl,rfl⟩
def eH(ys:List (List UInt8)):List Value:=ys.flatMap fun y=>y.map vb
theorem LX:(prog.info? 31).map (fun i=>(i.zero,i.size,i.bytes))=some (some jP,32,32):=by kernel_rfl
def A2(w:World)(lst:List (List UInt8))(e:Ending)(a:World):Prop:=
 ∃v ys,e=.returned v/\ys.Perm lst/\a.ownsRow w.heap.size 31 32 v ys.length (eH ys)/\aA aB w a
def zG(s:Nat)(w3:World)(ys:List Id)(W:World):Prop:=
 (∃v,W.heap[s]?=some (.cells #[v] 206 (0,0))/\W.ownsRow w3.heap.size 31 32 v ys.length (eH (ys.map (·.1))))/\aA (fun k=>k=s) w3 W
theorem zG.own(t:s<w3.heap.size):OwnFrom w3.heap.size (zG s w3):=by
 rintro q W r row ⟨⟨v,d,f⟩,m⟩ g i;have j:=aA.of_grown g
 have no:∀k cur e,W.heap[k]?=some (.cells cur e (0,0))->¬row=some k:=fun k cur e b a=>by
  obtain⟨_,o,h,c⟩:=i k a;rw[b] at h;cases h
  cases c
 refine⟨⟨v,j.blk d (no _ _ _ d),j.owns f (fun k l=>by obtain⟨cur,b⟩:=aH f l;exact no _ _ _ b)⟩,m.grown g fun k a p=>?_⟩;have:=(i k a).1;omega
theorem Od{n:Nat}{t b:World}{c:Value}{E:List Value}{a:List Id}{x:Id}(F:s<w3.heap.size)(z:B1<w3.heap.size)(r:B1≠s)(B:n=a.length)
 (w:W.heap[s]?=some (.cells #[v] 206 (0,0))) (j:W.ownsRow w3.heap.size 31 32 v n E) (u:aA (fun k=>k=s) w3 W) (m:aA aB W t) (q:aA (fun k=>v.ownBlock=some k) t b)
 (y:b.heap[s]?=some (.cells #[v] 206 (0,0))) (d:b.ownsRow w3.heap.size 31 32 c (n+1) (eH (a.map (·.1))++x.1.map vb)) :
 KeepsFrom w3.heap.size W (b.setCell ⟨s,0,none⟩ c)/\tH B1 W (b.setCell ⟨s,0,none⟩ c)/\zG s w3 (a++[x]) (b.setCell ⟨s,0,none⟩ c):=by
 subst B
 have f:aA (fun k=>k=s\/v.ownBlock=some k) W (b.setCell ⟨s,0,none⟩ c):=
  (m.trans' q (fun _ _ h=>h.elim) (fun i _ h=>.inr h)).setCell (fun _=>.inl rfl) _
 have D:aA (fun k=>k=s) b (b.setCell ⟨s,0,none⟩ c):=aA.setCell (S:=fun k=>k=s) (p:=⟨s,0,none⟩) (aA.refl _ _) (fun _=>rfl) _
 have g:∀k o,W.heap[k]?=some o->(k=s\/v.ownBlock=some k)->o.isCells=true:=by
  rintro k o d (rfl|h)
  ·rw[w] at d;cases d;rfl
  ·obtain⟨cur,g⟩:=aH j h
   rw[g] at d;cases d;rfl
 refine⟨(cW f g).from _,⟨⟨f.size,fun i o l C=>f.blk l fun h=>?_⟩,f.block _ (by have:=u.size;omega) ?_⟩,⟨c,?_,?_⟩,u.trans' f (fun _ _ h=>h) ?_⟩
 ·have:=g i o l h
  rw[Obj.not_cells_of_walk C] at this;cases this
 ·rintro (h|h)
  ·exact r h
  ·have:=aX j h;omega
 ·exact cH y 0 c
 ·rw[List.length_append]
  have e:eH ((a++[x]).map (·.1))=eH (a.map (·.1))++x.1.map vb:=by simp[eH]
  rw[e];exact D.owns d fun k A e=>by have:=aX d A;omega
 ·rintro i l (h|h)
  ·exact h
  ·have:=aX j h;omega
theorem LY{w:World}{lst:List (List UInt8)}{ys:List (List UInt8)}{D:Nat}{o d:Obj}(m:o.isCells=false)(g:W.heap[D]?=some o)(b:W.ownsRow w3.heap.size 31 32 v ys.length (eH ys))(p:ys.Perm lst)
 (l:aA aB w W) (q:w.heap.size≤w3.heap.size/\w3.heap.size≤D):A2 w lst (.returned v) (W.putObj D d):=by
 have c:=aA.of_grown (grownBy_putObj' W D d)
 have no:∀k cur e,W.heap[k]?=some (.cells cur e (0,0))->¬some D=some k:=fun k cur e a f=>by
  cases f
  rw[g] at a;cases a
  cases m
 refine⟨v,ys,rfl,p,?_,l.tT c (fun i r e=>by cases e;omega)⟩;exact aQ (c.owns b fun k j=>by obtain⟨cur,a⟩:=aH b j;exact no _ _ _ a) q.1
def Hg(s B1 p:Nat)(x:Id):Act:=
 { tmps:=#[.slice none 0 0,.func (.func 197) #[] #[.pointer B1],.pointer s,undef,.slice none 0 0,.pointer p,.func (.func 197) #[] #[.pointer B1],.agg (x.1.map vb).toArray,undef,undef,undef,undef,undef],defers:=[] }
def BW(s B1:Nat)(x:Id)(a:Act)(W:World):Prop:=∃p,a=Hg s B1 p x/\W.heap[p]?=some (.cells (x.1.map vb).toArray 31 (0,0))
theorem BW.own(B:Nat)(x:Id)(a:Act):OwnFrom B (fun(_:Unit) W=>BW s B1 x a W):=by
 rintro _ W i row ⟨p,f,d⟩ g h;refine⟨p,f,(aA.of_grown g).blk d fun e=>?_⟩;obtain⟨_,o,c,b⟩:=h p e;rw[d] at c;cases c
 cases b
theorem GA(w:World)(lst:List (List UInt8×Int))(B1 b:Nat)(j:w.heap[B1]?=some (.cells #[.map (some b)] 205 (0,0)))(m:bI lL idV iL w b lst)(qj:lst.length≤65536) :
 Calls prog 228 #[.slice none 0 0,.func (.func 197) #[] #[.pointer B1]] w (A2 w (lst.map (·.1))):=by
 have R:=O j;have H2:=O m;clear j m;refine callsIn_wide.1 (callsIn_of_wp_marks (F:=Fence.wide) (n:=3) func228 rfl trivial (wpIn_wide.2 ?_));simp only[ntmps228,List.size_toArray,List.length_cons,List.length_nil,Nat.reduceAdd,Nat.reduceSub,Array.replicate_succ,Array.replicate_zero,List.push_toArray,List.append_toArray,List.nil_append,List.cons_append];go_wp2_with fail;obtain⟨w3,f⟩:=zX9 (w.alloc (.cells #[.slice none 0 0] 206))
 have z:aA aB w w3:=by rw[←f];exact(aA.refl _ _).alloc _
 have qk:w3.heap.size=w.heap.size+1:=by rw[←f];exact World.size_alloc _ _
 have y:w3.heap[w.heap.size]?=some (.cells #[.slice none 0 0] 206 (0,0)):=by rw[←f];exact heap_alloc_new _ _
 have qc:B1<w3.heap.size:=by have:=lt_of_block R.out;omega
 rw[f];refine wpIn_wide (n:=3).1 ?_
 refine' wpIn_rangeFunc_ownH rfl (by omega) (gf:=197) rfl trivial (enters_of func197 (by kernel_rfl) rfl)
  (FN _ B1 b lst w3 (z.blk R.out id) (H2.keep z id)) ?hKt ?hKb (Below.refl _ _) (fun _=>rfl) (zG w.heap.size w3) (fun _ _ _=>False) (zG.own (by omega)) (fun c s A B row hs _ _=>hs) ?h0 (BW w.heap.size B1) (BW.own _) ?assign ?body ?done ?stop
 case hKt=>exact fun h k=>⟨h.1.trans k.1,k.2.trans h.2⟩
 case hKb=>exact fun W l o o' hl ho hc hw=>⟨KeepsWalks.putObj o' ho hw,World.putObj_heap_other (by omega)⟩
 case h0=>exact⟨⟨.slice none 0 0,y,World.ownsRow_nil _ _ _ _⟩,aA.refl _ _⟩
 case assign =>
  intro l g x W K N hK;have d:(x.1.map vb).length=32:=by rw[List.length_map];exact x.2
  refine bS (by kernel_rfl) (fun ⟨_,_,h⟩=>h) ?_;unfold idV;rw[Ej];simp only[List.setIfInBounds_toArray,List.set_cons_zero,List.set_cons_succ]
  go_wp2_with (first
   | (refine aG rfl 31 rfl jP mX (Array.replicate 32 (.int .u8 0)) rfl ?_)
   | ((with_reducible show WL none (.store 31 (.tmp 5) (.tmp 7)));refine aE rfl 31 (.tmp 5) (.tmp 7) rfl W.heap.size 0 (x.1.map vb) rfl rfl (Array.replicate 32 (.int .u8 0)) _ (heap_alloc_new _ _) (by rw[d];simp) (by rw[d];exact fZ) (bA _) ?_;intro W2 J qf))
  rw[aI _ _ (by rw[d];simp)] at J;have a:aA aB W W2:=((aA.refl aB W).alloc _).tT qf (fun i hi e=>by omega);refine hK _ _ ((cW a (fun _ _ _ h=>h.elim)).from _) ⟨⟨a.size,fun i o hi ho=>a.blk hi id⟩,a.block _ ?_ id⟩ ?_ ⟨W.heap.size,rfl,J⟩
  ·have:=N.2.size;omega
  ·exact zG.own (by omega) g W W2 none N (gQ a) (fun r e=>by cases e)
 case body =>
  rintro l g x a' W hl M ⟨⟨v,j,m⟩,L⟩ ⟨p,rfl,hp⟩ qg;have d:(x.1.map vb).length=32:=by rw[List.length_map];exact x.2
  obtain⟨av,cv,rfl,-,-⟩:=(Rd.of_owns m).form;have c1:=cell_of_one j;have f1:=bP j 0;have HB:=O j;have q:=O m;have HK:=O L;have HP:=O hp;clear j m L hp M f y;unfold Hg;refine wpIn_block ?_;refine bS (by kernel_rfl) (fun ⟨_,_,h⟩=>h) ?_
  go_wp2_with (first
   | ((with_reducible show WL (some 9) (.load 31 (.tmp 5)));refine wpList_load_mid rfl 31 (.tmp 5) rfl p 0 rfl (x.1.map vb) _ (aD HP.out) underlying31 rfl (by rw[d];exact fZ) ?_)
   | ((with_reducible show WL (some 10) (.buildSlice _ _ _));refine bX rfl 206 31 (.tmp 9) rfl underlying206 LX (by decide) (x.1.map vb) d (by decide) rfl ?_
      have u:aA aB W (W.alloc (.cells (x.1.map vb).toArray 31)):=(aA.refl _ _).alloc _;have H:=O (u.owns q.out (fun _ _ h=>h));have qa:=O (eL (n:=1) (size:=32) (heap_alloc_new W (.cells (x.1.map vb).toArray 31)) (by rw[d]) (by unfold maxLen;omega));have U:=O (u.blk HB.out id);have V:=O u;have ql:=World.size_alloc W (.cells (x.1.map vb).toArray 31);generalize qd:W.alloc (.cells (x.1.map vb).toArray 31)=W4 at *;clear qd u)
   | (at_builtin;refine aK rfl (.tmp 8) (.tmp 10) 206 rfl w3.heap.size 31 jP 32 32 underlying206 LX rfl (by decide) (.slice av g.length cv) g.length (eH (g.map (·.1))) rfl H.out (.slice (some ⟨W.heap.size,0,none⟩) 1 1) 1 (x.1.map vb) rfl qa.out (bA _) (by unfold maxLen;omega) (by omega) (by have:=HK.size;omega) ?_
      intro v' w5 E C qh qe;obtain⟨g',qi,rfl⟩:=ownsRow_succ E;have t:=C.blk U.out (fun e=>by have:=aX H.out e;omega);have c5:=cell_of_one t;have f5:=bP t 0;have Z:=O E;have X:=O C;have G:=O t;clear E C qh qe t c1 f1))
  exact Od (by omega) qc (by have:=lt_of_block R.out;omega) rfl HB.out q.out HK.out V.out X.out G.out Z.out
 case done =>
  intro D xs W hD hS N I;obtain⟨⟨v,j,m⟩,L⟩:=N;have c1:=cell_of_one j;obtain⟨ar,cr,rfl,-,-⟩:=(Rd.of_owns m).form;have a:aA aB w W:=aA.trans' (S:=aB) (T:=fun k=>k=w.heap.size) (b:=w3) z L (fun _ _ h=>h) (fun i hi e=>by omega);have q:=O m;have HD:=O I;have Y:=O a;have HS:=O hS;clear j m L I a hS f y;go_wp2_with fail;refine⟨by simp,.inl ⟨_,_,rfl,run_takeDeferred HD.out,?_⟩⟩;refine⟨_,results_tmp rfl _ _ _,?_⟩;refine LY rfl HD.out (ys:=xs.map (·.1)) (by simpa using q.out) HS.out Y.out ⟨by omega,hD⟩
 case stop=>exact fun D c g W _ _ h _=>h.elim
end
end Go.Proofs.YtoeinblfcbpcmaaGreatDoor
