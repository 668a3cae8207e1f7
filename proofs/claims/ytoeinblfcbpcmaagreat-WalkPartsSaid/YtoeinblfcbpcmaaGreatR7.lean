import Derived.Test.YtoeinblfcbpcmaaGreatR5
import Derived.Test.YtoeinblfcbpcmaaGreatR6
import Derived.BigRegion
import Derived.WalkMore
namespace Go.Proofs.YtoeinblfcbpcmaaGreat
open Tryz
set_option maxHeartbeats 0
set_option maxRecDepth 100000
set_option linter.unusedVariables false
section
open Go.RowKit Go.Maps Go.ChangeMaps
abbrev Adr:={ a:Ad // eW a }
variable{s B1 x k base g cap y i j:Nat}{w3 W w:World}{v:Value}{ys o l A B:List Nat}{fr:List Int}
theorem JF(n l B1 b:Nat)(lst:List (Ad×Nix))(J Jx:List Adr->World->Prop)(Bs:Nat)(hA:AbidesFrom Bs J)(W:World)(qd:Bs≤W.heap.size)
 (hY:∀a x W,J a W->a.length<lst.length->YieldAt Fence.wide (n-1) prog l #[adV x.1] W fun e C =>
   (e=.returned (.bool true)/\J (a++[x]) C/\D2 B1 W C)\/(e=.returned (.bool false)/\Jx (a++[x]) C))
 (F:W.heap[B1]?=some (.cells #[.map (some b)] 144 (0,0))) (h2:cH eW adV fH W b lst) (h0:J [] W) :
 CallsIn Fence.wide n prog 157 #[.func (.yield l) #[] #[],.pointer B1] W fun e C=>(∃v,e=.returned v) /\
  ((∃ys:List Adr,(ys.map (·.1)).Perm (lst.map (·.1))/\J ys C)\/(∃a,True/\Jx a C)):=by
 refine callsIn_of_wp func157 rfl trivial ?_ rfl;simp only[ntmps157,List.size_toArray,List.length_cons,List.length_nil,Nat.reduceAdd,Nat.reduceSub,Array.replicate_succ,Array.replicate_zero,List.push_toArray,List.append_toArray,List.nil_append,List.cons_append];have c1:=cell_of_one F;have H1:=O F;have H2:=O h2;have H0:=O h0;clear F h2 h0
 gi_wp2_with (first
  | (gi_at_range;refine yR rfl _ _ rfl underlying144 rfl H2.out ?_;intro w0 Q p qf)
  | gi_in)
 go_frame
 have G:J [] w0:=hA _ _ _ none H0.out (nA p) (fun r e=>by cases e);have M:w0.heap[B1]?=some (.cells #[.map (some b)] 144 (0,0)):=p.blk H1.out id;have R0:=O (And.intro Q (And.intro G M));clear Q p qf G M c1
 gi_loopw [3] (fun _ wr=>∃(left:List (Ad×Nix)) (a:List Adr),Hid (dA eW adV fH wr b W.heap.size lst left/\J a wr/\wr.heap[B1]?=some (.cells #[.map (some b)] 144 (0,0)))/\(a.map (·.1)++left.map (·.1)).Perm (lst.map (·.1)))
  (fun _ wr=>wr.rangeLeft b W.heap.size)
 case atStart=>exact⟨lst,[],R0,by simp⟩
 case round =>
  obtain⟨left,a,hR,U⟩:=hrel
  gi_wp2_with (first
   | (gi_at_next;refine zS rfl _ rfl rfl hR.out.1 ?_ ?_)
   | gi_in)
  ·intro hl
   gi_wp2
   go_end0
   subst hl;exact⟨⟨_,rfl⟩,.inl ⟨a,by simpa using U,hR.out.2.1⟩⟩
  ·intro i x v D d z R q qg P
   have u:a.length<lst.length:=by
    have F:=U.length_eq;have h2:=(List.getElem?_eq_some_iff.1 d).1;simp at F;omega
   have H:J a D:=hA _ _ _ (some W.heap.size) hR.out.2.1 (Dw q) (fun r e=>by cases e;exact⟨qd,hR.out.1.walk⟩);have N:D.heap[B1]?=some (.cells #[.map (some b)] 144 (0,0)):=q.blk hR.out.2.2 (by have:=lt_of_block H1.out;omega)
   have T:((a++[(⟨x,z⟩:Adr)]).map (·.1)++(left.eraseIdx i).map (·.1)).Perm (lst.map (·.1)):=by
    refine List.Perm.trans ?_ U;have:=(pM d).map (·.1);simp only[List.map_append,List.map_cons,List.map_nil,List.append_assoc,List.singleton_append];exact(this.append_left _).symm
   have qa:=O H;have Z:=O R;have Y:=O P;have X:=O N;have qb:=O T;have qc:=O (hR.out.1.count);have HL:=O (List.getElem?_eq_some_iff.1 d).1;have c:(aO x).length=2:=rfl;clear H R q qg P N T d U hR;unfold adV
   gi_wp2_with (first
    | (refine yS rfl _ rfl rfl Y.out ?_;show wpListIn _ _ _ _ _ _ (Act.put _ _ (Value.tuple #[.agg (aO x).toArray,fH v])) _)
    | (refine pR rfl 59 rfl eM eI #[.int .i64 0,.int .i64 0] rfl ?_)
    | (refine oU rfl 59 (.tmp 3) (.tmp 9) rfl D.heap.size 0 (aO x) rfl rfl #[.int .i64 0,.int .i64 0] _ (heap_alloc_new _ _) (by rw[c];simp) (by rw[c];exact cC) (bP _) ?_;intro w3 m S
       rw[aS _ _ (by rw[c];simp)] at m;have V:=O m;have f:=O (show aA aB D w3 from((aA.refl aB D).alloc _).tT S (fun i hi e=>by omega));clear m S;have I:=hA _ _ _ none qa.out (nA f.out) (fun r e=>by cases e);have L:=hY a ⟨x,z⟩ w3 I u;unfold adV at L;obtain⟨fn,tmps,assign,body,hy,hR⟩:=L;dsimp only at hy hR;clear I)
    | (refine lA rfl 59 (.tmp 3) rfl D.heap.size 0 rfl (aO x) _ (aD V.out) bT rfl (by rw[c];exact cC) ?_)
    | gi_in)
   refine⟨fun h=>by simp[Fence.wide] at h,hR.mono ?_⟩;rintro e W3 (⟨rfl,K,t⟩|⟨rfl,qe⟩)
   ·have E:=O (show dA eW adV fH W3 b W.heap.size lst (left.eraseIdx i)/\J (a++[⟨x,z⟩]) W3/\W3.heap[B1]?=some (.cells #[.map (some b)] 144 (0,0)) from
     ⟨(Z.keep f.out id id).walks t.1,K,t.2.trans (f.blk X.out id)⟩)
    clear K t hR hy
    gi_wp2
    go_roundw
    case rel=>exact⟨_,_,E,qb.out⟩
    case measure=>rw[E.1.count,qc.out,List.length_eraseIdx_of_lt HL.out];have:=HL.out;omega
   ·gi_wp2
    refine bodyPost_ret (results_none rfl _ _ _) rfl ?_;exact⟨⟨_,rfl⟩,.inr ⟨_,trivial,qe⟩⟩
theorem D3(n B1 b:Nat)(lst:List (Ad×Nix))(w:World)(a:w.heap[B1]?=some (.cells #[.map (some b)] 144 (0,0)))(h:cH eW adV fH w b lst) :
 SeqStopsK Fence.wide n prog 157 #[.pointer B1] (fun x:Adr=>#[adV x.1]) (D2 B1) (fun ys=>(ys.map (·.1)).Perm (lst.map (·.1))) (fun _=>True) lst.length w:=by
 intro l J e W c m _ p h0;obtain⟨f,clock,d,q⟩:=h;exact JF n l B1 b lst J e _ m W (Nat.le_refl _) p ((c.block _ (lt_of_block a)).trans a) ⟨f,clock,(c.block _ (Array.getElem?_eq_some_iff.1 d).1).trans d,q⟩ h0
theorem FU(a:Option Nat)(w:World) :
 Calls prog 107 #[.map a] w fun e b=>e=.returned (.func (.func 157) #[] #[.pointer (w.heap.size)])/\b=w.alloc (.cells #[.map a] 144):=by
 go_enter func107,ntmps107
 go_wp2
 go_ret;exact⟨rfl,rfl⟩
def aR(ys:List Ad):List Value:=ys.flatMap aO
def BI(w:World)(lst:List Ad)(e:Ending)(a:World):Prop:=
 ∃v ys,e=.returned v/\ys.Perm lst/\a.ownsRow w.heap.size 59 2 v ys.length (aR ys)/\aA aB w a
def BJ(s:Nat)(w3:World)(ys:List Adr)(W:World):Prop:=
 (∃v,W.heap[s]?=some (.cells #[v] 26 (0,0))/\W.ownsRow w3.heap.size 59 2 v ys.length (aR (ys.map (·.1))))/\aA (fun k=>k=s) w3 W
theorem BJ.own(C:s<w3.heap.size):OwnFrom w3.heap.size (BJ s w3):=by
 rintro u W z row ⟨⟨v,d,f⟩,r⟩ h n;have p:=aA.of_grown h
 have no:∀k cur e,W.heap[k]?=some (.cells cur e (0,0))->¬row=some k:=fun k cur e b a=>by
  obtain⟨_,o,m,c⟩:=n k a;rw[b] at m;cases m
  cases c
 refine⟨⟨v,p.blk d (no _ _ _ d),p.owns f (fun k q=>by obtain⟨cur,b⟩:=aJ f q;exact no _ _ _ b)⟩,r.grown h fun k a t=>?_⟩;have:=(n k a).1;omega
theorem Oe{n:Nat}{C b:World}{c:Value}{L:List Value}{a:List Adr}{x:Adr}(M:s<w3.heap.size)(G:B1<w3.heap.size)(z:B1≠s)(I:n=a.length)
 (E:W.heap[s]?=some (.cells #[v] 26 (0,0))) (q:W.ownsRow w3.heap.size 59 2 v n L) (D:aA (fun k=>k=s) w3 W) (t:aA aB W C) (u:aA (fun k=>v.ownBlock=some k) C b)
 (F:b.heap[s]?=some (.cells #[v] 26 (0,0))) (d:b.ownsRow w3.heap.size 59 2 c (n+1) (aR (a.map (·.1))++aO x.1)) :
 KeepsFrom w3.heap.size W (b.setCell ⟨s,0,none⟩ c)/\D2 B1 W (b.setCell ⟨s,0,none⟩ c)/\BJ s w3 (a++[x]) (b.setCell ⟨s,0,none⟩ c):=by
 subst I
 have f:aA (fun k=>k=s\/v.ownBlock=some k) W (b.setCell ⟨s,0,none⟩ c):=
  (t.trans' u (fun _ _ h=>h.elim) (fun i _ h=>.inr h)).setCell (fun _=>.inl rfl) _
 have K:aA (fun k=>k=s) b (b.setCell ⟨s,0,none⟩ c):=aA.setCell (S:=fun k=>k=s) (p:=⟨s,0,none⟩) (aA.refl _ _) (fun _=>rfl) _
 have m:∀k o,W.heap[k]?=some o->(k=s\/v.ownBlock=some k)->o.isCells=true:=by
  rintro k o d (rfl|h)
  ·rw[E] at d;cases d;rfl
  ·obtain⟨cur,m⟩:=aJ q h
   rw[m] at d;cases d;rfl
 refine⟨(fK f m).from _,⟨⟨f.size,fun i o r J=>f.blk r fun h=>?_⟩,f.block _ (by have:=D.size;omega) ?_⟩,⟨c,?_,?_⟩,D.trans' f (fun _ _ h=>h) ?_⟩
 ·have:=m i o r h
  rw[Obj.not_cells_of_walk J] at this;cases this
 ·rintro (h|h)
  ·exact z h
  ·have:=bM q h;omega
 ·exact dQ F 0 c
 ·rw[List.length_append]
  have e:aR ((a++[x]).map (·.1))=aR (a.map (·.1))++aO x.1:=by simp[aR]
  rw[e];exact K.owns d fun k H e=>by have:=bM d H;omega
 ·rintro i r (h|h)
  ·exact h
  ·have:=bM q h;omega
theorem LZ{lst:List Ad}{ys:List Ad}{D:Nat}{o d:Obj}(q:o.isCells=false)(m:W.heap[D]?=some o)(b:W.ownsRow w3.heap.size 59 2 v ys.length (aR ys))(r:ys.Perm lst)
 (p:aA aB w W) (t:w.heap.size≤w3.heap.size/\w3.heap.size≤D):BI w lst (.returned v) (W.putObj D d):=by
 have c:=aA.of_grown (grownBy_putObj' W D d)
 have no:∀k cur e,W.heap[k]?=some (.cells cur e (0,0))->¬some D=some k:=fun k cur e a f=>by
  cases f
  rw[m] at a;cases a
  cases q
 refine⟨v,ys,rfl,r,?_,p.tT c (fun i u e=>by cases e;omega)⟩;exact bA (c.owns b fun k n=>by obtain⟨cur,a⟩:=aJ b n;exact no _ _ _ a) t.1
def JG(s B1 p:Nat)(x:Adr):Act:=
 { tmps:=#[.slice none 0 0,.func (.func 157) #[] #[.pointer B1],.pointer s,undef,.slice none 0 0,.pointer p,.func (.func 157) #[] #[.pointer B1],.agg (aO x.1).toArray,undef,undef,undef,undef,undef],defers:=[] }
def DM(s B1:Nat)(x:Adr)(a:Act)(W:World):Prop:=∃p,a=JG s B1 p x/\W.heap[p]?=some (.cells (aO x.1).toArray 59 (0,0))
theorem DM.own(B:Nat)(x:Adr)(a:Act):OwnFrom B (fun(_:Unit) W=>DM s B1 x a W):=by
 rintro _ W n row ⟨p,f,d⟩ h m;refine⟨p,f,(aA.of_grown h).blk d fun e=>?_⟩;obtain⟨_,o,c,b⟩:=m p e;rw[d] at c;cases c
 cases b
theorem FV(w:World)(lst:List (Ad×Nix))(B1 b:Nat)(q:w.heap[B1]?=some (.cells #[.map (some b)] 144 (0,0)))(t:cH eW adV fH w b lst)(qj:lst.length≤65536) :
 Calls prog 199 #[.slice none 0 0,.func (.func 157) #[] #[.pointer B1]] w (BI w (lst.map (·.1))):=by
 have U:=O q;have H2:=O t;clear q t;refine callsIn_wide.1 (callsIn_of_wp_marks (F:=Fence.wide) (n:=3) func199 rfl trivial (wpIn_wide.2 ?_));simp only[ntmps199,List.size_toArray,List.length_cons,List.length_nil,Nat.reduceAdd,Nat.reduceSub,Array.replicate_succ,Array.replicate_zero,List.push_toArray,List.append_toArray,List.nil_append,List.cons_append];go_wp2_with fail;obtain⟨w3,f⟩:=zX9 (w.alloc (.cells #[.slice none 0 0] 26))
 have G:aA aB w w3:=by rw[←f];exact(aA.refl _ _).alloc _
 have qk:w3.heap.size=w.heap.size+1:=by rw[←f];exact World.size_alloc _ _
 have E:w3.heap[w.heap.size]?=some (.cells #[.slice none 0 0] 26 (0,0)):=by rw[←f];exact heap_alloc_new _ _
 have qc:B1<w3.heap.size:=by have:=lt_of_block U.out;omega
 rw[f];refine wpIn_wide (n:=3).1 ?_
 refine' wpIn_rangeFunc_ownH rfl (by omega) (gf:=157) rfl trivial (enters_of func157 (by kernel_rfl) rfl)
  (D3 _ B1 b lst w3 (G.blk U.out id) (H2.keep G id)) ?hKt ?hKb (Below.refl _ _) (fun _=>rfl) (BJ w.heap.size w3) (fun _ _ _=>False) (BJ.own (by omega)) (fun c s A B row hs _ _=>hs) ?h0 (DM w.heap.size B1) (DM.own _) ?assign ?body ?done ?stop
 case hKt=>exact fun h k=>⟨h.1.trans k.1,k.2.trans h.2⟩
 case hKb=>exact fun W l o o' hl ho hc hw=>⟨KeepsWalks.putObj o' ho hw,World.putObj_heap_other (by omega)⟩
 case h0=>exact⟨⟨.slice none 0 0,E,World.ownsRow_nil _ _ _ _⟩,aA.refl _ _⟩
 case assign =>
  intro l m x W K R hK;have d:(aO x.1).length=2:=rfl;refine cY (by kernel_rfl) (fun ⟨_,_,h⟩=>h) ?_;unfold adV;rw[LV];simp only[List.setIfInBounds_toArray,List.set_cons_zero,List.set_cons_succ]
  go_wp2_with (first
   | (refine aY rfl 59 rfl eM eI #[.int .i64 0,.int .i64 0] rfl ?_)
   | ((with_reducible show WL none (.store 59 (.tmp 5) (.tmp 7)));refine aQ rfl 59 (.tmp 5) (.tmp 7) rfl W.heap.size 0 (aO x.1) rfl rfl #[.int .i64 0,.int .i64 0] _ (heap_alloc_new _ _) (by rw[d];simp) (by rw[d];exact cC) (bP _) ?_;intro W2 N qf))
  rw[aS _ _ (by rw[d];simp)] at N;have a:aA aB W W2:=((aA.refl aB W).alloc _).tT qf (fun i hi e=>by omega);refine hK _ _ ((fK a (fun _ _ _ h=>h.elim)).from _) ⟨⟨a.size,fun i o hi ho=>a.blk hi id⟩,a.block _ ?_ id⟩ ?_ ⟨W.heap.size,rfl,N⟩
  ·have:=R.2.size;omega
  ·exact BJ.own (by omega) m W W2 none R (nA a) (fun r e=>by cases e)
 case body =>
  rintro l m x a' W hl Q ⟨⟨v,q,t⟩,P⟩ ⟨p,rfl,hp⟩ qg;have d:(aO x.1).length=2:=rfl;obtain⟨av,cv,rfl,-,-⟩:=(Rd.of_owns t).form;have c1:=cell_of_one q;have f1:=dE q 0;have HB:=O q;have u:=O t;have HK:=O P;have HP:=O hp;clear q t P hp Q f E;unfold JG;refine wpIn_block ?_;refine cY (by kernel_rfl) (fun ⟨_,_,h⟩=>h) ?_
  go_wp2_with (first
   | ((with_reducible show WL (some 9) (.load 59 (.tmp 5)));refine wpList_load_mid rfl 59 (.tmp 5) rfl p 0 rfl (aO x.1) _ (aD HP.out) bT rfl (by rw[d];exact cC) ?_)
   | ((with_reducible show WL (some 10) (.buildSlice _ _ _));refine bZ rfl 26 59 (.tmp 9) rfl underlying26 qR (by decide) (aO x.1) d (by decide) rfl ?_
      have C:aA aB W (W.alloc (.cells (aO x.1).toArray 59)):=(aA.refl _ _).alloc _;have L:=O (C.owns u.out (fun _ _ h=>h));have qb:=O (dX (n:=1) (size:=2) (heap_alloc_new W (.cells (aO x.1).toArray 59)) (by rw[d]) (by unfold maxLen;omega));have V:=O (C.blk HB.out id);have X:=O C;have ql:=World.size_alloc W (.cells (aO x.1).toArray 59);generalize qd:W.alloc (.cells (aO x.1).toArray 59)=W4 at *;clear qd C)
   | (at_builtin;refine aM rfl (.tmp 8) (.tmp 10) 26 rfl w3.heap.size 59 eM 2 16 underlying26 qR rfl (by decide) (.slice av m.length cv) m.length (aR (m.map (·.1))) rfl L.out (.slice (some ⟨W.heap.size,0,none⟩) 1 1) 1 (aO x.1) rfl qb.out (bP _) (by unfold maxLen;omega) (by omega) (by have:=HK.size;omega) ?_
      intro v' w5 I H qh qe;obtain⟨g',qi,rfl⟩:=ownsRow_succ I;have z:=H.blk V.out (fun e=>by have:=bM L.out e;omega);have c5:=cell_of_one z;have f5:=dE z 0;have qa:=O I;have Y:=O H;have J:=O z;clear I H qh qe z c1 f1))
  exact Oe (by omega) qc (by have:=lt_of_block U.out;omega) rfl HB.out u.out HK.out X.out Y.out J.out qa.out
 case done =>
  intro D xs W hD hS R M;obtain⟨⟨v,q,t⟩,P⟩:=R;have c1:=cell_of_one q;obtain⟨ar,cr,rfl,-,-⟩:=(Rd.of_owns t).form;have a:aA aB w W:=aA.trans' (S:=aB) (T:=fun k=>k=w.heap.size) (b:=w3) G P (fun _ _ h=>h) (fun i hi e=>by omega);have u:=O t;have HD:=O M;have Z:=O a;have HS:=O hS;clear q t P M a hS f E;go_wp2_with fail;refine⟨by simp,.inl ⟨_,_,rfl,run_takeDeferred HD.out,?_⟩⟩;refine⟨_,results_tmp rfl _ _ _,?_⟩;refine LZ rfl HD.out (ys:=xs.map (·.1)) (by simpa using u.out) HS.out Z.out ⟨by omega,hD⟩
 case stop=>exact fun D c m W _ _ h _=>h.elim
theorem tC{l:List Int}(h:Rd w 1 v l.length (l.map fun x=>.int .i64 x)){x:Int}(b:l[k]?=some x):∃g o cap,v=.slice (some ⟨g,o,none⟩) l.length cap/\w.cell? ⟨g,o+k,none⟩=some (.int .i64 x):=by
 obtain⟨h0,a,cap,rfl,f,m,n,c⟩:=h;have e:=(List.getElem?_eq_some_iff.1 b).1;obtain⟨g,o,rfl,d⟩:=c (by rw[List.length_map];omega);exact⟨g,o,cap,rfl,d k _ (by rw[List.getElem?_map,b];rfl)⟩
def nV(l:List Nat):List Value:=l.map fun(x:Nat)=>Value.int .i64 (x:Int)
def fZ(w:World)(base g cap:Nat)(l:List Nat):Prop:=base≤g/\l.length≤cap/\cap≤maxLen/\∃cur:Array Value,w.heap[g]?=some (.cells cur 3 (0,0))/\cur.size=cap/\cur.toList.take l.length=nV l
theorem fZ.keep{T:Nat->Prop}{a:World}(h:fZ w base g cap l)(k:aA T w a)(m:¬T g):fZ a base g cap l:=by
 obtain⟨b,c,d,cur,e,f⟩:=h;exact⟨b,c,d,cur,k.blk e m,f⟩
theorem fZ.cell(h:fZ w base g cap l)(a:l[k]?=some x):w.cell? ⟨g,k,none⟩=some (.int .i64 (x:Int)):=by
 obtain⟨d,e,f,cur,b,m,h6⟩:=h;have c:=(List.getElem?_eq_some_iff.1 a).1;refine aC b ?_
 have h7:(cur.toList.take l.length)[k]?=some (.int .i64 (x:Int)):=by
  rw[h6];unfold nV;rw[List.getElem?_map,a];rfl
 rw[List.getElem?_take,if_pos c] at h7
 simpa using h7
theorem fZ.free(h:fZ w base g cap l)(k:Nat):w.frozen? ⟨g,k,none⟩=false:=by
 obtain⟨b,c,d,cur,a,e,h6⟩:=h;exact dE a k
theorem fZ.set(h:fZ w base g cap l)(f:k<l.length)(x:Nat):fZ (w.setCell ⟨g,k,none⟩ (.int .i64 (x:Int))) base g cap (l.set k x)/\aA (fun i=>i=g) w (w.setCell ⟨g,k,none⟩ (.int .i64 (x:Int))):=by
 obtain⟨a,b,c,cur,d,e,h6⟩:=h;refine⟨⟨a,by rw[List.length_set];exact b,c,_,dQ d k _,by rw[Array.size_setIfInBounds];exact e,?_⟩,(aA.refl (fun i=>i=g) w).setCell (p:=⟨g,k,none⟩) (fun _=>rfl) _⟩;rw[List.length_set,Array.toList_setIfInBounds,List.take_set,h6];unfold nV;rw[List.map_set]
theorem fZ.rd(h:fZ w base g cap l):Rd w 1 (.slice g l.length cap) l.length (nV l):=by
 obtain⟨m,b,c,cur,d,n,h6⟩:=h;refine⟨by simp[nV],some ⟨g,0,none⟩,cap,rfl,b,c,(by intro e;cases e),fun _=>⟨g,0,rfl,fun i u a=>?_⟩⟩;refine aC d ?_;have f:i<l.length:=by have:=(List.getElem?_eq_some_iff.1 a).1;simpa [nV] using this
 rw[←h6,List.getElem?_take,if_pos f] at a
 simpa using a
theorem JT:((A++y::x::B).set (A.length+1) y).set A.length x=A++x::y::B:=by
 rw[List.set_append_right _ _ (by omega),List.set_append_right _ _ (by omega)];simp
theorem JU(h:oG fr (A++B))(p:∀y∈A.getLast?,dF fr y x=true)(q:∀y∈B,dF fr x y=true):oG fr (A++x::B):=by
 unfold oG at *;rw[List.pairwise_append] at h ⊢;obtain⟨d,m,n⟩:=h;refine⟨d,List.pairwise_cons.2 ⟨q,m⟩,fun a c b e=>?_⟩;rcases List.mem_cons.1 e with rfl|e
 ·rcases List.eq_nil_or_concat A with rfl|⟨r,z,rfl⟩
  ·cases c
  ·have f:dF fr z b=true:=p z (by simp)
   rw[List.concat_eq_append] at d c;rcases List.mem_append.1 c with h|h
   ·exact FO ((List.pairwise_append.1 d).2.2 a h z (List.mem_singleton.2 rfl)) f
   ·rw[List.mem_singleton.1 h]
    exact f
 ·exact n a c b e
theorem Ol(x y:Int):decide (iQ x y<0)=decide (x<y):=by
 unfold iQ
 by_cases h:x<y
 ·simp[h]
 ·by_cases a:y<x<;>simp[h,a]
structure zW(fr:List Int)(o ys:List Nat)(i j x:Nat)(A B:List Nat):Prop where
 ys:ys=A++x::(B++o.drop (i+1))
 len:A.length=j
 at_:o[i]?=some x
 ranks:oG fr (A++B)
 perm:(A++B).Perm (o.take i)
 below:∀y∈B,dF fr x y=true
theorem zW.down(h:zW fr o ys i (j+1) x (A++[y]) B)(c:dF fr x y=true):zW fr o (A++x::y::(B++o.drop (i+1))) i j x A (y::B):=by
 have b:=h.len;rw[List.length_append,List.length_singleton] at b;refine⟨rfl,by omega,h.at_,by have:=h.ranks;rwa [List.append_assoc] at this,by have:=h.perm;rwa [List.append_assoc] at this,fun z a=>?_⟩;rcases List.mem_cons.1 a with rfl|a
 ·exact c
 ·exact h.below z a
theorem zW.stop(h:zW fr o ys i j x A B)(a:∀y∈A.getLast?,dF fr y x=true):ys=(A++x::B)++o.drop (i+1)/\oG fr (A++x::B)/\(A++x::B).Perm (o.take (i+1)):=by
 refine⟨by rw[h.ys];simp,JU h.ranks a h.below,?_⟩;rw[List.take_add_one,h.at_];exact List.perm_middle.trans ((List.perm_append_comm (l₁:=[x]) (l₂:=A++B)).trans (h.perm.append_right [x]))
theorem Me(w:World)(bx i j:Nat)(fr:List Int)(v:Value)(H:Rd w 1 v fr.length (fr.map fun x=>.int .i64 x))(G:w.heap[bx]?=some (.cells #[v] 48 (0,0)))(hi:i<fr.length)(hj:j<fr.length) :
 Calls prog 239 #[.int .i64 (i:Int),.int .i64 (j:Int),.pointer bx] w fun e a=>e=.returned (.int .i64 (iQ (fr.getD j 0) (fr.getD i 0)))/\aA aB w a:=by
 obtain⟨oa,I,rfl,-,-⟩:=H.form;obtain⟨n,V⟩:=zX9 fr.length
 obtain⟨x,L⟩:∃x,fr[i]?=some x:=⟨fr[i]'hi,List.getElem?_eq_getElem _⟩
 obtain⟨y,M⟩:∃x,fr[j]?=some x:=⟨fr[j]'hj,List.getElem?_eq_getElem _⟩
 have Q:fr.getD i 0=x:=by rw[List.getD_eq_getElem?_getD,L];rfl
 have R:fr.getD j 0=y:=by rw[List.getD_eq_getElem?_getD,M];rfl
 rw[Q,R];obtain⟨p,o,cap,X,J⟩:=tC H L;have Z:oa=some ⟨p,o,none⟩:=by cases X;rfl
 subst Z;obtain⟨p',o',P,D,K⟩:=tC H M;have e2:(⟨p,o,none⟩:Addr)=⟨p',o',none⟩:=by cases D;rfl
 cases e2
 rw[V] at hi hj G;have T:w.cell? ⟨bx,0,none⟩=some (.slice (some ⟨p,o,none⟩) n I):=aC G rfl;have N:=O (fun a=>GD y x a);obtain⟨r,C⟩:=zX9 (iQ y x)
 rw[C] at N ⊢;have qb:(i:Int)<(n:Int):=by omega
 have qd:(j:Int)<(n:Int):=by omega
 have qa:(0:Int)≤(i:Int):=by omega
 have qc:(0:Int)≤(j:Int):=by omega
 have HB:=O G;clear H V L M Q R X D C G;go_in;go_wp2_with fail;obtain⟨S,m⟩:∃S:World->Prop,S=fun a=>aA aB w a:=⟨_,rfl⟩
 have b:=O (show ∀a,S a->aA aB w a from fun a h=>by rw[m] at h;exact h);have u:=O (show ∀a,aA aB w a->S a from fun a h=>by rw[m];exact h);have f:S w.drew:=by rw[m];exact(aA.refl _ _).drew
 clear m;refine wp_region_held (S:=S) (by kernel_rfl) ?_;change wpAnyH _ _ _ _ _ _ _ _ w.drew;generalize w.drew=E at f ⊢;refine tkd 0 (.slice (some ⟨p,o,none⟩) n I) rfl (.inl ⟨by rfl,fun a d=>by have c:=(b a d).cell T id;go_simp⟩) f ?_;simp only[Act.put,List.setIfInBounds_toArray,List.set_cons_zero,List.set_cons_succ,List.getElem_toArray,List.getElem_cons_zero];refine tna 1 (.int .i64 (j:Int)) rfl f ?_;refine tnb 2 (.pointer (some ⟨p,o+j,none⟩)) rfl f ?_;refine tnd 3 (.int .i64 y) rfl (.inl ⟨by rfl,fun a d=>by have c:=(b a d).cell K id;go_simp⟩) f ?_;refine tnd 4 (.slice (some ⟨p,o,none⟩) n I) rfl (.inl ⟨by rfl,fun a d=>by have c:=(b a d).cell T id;go_simp⟩) f ?_;refine tna 5 (.int .i64 (i:Int)) rfl f ?_;refine tnb 6 (.pointer (some ⟨p,o+i,none⟩)) rfl f ?_;refine tnd 7 (.int .i64 x) rfl (.inl ⟨by rfl,fun a d=>by have c:=(b a d).cell J id;go_simp⟩) f ?_;refine wA9 8 ?_;go_wp2_with fail;refine(N _).mono ?_;rintro e F ⟨rfl,z⟩;have U:aA aB E F:=z▸aA.refl _ _;clear z;have q:=u.out _ ((b _ f).trans U);clear f U;go_wp2_with fail;refine⟨q,?_⟩;refine tna 9 (.int .i64 r) rfl q ?_;refine wpAnyH_done (by kernel_rfl) ?_ _;have t:=O (b _ q);clear q b u;have Y:=O t.out;clear t;go_wp2;go_ret;exact⟨rfl,Y.out⟩
def nE(w:World)(base g cap:Nat)(fr:List Int)(o:List Nat)(e:Ending)(a:World):Prop:=e=.returned (.tuple #[])/\∃P,fZ a base g cap P/\oG fr P/\P.Perm o/\aA (fun j=>j=g) w a
theorem Id(w:World)(bx base g cap:Nat)(fr:List Int)(o:List Nat)(v:Value)(hr:Rd w 1 v fr.length (fr.map fun x=>.int .i64 x))(hB:w.heap[bx]?=some (.cells #[v] 48 (0,0)))(qr:v.ownBlock≠some g)
 (K:fZ w base g cap o) (h8:o.length≤8) (Z:o.Pairwise (·<·)) (qw:∀i∈o,i<fr.length) :
 Calls prog 255 #[.slice g o.length cap,.int .i64 0,.int .i64 (o.length:Int),(.func (.func 239) #[] #[.pointer bx])] w (nE w base g cap fr o):=by
 have HR:=O hr;have HB:=O hB;have qk:=O Z;have ql:=O qw;have zd:=O K;have q9:=O qr;obtain⟨n,hn⟩:=zX9 o.length
 have HN:=O hn;rw[hn] at h8 ⊢
 have zk:g≠bx:=by
  intro e;subst e;obtain⟨-,-,-,cur,h4,-⟩:=K;rw[hB] at h4;cases h4
 clear hr hB Z qw K hn qr;go_in;go_wp2_with fail
 go_loopw [8,9] (fun i _ wr=>∃(k:Nat) (P:List Nat),1≤k/\(k≤n\/k=1)/\i=.int .i64 k/\Hid (fZ wr base g cap (P++o.drop k))/\Hid (oG fr P)/\Hid (P.Perm (o.take k))/\Hid (aA (fun j=>j=g) w wr)) (fun i _ _=>n-(intOf i).toNat)
 case atStart=>exact⟨1,o.take 1,Nat.le_refl _,.inr rfl,rfl,O (by rw[List.take_append_drop];exact zd.out),O (by unfold oG;rcases o with _|⟨x,o⟩<;>simp),O (List.Perm.refl _),O (aA.refl _ _)⟩
 case round =>
 obtain⟨k,P,zu,zw,rfl,a,qm,qb,D⟩:=hrel
 by_cases qg:k<n
 ·have zv:(k:Int)<(n:Int):=by omega
  have zt:(0:Int)≤(k:Int):=by omega
  obtain⟨x,hx⟩:∃x,o[k]?=some x:=⟨o[k]'(by rw[HN.out];exact qg),List.getElem?_eq_getElem _⟩
  have qp:P.length=k:=by rw[qb.length_eq,List.length_take,HN.out];omega
  have I:o.drop k=x::o.drop (k+1):=by
   rw[List.drop_eq_getElem_cons (by rw[HN.out];exact qg)]
   congr 1
   rw[List.getElem?_eq_getElem (by rw[HN.out];exact qg)] at hx;exact Option.some.inj hx
  have HX:=O hx;have qn:Hid (zW fr o (P++o.drop k) k k x P []):=O ⟨by rw[I];rfl,qp,hx,by rw[List.append_nil];exact qm.out,by rw[List.append_nil];exact qb.out,fun y hy=>by cases hy⟩;obtain⟨wo,qy⟩:=zX9 wr
  rw[qy] at a D ⊢;clear qy hx qp I;go_wp2_with fail
  go_loopw [9] (fun i wr=>∃(j:Nat) (ys A B:List Nat),j≤k/\i=.int .i64 j/\Hid (fZ wr base g cap ys)/\Hid (zW fr o ys k j x A B)/\Hid (aA (fun j=>j=g) w wr)) (fun i _=>(intOf i).toNat)
  case atStart=>exact⟨k,_,P,[],Nat.le_refl _,rfl,a,qn,D⟩
  case round =>
  clear a D qn;obtain⟨j,ys,A,B,hj,rfl,a,N,D⟩:=hrel;rcases Nat.eq_zero_or_pos j with qt|qt
  ·subst qt
   have hA:A=[]:=List.length_eq_zero_iff.1 N.len;have f:∀y∈A.getLast?,dF fr y x=true:=by subst hA;intro y hy;cases hy
   clear hA;go_wp2_with fail;obtain⟨S,C⟩:∃S:World->Prop,S=fun p=>aA aB wr p:=⟨_,rfl⟩
   have u:=O (show ∀p,S p->aA aB wr p from fun p h=>by rw[C] at h;exact h);have Q:=O (show ∀p,aA aB wr p->S p from fun p h=>by rw[C];exact h);have d:S wr.drew:=by rw[C];exact(aA.refl _ _).drew
   clear C;refine wp_region_held (S:=S) (by kernel_rfl) ?_;change wpAnyH _ _ _ _ _ _ _ _ wr.drew;generalize wr.drew=q5 at d ⊢;refine tka 0 (.int .i64 0) rfl d ?_;simp only[Act.put,List.setIfInBounds_toArray,List.set_cons_zero,List.set_cons_succ,List.getElem_toArray,List.getElem_cons_zero];refine tna 1 (.int .i64 0) rfl d ?_;refine tnb 2 (.bool false) rfl d ?_;refine tna 3 (.bool false) rfl d ?_;refine tnc 4 undef rfl d ?_;refine tnc 5 undef rfl d ?_;refine tnc 6 undef rfl d ?_;refine tnc 7 undef rfl d ?_;refine tnc 8 undef rfl d ?_;refine tnc 9 undef rfl d ?_;refine tnc 10 undef rfl d ?_;refine tnc 11 undef rfl d ?_;refine tnc 12 undef rfl d ?_;refine tnc 13 undef rfl d ?_;refine tnc 14 undef rfl d ?_;refine tnc 15 undef rfl d ?_;refine tna 16 (.bool false) rfl d ?_;refine wpAnyH_done (by kernel_rfl) ?_ _;have t:=O (u _ d);clear d u Q;have a:=O (a.keep t.out id);have D:=O (D.trans' t.out (U:=fun j=>j=g) (fun _ _ h=>h) (fun _ _ h=>h.elim));clear t;have HF:=O (N.stop f);have qc:Hid (fZ _ base g cap ((A++x::B)++o.drop (k+1))):=O (by rw[←HF.1];exact a.out);clear f;go_wp2
   go_roundw
   case rel=>exact⟨k+1,A++x::B,by omega,.inl (by omega),by go_num,qc,O HF.2.1,O HF.2.2,D⟩
   case measure=>simp[intOf];omega
  ·obtain⟨j,rfl⟩:∃m,j=m+1:=⟨j-1,by omega⟩
   obtain⟨A,y,rfl⟩:∃A' y,A=A'++[y]:=by
    rcases List.eq_nil_or_concat A with rfl|⟨A',z,rfl⟩
    ·have:=N.len;simp at this
    ·exact⟨A',z,by rw[List.concat_eq_append]⟩
   have R:A.length=j:=by have:=N.len;rw[List.length_append,List.length_singleton] at this;omega
   have V:ys=A++y::x::(B++o.drop (k+1)):=by rw[N.ys];simp
   have F:=a.cell (k:=j) (x:=y) (by rw[V,List.getElem?_append_right (by omega),R];simp);have E:=a.cell (k:=j+1) (x:=x) (by rw[V,List.getElem?_append_right (by omega),R];simp);have q0:y∈o:=List.mem_of_mem_take (N.perm.mem_iff.1 (by simp));have qz:x∈o:=List.mem_of_getElem? HX.out
   have q1:y<x:=by
    have hm:y∈o.take k:=N.perm.mem_iff.1 (by simp);obtain⟨q,hq⟩:=List.getElem?_of_mem hm;have zn:=(List.getElem?_eq_some_iff.1 hq).1;rw[List.length_take] at zn;rw[List.getElem?_take,if_pos (by omega)] at hq;have hx:=HX.out;obtain⟨h1,rfl⟩:=List.getElem?_eq_some_iff.1 hq;obtain⟨h2,rfl⟩:=List.getElem?_eq_some_iff.1 hx;exact List.pairwise_iff_getElem.1 qk.out q k h1 h2 (by omega)
   have zg:=O (ql y q0);have zf:=O (ql x qz);have HC:=O (fun wx (kk:aA (fun j=>j=g) w wx)=>Me wx bx x y fr v (HR.keep kk fun b hb e=>q9.out (by rw[hb,e])) (kk.blk HB.out (fun e=>zk e.symm)) zf.out zg.out);obtain⟨r,hr⟩:=zX9 (iQ (fr.getD y 0) (fr.getD x 0))
   obtain⟨bb,qe⟩:=zX9 (decide (r<0))
   have qj:Hid (dF fr x y=bb):=O (by
    rw[←qe,←hr,Ol];unfold dF;rw[Bool.eq_iff_iff];simp only[Bool.or_eq_true,Bool.and_eq_true,decide_eq_true_eq];omega)
   rw[hr] at HC;have zb:=O qe;have qd:=O V;have L:=O R;have zh:=O q1;clear q0 qz q1 hr qe V R;have zm:(0:Int)<((j+1:Nat):Int):=by omega
   have qu:((j+1:Nat):Int)<(n:Int):=by omega
   have zl:((j+1:Nat):Int)-1=(j:Int):=by omega
   obtain⟨G,qf⟩:=zX9 (j+1)
   rw[qf] at zm qu zl E ⊢;have M:=O qf;have zp:(j:Int)<(n:Int):=by omega
   have zr:0<G:=by omega
   have zq:(0:Int)≤(j:Int):=by omega
   have zx:IntKind.i64.wrap (j:Int)=(j:Int):=by rw[IntWalk.i64_in _ (by omega)]
   clear qf;go_wp2_with fail;obtain⟨S,C⟩:∃S:World->Prop,S=fun p=>aA aB wr p:=⟨_,rfl⟩
   have u:=O (show ∀p,S p->aA aB wr p from fun p h=>by rw[C] at h;exact h);have Q:=O (show ∀p,aA aB wr p->S p from fun p h=>by rw[C];exact h);have d:S wr.drew:=by rw[C];exact(aA.refl _ _).drew
   clear C;refine wp_region_held (S:=S) (by kernel_rfl) ?_;change wpAnyH _ _ _ _ _ _ _ _ wr.drew;generalize wr.drew=q5 at d ⊢;refine tka 0 (.int .i64 (G:Int)) rfl d ?_;simp only[Act.put,List.setIfInBounds_toArray,List.set_cons_zero,List.set_cons_succ,List.getElem_toArray,List.getElem_cons_zero];refine tna 1 (.int .i64 0) rfl d ?_;refine tnb 2 (.bool true) rfl d ?_;refine tna 3 (.bool true) rfl d ?_;refine tna 4 (.func (.func 239) #[] #[.pointer bx]) rfl d ?_;refine tna 5 (.slice g n cap) rfl d ?_;refine tna 6 (.int .i64 (G:Int)) rfl d ?_;refine tnb 7 (.pointer (some ⟨g,G,none⟩)) rfl d ?_;refine tnd 8 (.int .i64 (x:Int)) rfl (.inl ⟨by rfl,fun p qh=>by have c:=(u p qh).cell E id;go_simp⟩) d ?_;refine tna 9 (.slice g n cap) rfl d ?_;refine tna 10 (.int .i64 (G:Int)) rfl d ?_;refine tnb 11 (.int .i64 (j:Int)) rfl d ?_;refine tnb 12 (.pointer (some ⟨g,j,none⟩)) rfl d ?_;refine tnd 13 (.int .i64 (y:Int)) rfl (.inl ⟨by rfl,fun p qh=>by have c:=(u p qh).cell F id;go_simp⟩) d ?_;refine wA9 14 ?_;go_wp2_with fail;refine(HC _ (D.trans' (u _ d) (U:=fun j=>j=g) (fun _ _ h=>h) (fun _ _ h=>h.elim))).mono ?_;rintro e qa ⟨rfl,hk⟩;have H:=Q.out _ ((u _ d).trans hk);clear d hk;go_wp2_with fail;refine⟨H,?_⟩;refine tnd 15 (.bool bb) rfl (.inl ⟨by rfl,fun _ _=>by have e:=zb.out;go_simp⟩) H ?_;refine tna 16 (.bool bb) rfl H ?_;refine wpAnyH_done (by kernel_rfl) ?_ _;have t:=O (u _ H);clear H u Q;have a:=O (a.keep t.out id);have D:=O (D.trans' t.out (U:=fun j=>j=g) (fun _ _ h=>h) (fun _ _ h=>h.elim));have F:=t.cell F id;have E:=t.cell E id;clear t HC;cases bb
   ·have f:∀z∈(A++[y]).getLast?,dF fr z x=true:=by
     intro z hz;have e:z=y:=by simpa using hz.symm
     subst e;exact Cm (by have:=zh.out;omega) qj.out
    clear F E;have HF:=O (N.stop f);have qc:Hid (fZ _ base g cap (((A++[y])++x::B)++o.drop (k+1))):=O (by rw[←HF.1];exact a.out);clear f;go_wp2
    go_roundw
    case rel=>exact⟨k+1,(A++[y])++x::B,by omega,.inl (by omega),by go_num,qc,O HF.2.1,O HF.2.2,D⟩
    case measure=>simp[intOf];omega
   ·have ze:=O (N.down qj.out)
    have X:=(a.set (k:=G) (by rw[qd.out,←M.out];simp[L.out]) y)
    have qi:=(X.1.set (k:=j) (by rw[List.length_set,qd.out];simp[L.out]) x)
    have q3:fZ ((qa.setCell ⟨g,G,none⟩ (.int .i64 (y:Int))).setCell ⟨g,j,none⟩ (.int .i64 (x:Int))) base g cap (A++x::y::(B++o.drop (k+1))):=by
     have h:=qi.1;rw[qd.out,←M.out,←L.out,JT] at h;rw[←M.out,←L.out];exact h
    have qv:=D.trans (X.2.trans qi.2);have HZ:=O (And.intro q3 qv);have zi:=a.free G;have zj:=X.1.free j;have qq:(qa.setCell ⟨g,G,none⟩ (.int .i64 (y:Int))).cell? ⟨g,j,none⟩=some (.int .i64 (y:Int)):=Jz (by intro e;have:=M.out;have e2:G=j:=congrArg Addr.off e;omega) F;clear X qi q3 qv;have zo:((G:Nat):Int)<(n:Int):=qu;go_wp2_with fail
    go_region
    have qo:=O (And.intro (HZ.1.keep (T:=aB) (aA.refl aB _).drew id) (HZ.2.drew));clear HZ zi zj qq F E;go_wp2
    go_roundw
    case rel=>exact⟨j,_,A,y::B,by omega,by go_num,qo.1,ze,qo.2⟩
    case measure=>simp[intOf];omega
 ·have Y:o.drop k=[]:=List.drop_eq_nil_iff.2 (by rw[HN.out];omega)
  have qx:o.take k=o:=List.take_of_length_le (by rw[HN.out];omega);have J:nE w base g cap fr o (.returned (.tuple #[])) wr:=⟨rfl,P,by have h:=a.out;rwa [Y,List.append_nil] at h,qm.out,by have h:=qb.out;rwa [qx] at h,D.out⟩
  have za:=O J;clear J Y qx;go_wp2_with fail
  go_end0
  exact za.out
theorem fZ.of_owns{m c:Nat}{b:Option Addr}(h:w.ownsRow base 3 1 (.slice b m c) m (nV l))(q:0<m)(n:l.length=m):∃g,b=some ⟨g,0,none⟩/\fZ w base g c l:=by
 rcases h.2 with⟨a,-⟩|⟨g,cap,cur,a,d,e,p,f,h6,h7⟩
 ·cases a;omega
 ·cases a
  exact⟨g,rfl,d,by omega,f,cur,e,by omega,by rw[n,←h7,Nat.mul_one]⟩
def zX(w a:World)(v:Value)(l:List Nat):Prop:=Rd a 1 v l.length (nV l)/\∀k,v.ownBlock=some k->w.heap.size≤k
def uH(w:World)(o:Option (List Nat))(e:Ending)(a:World):Prop:=
 match o with
 | none=>e=.returned (.tuple #[.slice none 0 0,.bool false])/\aA aB w a
 | some l=>∃v,e=.returned (.tuple #[v,.bool true])/\zX w a v l/\aA aB w a
theorem Mf(th:List Bool){b:Bool}(h:th[k]?=some b):(th.take (k+1)).countP id=(th.take k).countP id+if b then 1 else 0:=by
 rw[List.take_add_one,h,List.countP_append];cases b<;>rfl
def wO(fr:List Int):Bool:=fr.all fun x=>decide (0≤x) && decide (x≤4096)
def jZ(fr:List Int)(th:List Bool)(cp:Int):Bool:=decide (2≤fr.length) && decide (fr.length≤8) && decide (th.length=fr.length) && decide (1≤cp) && decide (cp≤3) && wO fr
theorem FZ{th:List Bool}{cp:Int}(h:jZ fr th cp=true):2≤fr.length/\fr.length≤8/\th.length=fr.length/\1≤cp/\cp≤3/\∀x∈fr,0≤x/\x≤4096:=by
 unfold jZ wO at h;simp only[Bool.and_eq_true,decide_eq_true_eq,List.all_eq_true] at h;exact⟨h.1.1.1.1.1,h.1.1.1.1.2,h.1.1.1.2,h.1.1.2,h.1.2,h.2⟩
theorem Om{l:List Bool}(h:Rd w 1 v l.length (l.map Value.bool)){x:Bool}(b:l[k]?=some x):∃g o cap,v=.slice (some ⟨g,o,none⟩) l.length cap/\w.cell? ⟨g,o+k,none⟩=some (.bool x):=by
 obtain⟨h0,a,cap,rfl,f,m,n,c⟩:=h;have e:=(List.getElem?_eq_some_iff.1 b).1;obtain⟨g,o,rfl,d⟩:=c (by rw[List.length_map];omega);exact⟨g,o,cap,rfl,d k _ (by rw[List.getElem?_map,b];rfl)⟩
theorem Ie(w:World)(bx base g cap:Nat)(fr:List Int)(o:List Nat)(v:Value)(C:Rd w 1 v fr.length (fr.map fun x=>.int .i64 x))(u:w.heap[bx]?=some (.cells #[v] 48 (0,0)))(d:v.ownBlock≠some g)
 (b:fZ w base g cap o) (t:o.length≤8) (a:o.Pairwise (·<·)) (f:∀i∈o,i<fr.length) :
 Calls prog 252 #[.slice g o.length cap,.int .i64 (o.length:Int),(.func (.func 239) #[] #[.pointer bx])] w (nE w base g cap fr o):=by
 have c:=Id w bx base g cap fr o v C u d b t a f;obtain⟨n,z⟩:=zX9 o.length
 rw[z] at c t ⊢;have c:=O c;clear C u d b a f z;have F:¬(20:Int)≤(n:Int):=by omega
 have p:¬(20:Int)<(n:Int):=by omega
 go_in;go_wp2_with fail
 go_loopw [7,8] (fun x y wr=>x=.int .i64 0/\y=.int .i64 20/\wr=w) (fun _ _ _=>0)
 case atStart=>exact⟨rfl,rfl,rfl⟩
 case round =>
 obtain⟨rfl,rfl,rfl⟩:=hrel;go_wp2_with fail;refine c.mono ?_;rintro e D ⟨rfl,P,h,m,q,r⟩;have E:Hid (nE _ base g cap fr o (.returned (.tuple #[])) D):=O ⟨rfl,P,h,m,q,r⟩;clear h m q r c;go_wp2_with fail
 go_loopw [6] (fun x wr=>x=.int .i64 20/\wr=D) (fun _ _=>0)
 case atStart=>exact⟨rfl,rfl⟩
 case round =>
 obtain⟨rfl,rfl⟩:=hrel;go_wp2_with fail
 go_end0
 exact E.out
theorem BN(w:World)(bx base g cap:Nat)(fr:List Int)(o:List Nat)(v:Value)(z:Rd w 1 v fr.length (fr.map fun x=>.int .i64 x))(t:w.heap[bx]?=some (.cells #[v] 48 (0,0)))(d:v.ownBlock≠some g)
 (b:fZ w base g cap o) (r:o.length≤8) (a:o.Pairwise (·<·)) (f:∀i∈o,i<fr.length) :
 Calls prog 238 #[.slice g o.length cap,(.func (.func 239) #[] #[.pointer bx])] w (nE w base g cap fr o):=by
 have c:=Ie w bx base g cap fr o v z t d b r a f;obtain⟨n,u⟩:=zX9 o.length
 rw[u] at c ⊢;have c:=O c;clear z t d b a f u r;go_in;go_wp2_with fail;refine c.mono ?_;rintro e D ⟨rfl,P,h,m,p,q⟩;have C:Hid (nE w base g cap fr o (.returned (.tuple #[])) D):=O ⟨rfl,P,h,m,p,q⟩;clear h m p q c;go_wp2_with fail
 go_end0
 exact C.out
theorem If(w:World)(v vt:Value)(fr:List Int)(th:List Bool)(cp:Nat)(I:Rd w 1 v fr.length (fr.map fun x=>.int .i64 x))(ht:Rd w 1 vt th.length (th.map Value.bool))(h8:fr.length≤8)(hl:th.length=fr.length)(zt:1≤cp)(zj:cp≤3) :
 Calls prog 217 #[v,vt,.int .i64 (cp:Int)] w (uH w (cF fr th cp)):=by
 obtain⟨oa,ca,rfl,-,-⟩:=I.form;obtain⟨ta,tc,rfl,-,-⟩:=ht.form;obtain⟨n,hn⟩:=zX9 fr.length
 rw[hn] at I h8 hl ⊢;rw[hl] at ht ⊢;have K:=O hn;have G:=O hl;obtain⟨Z,zh,C,qi,qt⟩:=aP w #[Value.slice oa n ca] 48;have z0:=C.size;have qy:=O C;have M:=O qi;have HR:=O (I.keep C fun _ _=>id);have HT:=O (ht.keep C fun _ _=>id);have zq:=O qt;have q5:=O I;clear C qi qt I ht hn hl;go_in;go_wp2_with fail;clear zh;have qk:=aC M.out (i:=0) rfl
 go_step3
 go_wp2_with fail
 go_step3
 go_wp2_with fail
 go_loopw [8,9,14] (fun t u i wr=>∃(k m q:Nat) (Y:Option Addr) (J:Nat),k≤n/\m≤k/\q≤k/\t=.slice Y m J/\u=.int .i64 q/\i=.int .i64 k/\Hid ((dC fr th k).length=m)/\Hid ((th.take k).countP id=q)/\Hid (wr.ownsRow Z.heap.size 3 1 (.slice Y m J) m (nV (dC fr th k)))/\Hid (aA aB Z wr)) (fun _ _ i _=>n-(intOf i).toNat)
 case atStart=>exact⟨0,0,0,none,0,Nat.zero_le _,Nat.le_refl _,Nat.le_refl _,rfl,rfl,rfl,O rfl,O rfl,O (World.ownsRow_nil _ _ _ _),O (aA.refl _ _)⟩
 case round =>
 obtain⟨k,m,q,Y,J,hk,zy,zz,rfl,rfl,rfl,f,HQ,HO,E⟩:=hrel;clear qk;have qk:=E.cell (aC M.out (i:=0) rfl) id
 by_cases qn:k<n
 ·have zx:(k:Int)<(n:Int):=by omega
  have zw:(0:Int)≤(k:Int):=by omega
  obtain⟨x,hx⟩:∃x,fr[k]?=some x:=⟨fr[k]'(by rw[K.out];exact qn),List.getElem?_eq_getElem _⟩
  obtain⟨y,hy⟩:∃x,th[k]?=some x:=⟨th[k]'(by rw[G.out];exact qn),List.getElem?_eq_getElem _⟩
  have I:=HR.keep E.out fun _ _=>id
  rw[←K.out] at I;obtain⟨p,o,cap,hv,zu⟩:=tC I hx;rw[K.out] at hv;have e1:oa=some ⟨p,o,none⟩:=by cases hv;rfl
  subst e1;have S:=HT.keep E.out fun _ _=>id
  rw[←G.out] at S;obtain⟨p2,o2,zi,T,zv⟩:=Om S hy;rw[G.out] at T;have e1:ta=some ⟨p2,o2,none⟩:=by cases T;rfl
  subst e1;have z:=O (sF fr th k);have N:=O (Mf th hy);have r:Hid (eK fr th k=(y && decide (0<x))):=O (by unfold eK;rw[List.getD_eq_getElem?_getD,List.getD_eq_getElem?_getD,hx,hy];rfl);clear I S hv T hx hy;cases y
  ·go_wp2
   go_roundw
   case rel=>exact⟨k+1,m,q,Y,J,by omega,by omega,by omega,rfl,rfl,by go_num,O (by rw[z.out,r.out];simpa using f.out),O (by rw[N.out,HQ.out];rfl),O (by rw[z.out,r.out];simpa using HO.out),E⟩
   case measure=>simp[intOf];omega
  ·by_cases X:0<x
   ·obtain⟨w8,qw,Q,qj,zg⟩:=aP wr #[.int .i64 (k:Int)] 3
    have q9:Hid (Rd w8 1 (.slice (wr.heap.size) 1 1) 1 [.int .i64 (k:Int)]):=O (dX (n:=1) (size:=1) (vs:=[.int .i64 (k:Int)]) qj rfl (by unfold maxLen;omega));have qe:=O (Q.owns HO.out fun _ _=>id);have qc:=O (E.trans Q);have qu:Z.heap.size≤w8.heap.size:=qc.size;have qf:Hid (dC fr th (k+1)=dC fr th k++[k]):=O (by rw[z.out,r.out,decide_eq_true X];rfl);have qp:∀u∈[Value.int .i64 (k:Int)],u.oneCell'=true:=by simp[Value.oneCell']
    clear Q qj zg
    go_wp2_with (first
     | (at_builtin;try rw[qw]
        refine aM rfl (.tmp 29) (.tmp 31) 48 rfl Z.heap.size 3 (.int .i64 0) 1 8 underlying48 GJ rfl (by decide) (.slice Y m J) m (nV (dC fr th k)) rfl qe.out (.slice (wr.heap.size) 1 1) 1 [.int .i64 (k:Int)] rfl q9.out qp (by unfold maxLen;omega) (by omega) qu ?_;intro v' w5 R qm zf za;obtain⟨va,vc,rfl,-,-⟩:=(Rd.of_owns R).form;have q3:Hid (w5.ownsRow Z.heap.size 3 1 (.slice va (m+1) vc) (m+1) (nV (dC fr th (k+1)))):=O (by rw[qf.out];unfold nV;rw[List.map_append];exact R);have qz:=O (qc.trans' qm (U:=aB) (fun _ _ h=>h) (fun i hi e=>by have:=bM qe.out e;omega));clear R qm zf za qw))
    go_roundw
    case rel=>exact⟨k+1,m+1,q+1,va,vc,by omega,by omega,by omega,rfl,by go_num,by go_num,O (by rw[qf.out,List.length_append,f.out];rfl),O (by rw[N.out,HQ.out];rfl),q3,qz⟩
    case measure=>simp[intOf];omega
   ·go_wp2
    go_roundw
    case rel=>exact⟨k+1,m,q+1,Y,J,by omega,by omega,by omega,rfl,by go_num,by go_num,O (by rw[z.out,r.out,decide_eq_false X];simpa using f.out),O (by rw[N.out,HQ.out];rfl),O (by rw[z.out,r.out,decide_eq_false X];simpa using HO.out),E⟩
    case measure=>simp[intOf];omega
 ·obtain rfl:n=k:=by omega
  have qv:upN th=q:=by
   have h:=HQ.out;rw[List.take_of_length_le (by rw[G.out];exact Nat.le_refl _)] at h;exact h
  obtain⟨wt,qx⟩:=zX9 (min cp q)
  have V:kP th cp=wt:=by unfold kP;rw[qv];exact qx
  have zk:min (cp:Int) (q:Int)=(wt:Int):=by omega
  have zd:(if (q:Int)<(cp:Int) then (q:Int) else (cp:Int))=(wt:Int):=by split<;>omega
  have qg:cF fr th cp=if m=0\/m<wt then none else some ((jS fr th).take wt):=by
   unfold cF;rw[K.out,V,f.out]
   by_cases h0:dC fr th n=[]
   ·have c:m=0:=by rw[←f.out,h0];rfl
    rw[if_pos (.inl h0),if_pos (.inl c)]
   ·have c:¬m=0:=fun e=>h0 (List.length_eq_zero_iff.1 (by rw[f.out,e]))
    by_cases D:m<wt
    ·rw[if_pos (.inr D),if_pos (.inr D)]
    ·rw[if_neg (fun h=>h.elim h0 D),if_neg (fun h=>h.elim c D)]
  have qa:=O qg;have zr:=O V;have zo:wt≤n:=by omega
  clear qg V qv qx;have qh:=qy.trans E.out;have qd:=O qh;clear qh
  by_cases qo:m=0\/m<wt
  ·have a:∀e,e=.returned (.tuple #[.slice none 0 0,.bool false])->uH w (cF fr th cp) e wr:=fun e he=>by rw[qa.out,if_pos qo];exact⟨he,qd.out⟩
   have F:=O a;clear a
   by_cases c:m=0
   ·subst c
    go_wp2
    go_ret2
    exact F.out _ rfl
   ·have zb:¬(m:Int)=0:=by omega
    have ze:(m:Int)<(wt:Int):=by omega
    go_wp2
    go_ret2
    exact F.out _ rfl
  ·have c:0<m:=by omega
   have zb:¬(m:Int)=0:=by omega
   have ze:¬(m:Int)<(wt:Int):=by omega
   obtain⟨g,e1,d⟩:=fZ.of_owns HO.out c f.out;subst e1;have ql:=d.1
   have HC:=BN wr w.heap.size Z.heap.size g J fr (dC fr th n) _ (by rw[K.out];exact HR.keep E.out fun _ _=>id) (E.blk M.out id) (fun e=>by
    have D:=q5.lt (by
     have:=K.out;have h2:0<(dC fr th n).length:=by rw[f.out];exact c
     have h3:=Hq fr th n;rw[List.length_map];omega)
    obtain⟨k',h4,h5⟩:=D;rw[e] at h4;cases h4
    omega) d (by rw[f.out];omega) (List.Pairwise.filter _ List.pairwise_lt_range) (fun i hi=>by rw[K.out];exact(tZ.1 hi).1)
   rw[f.out] at HC;have HC:=O HC;have zp:(wt:Int)≤(m:Int):=by omega
   have zn:(0:Int)≤(wt:Int):=by omega
   have zm:m≤J:=by have:=d.2.1;rw[f.out] at this;exact this
   have zl:(wt:Int)≤(J:Int):=by omega
   have qb:=O ql;clear d ql;go_wp2_with fail;refine HC.mono ?_;rintro e w6 ⟨rfl,P,D,h2,h3,h4⟩;have qr:P=jS fr th:=yV (by rw[K.out];exact h3) h2;have qq:=D.rd;have H:P.length=m:=by rw[h3.length_eq,f.out]
   rw[H] at qq
   have q1:Hid (zX w w6 (.slice g wt wt) ((jS fr th).take wt)):=O (by
    rw[←qr];have L:(P.take wt).length=wt:=by rw[List.length_take,H];omega
    obtain⟨k1,k2,k3,cur,k4,k5,k6⟩:=D;rw[H] at k2 k6;refine⟨⟨by simp[nV],some ⟨g,0,none⟩,wt,by rw[L],by omega,by omega,(by intro e;cases e),fun _=>⟨g,0,rfl,fun i u hu=>?_⟩⟩,fun b hb=>?_⟩
    ·refine aC k4 ?_
     have hi:i<wt:=by have:=(List.getElem?_eq_some_iff.1 hu).1;unfold nV at this;rw[List.length_map,L] at this;exact this
     unfold nV at hu k6;rw[List.map_take,←k6,List.take_take,List.getElem?_take,if_pos (by omega)] at hu
     simpa using hu
    ·have e:g=b:=Option.some.inj hb
     have:=qb.out;omega)
   have q0:=O (qd.trans' h4 (U:=aB) (fun _ _ h=>h) (fun i hi e=>by have:=qb.out;omega));have a:∀e,e=.returned (.tuple #[.slice g wt wt,.bool true])->uH w (cF fr th cp) e w6:=fun e he=>by rw[qa.out,if_neg qo];exact⟨_,he,q1.out,q0.out⟩
   have F:=O a;clear a D h2 h3 h4 qr qq H HC;go_wp2
   go_ret2
   exact F.out _ rfl
def lB(x:Int):Bool:=decide (x<0) || decide (4096<x)
theorem Ig(w:World)(x:Int):Calls prog 236 #[.int .i64 x] w fun e c=>e=.returned (.bool (lB x))/\w=c:=by
 by_cases h:x<0
 ·have e:lB x=true:=by unfold lB;rw[decide_eq_true h];rfl
  rw[e];go_in;go_wp2;go_ret;exact⟨rfl,rfl⟩
 ·have e:lB x=decide (4096<x):=by unfold lB;rw[decide_eq_false h];rfl
  rw[e];obtain⟨bb,a⟩:=zX9 (decide (4096<x))
  have d:decide (x<0)=false:=decide_eq_false h;go_in;go_wp2;go_ret;exact⟨rfl,rfl⟩
def On(w:World)(b:Bool)(e:Ending)(a:World):Prop:=∃r:Int,e=.returned (.int .i64 r)/\(b=true->0≤r)/\(b=false->r<0)/\aA aB w a
theorem Ih(w:World)(v:Value)(l:List Int)(d:Rd w 1 v l.length (l.map fun x=>.int .i64 x))(M:l.length≤65536):Calls prog 85 #[v,.func (.func 236) #[] #[]] w (On w (l.any lB)):=by
 obtain⟨Q,R,rfl,-,-⟩:=d.form;obtain⟨n,E⟩:=zX9 l.length
 obtain⟨K,a⟩:=zX9 (l.any lB)
 have f:=O a;rw[a];clear a;have t:=O E;have H:=O d;rw[E] at H M ⊢;clear d E;go_in;go_wp2_with fail
 go_loopw [8] (fun i wr=>∃k:Nat,k≤n/\i=.int .i64 k/\Hid ((l.take k).any lB=false)/\Hid (aA aB w wr)) (fun i _=>n-(intOf i).toNat)
 case atStart=>exact⟨0,Nat.zero_le _,rfl,O (by simp),O (aA.refl _ _)⟩
 case round =>
 obtain⟨k,S,rfl,I,r⟩:=hrel
 by_cases D:k<n
 ·have P:(k:Int)<(n:Int):=by omega
  have C:(0:Int)≤(k:Int):=by omega
  obtain⟨x,G⟩:∃x,l[k]?=some x:=⟨l[k]'(by rw[t.out];exact D),List.getElem?_eq_getElem _⟩
  have d:=H.keep r.out fun _ _=>id
  rw[←t.out] at d;obtain⟨p,o,cap,F,N⟩:=tC d G;rw[t.out] at F;have L:Q=some ⟨p,o,none⟩:=by cases F;rfl
  subst L;have J:=O G;have q:=Ig wr x;obtain⟨bb,c⟩:=zX9 (lB x)
  rw[c] at q;have q:=O q;have m:=O c;clear d F G c;go_wp2_with fail;refine q.mono ?_;rintro e T ⟨rfl,rfl⟩;cases bb
  ·have u:Hid ((l.take (k+1)).any lB=false):=O (by rw[List.take_add_one,J.out,List.any_append,I.out];simpa using m.out)
   go_wp2
   go_roundw
   case rel=>exact⟨k+1,by omega,by go_num,u,r⟩
   case measure=>simp[intOf];omega
  ·have z:K=true:=by rw[←f.out];exact List.any_eq_true.2 ⟨x,List.mem_of_getElem? J.out,m.out⟩
   subst z;go_wp2;go_ret;exact⟨_,rfl,fun _=>C,(fun h=>by cases h),r.out⟩
 ·obtain rfl:n=k:=by omega
  have z:K=false:=by
   have h:=I.out;rw[List.take_of_length_le (by rw[t.out];exact Nat.le_refl _)] at h;rw[←f.out];exact h
  subst z;go_wp2;go_ret;exact⟨_,rfl,(fun h=>by cases h),(fun _=>by decide),r.out⟩
theorem Dx(w:World)(v:Value)(l:List Int)(q:Rd w 1 v l.length (l.map fun x=>.int .i64 x))(n:l.length≤65536):Calls prog 237 #[v,.func (.func 236) #[] #[]] w fun e u=>e=.returned (.bool (l.any lB))/\aA aB w u:=by
 have d:=O (Ih w v l q n);obtain⟨bb,c⟩:=zX9 (l.any lB)
 rw[c] at d ⊢;clear q n c;go_in;go_wp2_with fail;refine d.mono ?_;rintro e z ⟨r,rfl,f,h,p⟩;have m:=O p;clear p d;cases bb
 ·have a:¬0≤r:=by have:=h rfl;omega
  have t:decide (0≤r)=false:=decide_eq_false a;clear f h;go_wp2;go_ret;exact⟨rfl,m.out⟩
 ·have a:0≤r:=f rfl
  have t:decide (0≤r)=true:=decide_eq_true a;clear f h;go_wp2;go_ret;exact⟨rfl,m.out⟩
theorem Ii(fr:List Int):wO fr=!fr.any lB:=by
 unfold wO lB;rw[Bool.eq_iff_iff,Bool.not_eq_true',List.any_eq_false,List.all_eq_true];refine forall_congr' fun x=>forall_congr' fun _=>?_
 rw[Bool.and_eq_true,decide_eq_true_eq,decide_eq_true_eq,Bool.or_eq_true,decide_eq_true_eq,decide_eq_true_eq];omega
def JV(w:World)(b:Bool)(e:Ending)(a:World):Prop:=e=.returned (.int .i64 (if b then 0 else 2))/\aA aB w a
theorem Ij(w:World)(v R:Value)(fr:List Int)(th:List Bool)(cp:Int)(E:Rd w 1 v fr.length (fr.map fun x=>.int .i64 x))(I:Rd w 1 R th.length (th.map Value.bool)) :
 Calls prog 216 #[v,R,.int .i64 cp] w (JV w (jZ fr th cp)):=by
 have p:=O (fun(h:fr.length≤65536)=>Dx w v fr E h);obtain⟨oa,Z,rfl,-,-⟩:=E.form;obtain⟨ta,tc,rfl,-,-⟩:=I.form;have u:fr.length≤maxLen:=by obtain⟨_,S,T,m,r,D,-⟩:=E;omega
 have z:th.length≤maxLen:=by obtain⟨_,S,T,m,r,D,-⟩:=I;omega
 unfold maxLen at u z;have t:jZ fr th cp=(decide (2≤fr.length) && decide (fr.length≤8) && decide (th.length=fr.length) && decide (1≤cp) && decide (cp≤3) && !fr.any lB):=by unfold jZ;rw[Ii]
 rw[t];obtain⟨n,H⟩:=zX9 fr.length
 obtain⟨q,Q⟩:=zX9 th.length
 obtain⟨Y,d⟩:=zX9 (fr.any lB)
 rw[H,d] at p;rw[H] at u ⊢;rw[Q] at z ⊢;rw[d];clear E I t H Q d;have a:=O (aA.refl aB w)
 by_cases m:2≤n
 ·by_cases r:n≤8
  ·by_cases D:q=n
   ·subst D
    have f:¬(q:Int)<2:=by omega
    have C:¬(8:Int)<(q:Int):=by omega
    have F:decide ((q:Int)<2)=false:=decide_eq_false f;have d2:decide ((8:Int)<(q:Int))=false:=decide_eq_false C;rw[decide_eq_true m,decide_eq_true r,decide_eq_true (rfl:q=q)]
    by_cases G:1≤cp
    ·by_cases N:cp≤3
     ·have c:¬cp<1:=by omega
      have J:¬3<cp:=by omega
      have M:decide (cp<1)=false:=decide_eq_false c;have U:decide (3<cp)=false:=decide_eq_false J;rw[decide_eq_true G,decide_eq_true N];have K:=O (p (by omega));go_in;go_wp2_with fail;refine K.mono ?_;rintro e w2 ⟨rfl,P⟩;have L:=O P;clear P K;cases Y
      ·go_wp2
       go_ret;exact⟨rfl,L.out⟩
      ·go_wp2
       go_ret;exact⟨rfl,L.out⟩
     ·have c:¬cp<1:=by omega
      have J:3<cp:=by omega
      have M:decide (cp<1)=false:=decide_eq_false c;have U:decide (3<cp)=true:=decide_eq_true J;rw[decide_eq_true G,decide_eq_false N];go_in;go_wp2;go_ret;exact⟨rfl,a.out⟩
    ·have c:cp<1:=by omega
     have M:decide (cp<1)=true:=decide_eq_true c;rw[decide_eq_false G];go_in;go_wp2;go_ret;exact⟨rfl,a.out⟩
   ·have f:¬(n:Int)<2:=by omega
    have C:¬(8:Int)<(n:Int):=by omega
    have c:(q:Int)≠(n:Int):=by omega
    have F:decide ((n:Int)<2)=false:=decide_eq_false f;have d2:decide ((8:Int)<(n:Int))=false:=decide_eq_false C;have V:((q:Int) != (n:Int))=true:=bne_iff_ne.2 c;have X:((q:Int) == (n:Int))=false:=beq_false_of_ne c;rw[decide_eq_true m,decide_eq_true r,decide_eq_false D];go_in;go_wp2;go_ret;exact⟨rfl,a.out⟩
  ·have f:¬(n:Int)<2:=by omega
   have C:(8:Int)<(n:Int):=by omega
   have F:decide ((n:Int)<2)=false:=decide_eq_false f;have d2:decide ((8:Int)<(n:Int))=true:=decide_eq_true C;rw[decide_eq_true m,decide_eq_false r];go_in;go_wp2;go_ret;exact⟨rfl,a.out⟩
 ·have f:(n:Int)<2:=by omega
  have F:decide ((n:Int)<2)=true:=decide_eq_true f;rw[decide_eq_false m];go_in;go_wp2;go_ret;exact⟨rfl,a.out⟩
def oV(w:World)(fr:List Int)(th:List Bool)(cp:Int)(e:Ending)(a:World):Prop:=
 if jZ fr th cp then
  match cF fr th cp.toNat with
  | none=>e=.returned (.tuple #[.slice none 0 0,.int .i64 15])/\aA aB w a
  | some l=>∃v,e=.returned (.tuple #[v,.int .i64 0])/\zX w a v l/\aA aB w a
 else e=.returned (.tuple #[.slice none 0 0,.int .i64 2])/\aA aB w a
theorem zX.of{a c:World}(h:zX a c v l)(k:aA aB w a):zX w c v l:=⟨h.1,fun b d=>Nat.le_trans k.size (h.2 b d)⟩
theorem F4(w:World)(v D:Value)(fr:List Int)(th:List Bool)(cp:Int)(z:Rd w 1 v fr.length (fr.map fun x=>.int .i64 x))(C:Rd w 1 D th.length (th.map Value.bool)) :
 Calls prog 190 #[v,D,.int .i64 cp] w (oV w fr th cp):=by
 have t:=O (Ij w v D fr th cp z C);obtain⟨bb,n⟩:=zX9 (jZ fr th cp)
 have c:=O (fun(h:bb=true) (wx:World) (k:aA aB w wx)=>by
  rw[←n] at h;obtain⟨Q,K,L,R,S,-⟩:=FZ h;have:=If wx v D fr th cp.toNat (z.keep k fun _ _=>id) (C.keep k fun _ _=>id) K L (by omega) (by omega)
  rwa [Int.toNat_of_nonneg (by omega)] at this)
 have m:=O n;rw[n] at t;obtain⟨T,P,rfl,-,-⟩:=z.form;obtain⟨U,V,rfl,-,-⟩:=C.form;clear z C n;cases bb
 ·have J:Hid (∀a,aA aB w a->∀e,e=.returned (.tuple #[.slice none 0 0,.int .i64 2])->oV w fr th cp e a):=O (fun a k e u=>by unfold oV;rw[m.out,if_neg (by decide)];exact⟨u,k⟩)
  clear c;go_in;go_wp2_with fail;refine t.mono ?_;rintro e N ⟨rfl,d⟩;have r:=O d;clear d t;go_wp2
  go_ret2
  exact J.out _ r.out _ rfl
 ·obtain⟨o,I⟩:=zX9 (cF fr th cp.toNat)
  have F:=O I;rw[I] at c;clear I;have G:Hid (o=none->∀a,aA aB w a->∀e,e=.returned (.tuple #[.slice none 0 0,.int .i64 15])->oV w fr th cp e a):=O (fun h a k e u=>by unfold oV;rw[m.out,if_pos rfl,F.out,h];exact⟨u,k⟩);have H:Hid (∀l,o=some l->∀v a,zX w a v l->aA aB w a->∀e,e=.returned (.tuple #[v,.int .i64 0])->oV w fr th cp e a):=O (fun l h v a M k e u=>by unfold oV;rw[m.out,if_pos rfl,F.out,h];exact⟨v,u,M,k⟩);clear m F;go_in;go_wp2_with fail;refine t.mono ?_;rintro e N ⟨rfl,d⟩;have r:=O d;clear d t;go_wp2_with fail;refine(c (by simp) _ r.out).mono ?_;intro e w3 f;cases o with
  | none =>
    obtain⟨rfl,d⟩:=f;have p:=O (r.trans d);clear d c;go_wp2
    go_ret2
    exact G.out (by simp) _ p.out _ rfl
  | some l =>
    obtain⟨v,rfl,q,d⟩:=f;have E:=O (q.of r.out);have p:=O (r.trans d);obtain⟨X,Y,rfl,-,-⟩:=q.1.form;clear d c q;go_wp2
    go_ret2
    exact H.out l rfl _ _ E.out p.out _ rfl
theorem iV(w:World)(v v2:Value)(l m:List Int)(T:Rd w 1 v l.length (l.map fun x=>.int .i64 x))(Y:Rd w 1 v2 m.length (m.map fun x=>.int .i64 x)):Calls prog 15 #[v,v2] w (aN w (decide (l=m))):=by
 obtain⟨la,lc,rfl,-,-⟩:=T.form;obtain⟨ma,mc,rfl,-,-⟩:=Y.form;have P:l.length≤maxLen:=by obtain⟨_,a',c',h1,h2,h3,-⟩:=T;omega
 unfold maxLen at P;obtain⟨bb,D⟩:=zX9 (decide (l=m))
 have u:=O D;rw[D];clear D;obtain⟨n,Z⟩:=zX9 l.length
 obtain⟨q,hq⟩:=zX9 m.length
 have HL:=O T;have HM:=O Y;have I:=O Z;have J:=O hq;rw[Z] at HL P ⊢;rw[hq] at HM ⊢;clear T Y Z hq
 by_cases Q:n=q
 ·subst Q
  go_in;go_wp2_with fail
  go_loopw [5] (fun t wr=>∃k:Nat,k≤n/\t=.int .i64 k/\Hid (l.take k=m.take k)/\Hid (aA aB w wr)) (fun t _=>n-(intOf t).toNat)
  case atStart=>exact⟨0,Nat.zero_le _,rfl,O (by simp),O (aA.refl _ _)⟩
  case round =>
  obtain⟨k,hk,rfl,HT,C⟩:=hrel
  by_cases N:k<n
  ·have qf:(k:Int)<(n:Int):=by omega
   have qe:(0:Int)≤(k:Int):=by omega
   obtain⟨x,hx⟩:∃x,l[k]?=some x:=⟨l[k]'(by rw[I.out];exact N),List.getElem?_eq_getElem _⟩
   obtain⟨y,hy⟩:∃x,m[k]?=some x:=⟨m[k]'(by rw[J.out];exact N),List.getElem?_eq_getElem _⟩
   have hr:=HL.keep C.out fun _ _=>id
   rw[←I.out] at hr;obtain⟨p,o,cap,hv,hc⟩:=tC hr hx;rw[I.out] at hv;have X:la=some ⟨p,o,none⟩:=by cases hv;rfl
   subst X;have E:=HM.keep C.out fun _ _=>id
   rw[←J.out] at E;obtain⟨p2,o2,qa,F,M⟩:=tC E hy;rw[J.out] at F;have X:ma=some ⟨p2,o2,none⟩:=by cases F;rfl
   subst X;have HX:=O hx;have HY:=O hy;obtain⟨bi,L⟩:=zX9 ((x != y))
   have z:=O L;clear hr E hv F hx hy L;go_wp2_with fail;obtain⟨S,r⟩:∃S:World->Prop,S=fun a=>aA aB wr a:=⟨_,rfl⟩
   have f:=O (show ∀a,S a->aA aB wr a from fun a h=>by rw[r] at h;exact h);have U:=O (show ∀a,aA aB wr a->S a from fun a h=>by rw[r];exact h);have d:S wr.drew:=by rw[r];exact(aA.refl _ _).drew
   clear r;refine wp_region_held (S:=S) (by kernel_rfl) ?_;change wpAnyH _ _ _ _ _ _ _ _ wr.drew;generalize wr.drew=qb at d ⊢;refine tka 0 (.slice (some ⟨p,o,none⟩) n lc) rfl d ?_;simp only[Act.put,List.setIfInBounds_toArray,List.set_cons_zero,List.set_cons_succ,List.getElem_toArray,List.getElem_cons_zero];refine tna 1 (.int .i64 (k:Int)) rfl d ?_;refine tnb 2 (.pointer (some ⟨p,o+k,none⟩)) rfl d ?_;refine tnd 3 (.int .i64 x) rfl (.inl ⟨by rfl,fun a G=>by have c:=(f a G).cell hc id;go_simp⟩) d ?_;refine tna 4 (.slice (some ⟨p2,o2,none⟩) n mc) rfl d ?_;refine tna 5 (.int .i64 (k:Int)) rfl d ?_;refine tnb 6 (.pointer (some ⟨p2,o2+k,none⟩)) rfl d ?_;refine tnd 7 (.int .i64 y) rfl (.inl ⟨by rfl,fun a G=>by have c:=(f a G).cell M id;go_simp⟩) d ?_;refine tnd 8 (.bool bi) rfl (.inl ⟨by rfl,fun _ _=>by have e:=z.out;subst e;go_simp⟩) d ?_;refine wpAnyH_done (by kernel_rfl) ?_ _;have H:=O (f _ d);clear d f U;have C:=O (C.trans H.out);clear H hc M;cases bi
   ·have e:x=y:=by simpa using z.out
    have V:Hid (l.take (k+1)=m.take (k+1)):=O (by rw[List.take_add_one,List.take_add_one,HT.out,HX.out,HY.out,e]);go_wp2
    go_roundw
    case rel=>exact⟨k+1,by omega,by go_num,V,C⟩
    case measure=>simp[intOf];omega
   ·have e:x≠y:=by simpa using z.out
    have K:bb=false:=by
     rw[←u.out];refine decide_eq_false fun e2=>e ?_
     have h:=HX.out;rw[e2,HY.out] at h;exact(Option.some.inj h).symm
    subst K;go_wp2;go_ret;exact⟨rfl,C.out⟩
  ·obtain rfl:k=n:=by omega
   have K:bb=true:=by
    rw[←u.out];have h:=HT.out;rw[List.take_of_length_le (by rw[I.out];exact Nat.le_refl _),List.take_of_length_le (by rw[J.out];exact Nat.le_refl _)] at h;exact decide_eq_true h
   subst K;go_wp2;go_ret;exact⟨rfl,C.out⟩
 ·have hd:decide ((n:Int)=(q:Int))=false:=decide_eq_false (by omega)
  have R:(n:Int)≠(q:Int):=by omega
  have qc:((n:Int) != (q:Int))=true:=bne_iff_ne.2 R;have qd:((n:Int) == (q:Int))=false:=beq_false_of_ne R;have K:bb=false:=by rw[←u.out];exact decide_eq_false fun e=>Q (by rw[←I.out,←J.out,e])
  subst K;go_in;go_wp2;go_ret;exact⟨rfl,aA.refl _ _⟩
end
end Go.Proofs.YtoeinblfcbpcmaaGreat
