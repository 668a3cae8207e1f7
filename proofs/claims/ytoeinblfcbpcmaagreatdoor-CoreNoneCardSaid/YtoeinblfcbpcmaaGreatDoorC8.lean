import Derived.Test.YtoeinblfcbpcmaaGreatDoorC5
import Derived.Test.YtoeinblfcbpcmaaGreatDoorC7
import Derived.BigRegion
import Derived.WalkMore
namespace Go.Proofs.YtoeinblfcbpcmaaGreatDoor
open Tryz
set_option maxHeartbeats 0
set_option maxRecDepth 100000
set_option linter.unusedVariables false
section
open Go.RowKit Go.Maps Go.ChangeMaps
abbrev Adr:={ a:Ad // fC a }
variable{s B1 x k base g cap y i j:Nat}{w3 W w:World}{v:Value}{ys o l A B:List Nat}{fr:List Int}
theorem JO(n l B1 b:Nat)(lst:List (Ad×Nix))(J Jx:List Adr->World->Prop)(Bs:Nat)(hA:AbidesFrom Bs J)(W:World)(qf:Bs≤W.heap.size)
 (hY:∀a x W,J a W->a.length<lst.length->YieldAt Fence.wide (n-1) prog l #[adV x.1] W fun e D =>
   (e=.returned (.bool true)/\J (a++[x]) D/\tH B1 W D)\/(e=.returned (.bool false)/\Jx (a++[x]) D))
 (G:W.heap[B1]?=some (.cells #[.map (some b)] 241 (0,0))) (h2:bI fC adV fQ W b lst) (h0:J [] W) :
 CallsIn Fence.wide n prog 244 #[.func (.yield l) #[] #[],.pointer B1] W fun e D=>(∃v,e=.returned v) /\
  ((∃ys:List Adr,(ys.map (·.1)).Perm (lst.map (·.1))/\J ys D)\/(∃a,True/\Jx a D)):=by
 refine callsIn_of_wp func244 rfl trivial ?_ rfl;simp only[ntmps244,List.size_toArray,List.length_cons,List.length_nil,Nat.reduceAdd,Nat.reduceSub,Array.replicate_succ,Array.replicate_zero,List.push_toArray,List.append_toArray,List.nil_append,List.cons_append];have c1:=cell_of_one G;have H1:=O G;have H2:=O h2;have H0:=O h0;clear G h2 h0
 gi_wp2_with (first
  | (gi_at_range;refine pU rfl _ _ rfl underlying241 rfl H2.out ?_;intro w0 R q qh)
  | gi_in)
 go_frame
 have H:J [] w0:=hA _ _ _ none H0.out (gQ q) (fun r e=>by cases e);have N:w0.heap[B1]?=some (.cells #[.map (some b)] 241 (0,0)):=q.blk H1.out id;have R0:=O (And.intro R (And.intro H N));clear R q qh H N c1
 gi_loopw [3] (fun _ wr=>∃(left:List (Ad×Nix)) (a:List Adr),Hid (dC fC adV fQ wr b W.heap.size lst left/\J a wr/\wr.heap[B1]?=some (.cells #[.map (some b)] 241 (0,0)))/\(a.map (·.1)++left.map (·.1)).Perm (lst.map (·.1)))
  (fun _ wr=>wr.rangeLeft b W.heap.size)
 case atStart=>exact⟨lst,[],R0,by simp⟩
 case round =>
  obtain⟨left,a,c,V⟩:=hrel
  gi_wp2_with (first
   | (gi_at_next;refine qX rfl _ rfl rfl c.out.1 ?_ ?_)
   | gi_in)
  ·intro hl
   gi_wp2
   go_end0
   subst hl;exact⟨⟨_,rfl⟩,.inl ⟨a,by simpa using V,c.out.2.1⟩⟩
  ·intro i x v E f C S t qi Q
   have z:a.length<lst.length:=by
    have G:=V.length_eq;have h2:=(List.getElem?_eq_some_iff.1 f).1;simp at G;omega
   have I:J a E:=hA _ _ _ (some W.heap.size) c.out.2.1 (wF t) (fun r e=>by cases e;exact⟨qf,c.out.1.walk⟩);have P:E.heap[B1]?=some (.cells #[.map (some b)] 241 (0,0)):=t.blk c.out.2.2 (by have:=lt_of_block H1.out;omega)
   have U:((a++[(⟨x,C⟩:Adr)]).map (·.1)++(left.eraseIdx i).map (·.1)).Perm (lst.map (·.1)):=by
    refine List.Perm.trans ?_ V;have:=(lS f).map (·.1);simp only[List.map_append,List.map_cons,List.map_nil,List.append_assoc,List.singleton_append];exact(this.append_left _).symm
   have qc:=O I;have qa:=O S;have Z:=O Q;have Y:=O P;have qd:=O U;have qe:=O (c.out.1.count);have HL:=O (List.getElem?_eq_some_iff.1 f).1;have d:(aO x).length=2:=rfl;clear I S t qi Q P U f V c;unfold adV
   gi_wp2_with (first
    | (refine pV rfl _ rfl rfl Z.out ?_;show wpListIn _ _ _ _ _ _ (Act.put _ _ (Value.tuple #[.agg (aO x).toArray,fQ v])) _)
    | (refine lE rfl 93 rfl eN eI #[.int .i64 0,.int .i64 0] rfl ?_)
    | (refine kJ rfl 93 (.tmp 3) (.tmp 9) rfl E.heap.size 0 (aO x) rfl rfl #[.int .i64 0,.int .i64 0] _ (heap_alloc_new _ _) (by rw[d];simp) (by rw[d];exact cK) (bV _) ?_;intro w3 p T
       rw[aI _ _ (by rw[d];simp)] at p;have X:=O p;have m:=O (show aA aB E w3 from((aA.refl aB E).alloc _).tT T (fun i hi e=>by omega));clear p T;have K:=hA _ _ _ none qc.out (gQ m.out) (fun r e=>by cases e);have M:=hY a ⟨x,C⟩ w3 K z;unfold adV at M;obtain⟨fn,tmps,assign,body,hy,c⟩:=M;dsimp only at hy c;clear K)
    | (refine lF rfl 93 (.tmp 3) rfl E.heap.size 0 rfl (aO x) _ (aD X.out) bY rfl (by rw[d];exact cK) ?_)
    | gi_in)
   refine⟨fun h=>by simp[Fence.wide] at h,c.mono ?_⟩;rintro e W3 (⟨rfl,L,u⟩|⟨rfl,qg⟩)
   ·have F:=O (show dC fC adV fQ W3 b W.heap.size lst (left.eraseIdx i)/\J (a++[⟨x,C⟩]) W3/\W3.heap[B1]?=some (.cells #[.map (some b)] 241 (0,0)) from
     ⟨(qa.keep m.out id id).walks u.1,L,u.2.trans (m.blk Y.out id)⟩)
    clear L u c hy
    gi_wp2
    go_roundw
    case rel=>exact⟨_,_,F,qd.out⟩
    case measure=>rw[F.1.count,qe.out,List.length_eraseIdx_of_lt HL.out];have:=HL.out;omega
   ·gi_wp2
    refine bodyPost_ret (results_none rfl _ _ _) rfl ?_;exact⟨⟨_,rfl⟩,.inr ⟨_,trivial,qg⟩⟩
theorem Em(n B1 b:Nat)(lst:List (Ad×Nix))(w:World)(a:w.heap[B1]?=some (.cells #[.map (some b)] 241 (0,0)))(h:bI fC adV fQ w b lst) :
 SeqStopsK Fence.wide n prog 244 #[.pointer B1] (fun x:Adr=>#[adV x.1]) (tH B1) (fun ys=>(ys.map (·.1)).Perm (lst.map (·.1))) (fun _=>True) lst.length w:=by
 intro l J e W c m _ p h0;obtain⟨f,clock,d,q⟩:=h;exact JO n l B1 b lst J e _ m W (Nat.le_refl _) p ((c.block _ (lt_of_block a)).trans a) ⟨f,clock,(c.block _ (Array.getElem?_eq_some_iff.1 d).1).trans d,q⟩ h0
theorem F3(a:Option Nat)(w:World) :
 Calls prog 214 #[.map a] w fun e b=>e=.returned (.func (.func 244) #[] #[.pointer (w.heap.size)])/\b=w.alloc (.cells #[.map a] 241):=by
 go_enter func214,ntmps214
 go_wp2
 go_ret;exact⟨rfl,rfl⟩
def aJ(ys:List Ad):List Value:=ys.flatMap aO
def Cd(w:World)(lst:List Ad)(e:Ending)(a:World):Prop:=
 ∃v ys,e=.returned v/\ys.Perm lst/\a.ownsRow w.heap.size 93 2 v ys.length (aJ ys)/\aA aB w a
def Ce(s:Nat)(w3:World)(ys:List Adr)(W:World):Prop:=
 (∃v,W.heap[s]?=some (.cells #[v] 29 (0,0))/\W.ownsRow w3.heap.size 93 2 v ys.length (aJ (ys.map (·.1))))/\aA (fun k=>k=s) w3 W
theorem Ce.own(C:s<w3.heap.size):OwnFrom w3.heap.size (Ce s w3):=by
 rintro u W z row ⟨⟨v,d,f⟩,r⟩ h n;have p:=aA.of_grown h
 have no:∀k cur e,W.heap[k]?=some (.cells cur e (0,0))->¬row=some k:=fun k cur e b a=>by
  obtain⟨_,o,m,c⟩:=n k a;rw[b] at m;cases m
  cases c
 refine⟨⟨v,p.blk d (no _ _ _ d),p.owns f (fun k q=>by obtain⟨cur,b⟩:=aH f q;exact no _ _ _ b)⟩,r.grown h fun k a t=>?_⟩;have:=(n k a).1;omega
theorem OJ{n:Nat}{C b:World}{c:Value}{L:List Value}{a:List Adr}{x:Adr}(M:s<w3.heap.size)(G:B1<w3.heap.size)(z:B1≠s)(I:n=a.length)
 (E:W.heap[s]?=some (.cells #[v] 29 (0,0))) (q:W.ownsRow w3.heap.size 93 2 v n L) (D:aA (fun k=>k=s) w3 W) (t:aA aB W C) (u:aA (fun k=>v.ownBlock=some k) C b)
 (F:b.heap[s]?=some (.cells #[v] 29 (0,0))) (d:b.ownsRow w3.heap.size 93 2 c (n+1) (aJ (a.map (·.1))++aO x.1)) :
 KeepsFrom w3.heap.size W (b.setCell ⟨s,0,none⟩ c)/\tH B1 W (b.setCell ⟨s,0,none⟩ c)/\Ce s w3 (a++[x]) (b.setCell ⟨s,0,none⟩ c):=by
 subst I
 have f:aA (fun k=>k=s\/v.ownBlock=some k) W (b.setCell ⟨s,0,none⟩ c):=
  (t.trans' u (fun _ _ h=>h.elim) (fun i _ h=>.inr h)).setCell (fun _=>.inl rfl) _
 have K:aA (fun k=>k=s) b (b.setCell ⟨s,0,none⟩ c):=aA.setCell (S:=fun k=>k=s) (p:=⟨s,0,none⟩) (aA.refl _ _) (fun _=>rfl) _
 have m:∀k o,W.heap[k]?=some o->(k=s\/v.ownBlock=some k)->o.isCells=true:=by
  rintro k o d (rfl|h)
  ·rw[E] at d;cases d;rfl
  ·obtain⟨cur,m⟩:=aH q h
   rw[m] at d;cases d;rfl
 refine⟨(cW f m).from _,⟨⟨f.size,fun i o r J=>f.blk r fun h=>?_⟩,f.block _ (by have:=D.size;omega) ?_⟩,⟨c,?_,?_⟩,D.trans' f (fun _ _ h=>h) ?_⟩
 ·have:=m i o r h
  rw[Obj.not_cells_of_walk J] at this;cases this
 ·rintro (h|h)
  ·exact z h
  ·have:=aX q h;omega
 ·exact cH F 0 c
 ·rw[List.length_append]
  have e:aJ ((a++[x]).map (·.1))=aJ (a.map (·.1))++aO x.1:=by simp[aJ]
  rw[e];exact K.owns d fun k H e=>by have:=aX d H;omega
 ·rintro i r (h|h)
  ·exact h
  ·have:=aX q h;omega
theorem Ml{lst:List Ad}{ys:List Ad}{D:Nat}{o d:Obj}(q:o.isCells=false)(m:W.heap[D]?=some o)(b:W.ownsRow w3.heap.size 93 2 v ys.length (aJ ys))(r:ys.Perm lst)
 (p:aA aB w W) (t:w.heap.size≤w3.heap.size/\w3.heap.size≤D):Cd w lst (.returned v) (W.putObj D d):=by
 have c:=aA.of_grown (grownBy_putObj' W D d)
 have no:∀k cur e,W.heap[k]?=some (.cells cur e (0,0))->¬some D=some k:=fun k cur e a f=>by
  cases f
  rw[m] at a;cases a
  cases q
 refine⟨v,ys,rfl,r,?_,p.tT c (fun i u e=>by cases e;omega)⟩;exact aQ (c.owns b fun k n=>by obtain⟨cur,a⟩:=aH b n;exact no _ _ _ a) t.1
def JP(s B1 p:Nat)(x:Adr):Act:=
 { tmps:=#[.slice none 0 0,.func (.func 244) #[] #[.pointer B1],.pointer s,undef,.slice none 0 0,.pointer p,.func (.func 244) #[] #[.pointer B1],.agg (aO x.1).toArray,undef,undef,undef,undef,undef],defers:=[] }
def D7(s B1:Nat)(x:Adr)(a:Act)(W:World):Prop:=∃p,a=JP s B1 p x/\W.heap[p]?=some (.cells (aO x.1).toArray 93 (0,0))
theorem D7.own(B:Nat)(x:Adr)(a:Act):OwnFrom B (fun(_:Unit) W=>D7 s B1 x a W):=by
 rintro _ W n row ⟨p,f,d⟩ h m;refine⟨p,f,(aA.of_grown h).blk d fun e=>?_⟩;obtain⟨_,o,c,b⟩:=m p e;rw[d] at c;cases c
 cases b
theorem F4(w:World)(lst:List (Ad×Nix))(B1 b:Nat)(q:w.heap[B1]?=some (.cells #[.map (some b)] 241 (0,0)))(t:bI fC adV fQ w b lst)(qk:lst.length≤65536) :
 Calls prog 263 #[.slice none 0 0,.func (.func 244) #[] #[.pointer B1]] w (Cd w (lst.map (·.1))):=by
 have U:=O q;have H2:=O t;clear q t;refine callsIn_wide.1 (callsIn_of_wp_marks (F:=Fence.wide) (n:=3) func263 rfl trivial (wpIn_wide.2 ?_));simp only[ntmps263,List.size_toArray,List.length_cons,List.length_nil,Nat.reduceAdd,Nat.reduceSub,Array.replicate_succ,Array.replicate_zero,List.push_toArray,List.append_toArray,List.nil_append,List.cons_append];go_wp2_with fail;obtain⟨w3,f⟩:=zX9 (w.alloc (.cells #[.slice none 0 0] 29))
 have G:aA aB w w3:=by rw[←f];exact(aA.refl _ _).alloc _
 have ql:w3.heap.size=w.heap.size+1:=by rw[←f];exact World.size_alloc _ _
 have E:w3.heap[w.heap.size]?=some (.cells #[.slice none 0 0] 29 (0,0)):=by rw[←f];exact heap_alloc_new _ _
 have qd:B1<w3.heap.size:=by have:=lt_of_block U.out;omega
 rw[f];refine wpIn_wide (n:=3).1 ?_
 refine' wpIn_rangeFunc_ownH rfl (by omega) (gf:=244) rfl trivial (enters_of func244 (by kernel_rfl) rfl)
  (Em _ B1 b lst w3 (G.blk U.out id) (H2.keep G id)) ?hKt ?hKb (Below.refl _ _) (fun _=>rfl) (Ce w.heap.size w3) (fun _ _ _=>False) (Ce.own (by omega)) (fun c s A B row hs _ _=>hs) ?h0 (D7 w.heap.size B1) (D7.own _) ?assign ?body ?done ?stop
 case hKt=>exact fun h k=>⟨h.1.trans k.1,k.2.trans h.2⟩
 case hKb=>exact fun W l o o' hl ho hc hw=>⟨KeepsWalks.putObj o' ho hw,World.putObj_heap_other (by omega)⟩
 case h0=>exact⟨⟨.slice none 0 0,E,World.ownsRow_nil _ _ _ _⟩,aA.refl _ _⟩
 case assign =>
  intro l m x W K R hK;have d:(aO x.1).length=2:=rfl;refine bS (by kernel_rfl) (fun ⟨_,_,h⟩=>h) ?_;unfold adV;rw[Ej];simp only[List.setIfInBounds_toArray,List.set_cons_zero,List.set_cons_succ]
  go_wp2_with (first
   | (refine aG rfl 93 rfl eN eI #[.int .i64 0,.int .i64 0] rfl ?_)
   | ((with_reducible show WL none (.store 93 (.tmp 5) (.tmp 7)));refine aE rfl 93 (.tmp 5) (.tmp 7) rfl W.heap.size 0 (aO x.1) rfl rfl #[.int .i64 0,.int .i64 0] _ (heap_alloc_new _ _) (by rw[d];simp) (by rw[d];exact cK) (bV _) ?_;intro W2 N qg))
  rw[aI _ _ (by rw[d];simp)] at N;have a:aA aB W W2:=((aA.refl aB W).alloc _).tT qg (fun i hi e=>by omega);refine hK _ _ ((cW a (fun _ _ _ h=>h.elim)).from _) ⟨⟨a.size,fun i o hi ho=>a.blk hi id⟩,a.block _ ?_ id⟩ ?_ ⟨W.heap.size,rfl,N⟩
  ·have:=R.2.size;omega
  ·exact Ce.own (by omega) m W W2 none R (gQ a) (fun r e=>by cases e)
 case body =>
  rintro l m x a' W hl Q ⟨⟨v,q,t⟩,P⟩ ⟨p,rfl,hp⟩ qh;have d:(aO x.1).length=2:=rfl;obtain⟨av,cv,rfl,-,-⟩:=(Rd.of_owns t).form;have c1:=cell_of_one q;have f1:=bP q 0;have HB:=O q;have u:=O t;have HK:=O P;have HP:=O hp;clear q t P hp Q f E;unfold JP;refine wpIn_block ?_;refine bS (by kernel_rfl) (fun ⟨_,_,h⟩=>h) ?_
  go_wp2_with (first
   | ((with_reducible show WL (some 9) (.load 93 (.tmp 5)));refine wpList_load_mid rfl 93 (.tmp 5) rfl p 0 rfl (aO x.1) _ (aD HP.out) bY rfl (by rw[d];exact cK) ?_)
   | ((with_reducible show WL (some 10) (.buildSlice _ _ _));refine bX rfl 29 93 (.tmp 9) rfl underlying29 tI (by decide) (aO x.1) d (by decide) rfl ?_
      have C:aA aB W (W.alloc (.cells (aO x.1).toArray 93)):=(aA.refl _ _).alloc _;have L:=O (C.owns u.out (fun _ _ h=>h));have qc:=O (eL (n:=1) (size:=2) (heap_alloc_new W (.cells (aO x.1).toArray 93)) (by rw[d]) (by unfold maxLen;omega));have V:=O (C.blk HB.out id);have X:=O C;have qm:=World.size_alloc W (.cells (aO x.1).toArray 93);generalize qe:W.alloc (.cells (aO x.1).toArray 93)=W4 at *;clear qe C)
   | (at_builtin;refine aK rfl (.tmp 8) (.tmp 10) 29 rfl w3.heap.size 93 eN 2 16 underlying29 tI rfl (by decide) (.slice av m.length cv) m.length (aJ (m.map (·.1))) rfl L.out (.slice (some ⟨W.heap.size,0,none⟩) 1 1) 1 (aO x.1) rfl qc.out (bV _) (by unfold maxLen;omega) (by omega) (by have:=HK.size;omega) ?_
      intro v' w5 I H qi qf;obtain⟨g',qj,rfl⟩:=ownsRow_succ I;have z:=H.blk V.out (fun e=>by have:=aX L.out e;omega);have c5:=cell_of_one z;have f5:=bP z 0;have qa:=O I;have Y:=O H;have J:=O z;clear I H qi qf z c1 f1))
  exact OJ (by omega) qd (by have:=lt_of_block U.out;omega) rfl HB.out u.out HK.out X.out Y.out J.out qa.out
 case done =>
  intro D xs W hD hS R M;obtain⟨⟨v,q,t⟩,P⟩:=R;have c1:=cell_of_one q;obtain⟨ar,cr,rfl,-,-⟩:=(Rd.of_owns t).form;have a:aA aB w W:=aA.trans' (S:=aB) (T:=fun k=>k=w.heap.size) (b:=w3) G P (fun _ _ h=>h) (fun i hi e=>by omega);have u:=O t;have HD:=O M;have Z:=O a;have HS:=O hS;clear q t P M a hS f E;go_wp2_with fail;refine⟨by simp,.inl ⟨_,_,rfl,run_takeDeferred HD.out,?_⟩⟩;refine⟨_,results_tmp rfl _ _ _,?_⟩;refine Ml rfl HD.out (ys:=xs.map (·.1)) (by simpa using u.out) HS.out Z.out ⟨by omega,hD⟩
 case stop=>exact fun D c m W _ _ h _=>h.elim
theorem wY{l:List Int}(h:Rd w 1 v l.length (l.map fun x=>.int .i64 x)){x:Int}(b:l[k]?=some x):∃g o cap,v=.slice (some ⟨g,o,none⟩) l.length cap/\w.cell? ⟨g,o+k,none⟩=some (.int .i64 x):=by
 obtain⟨h0,a,cap,rfl,f,m,n,c⟩:=h;have e:=(List.getElem?_eq_some_iff.1 b).1;obtain⟨g,o,rfl,d⟩:=c (by rw[List.length_map];omega);exact⟨g,o,cap,rfl,d k _ (by rw[List.getElem?_map,b];rfl)⟩
def nV(l:List Nat):List Value:=l.map fun(x:Nat)=>Value.int .i64 (x:Int)
def fY(w:World)(base g cap:Nat)(l:List Nat):Prop:=base≤g/\l.length≤cap/\cap≤maxLen/\∃cur:Array Value,w.heap[g]?=some (.cells cur 3 (0,0))/\cur.size=cap/\cur.toList.take l.length=nV l
theorem fY.keep{T:Nat->Prop}{a:World}(h:fY w base g cap l)(k:aA T w a)(m:¬T g):fY a base g cap l:=by
 obtain⟨b,c,d,cur,e,f⟩:=h;exact⟨b,c,d,cur,k.blk e m,f⟩
theorem fY.lt(h:fY w base g cap l):g<w.heap.size:=by
 obtain⟨b,c,d,cur,a,e⟩:=h;exact(Array.getElem?_eq_some_iff.1 a).1
theorem fY.cell(h:fY w base g cap l)(b:l[k]?=some x):w.cell? ⟨g,k,none⟩=some (.int .i64 (x:Int)):=by
 obtain⟨f,m,n,cur,c,p,d⟩:=h;have e:=(List.getElem?_eq_some_iff.1 b).1;refine aC c ?_
 have a:(cur.toList.take l.length)[k]?=some (.int .i64 (x:Int)):=by
  rw[d];unfold nV;rw[List.getElem?_map,b];rfl
 rw[List.getElem?_take,if_pos e] at a
 simpa using a
theorem fY.free(h:fY w base g cap l)(k:Nat):w.frozen? ⟨g,k,none⟩=false:=by
 obtain⟨b,c,d,cur,a,e,f⟩:=h;exact bP a k
theorem fY.set(h:fY w base g cap l)(m:k<l.length)(x:Nat):fY (w.setCell ⟨g,k,none⟩ (.int .i64 (x:Int))) base g cap (l.set k x)/\aA (fun i=>i=g) w (w.setCell ⟨g,k,none⟩ (.int .i64 (x:Int))):=by
 obtain⟨a,b,c,cur,d,e,f⟩:=h;refine⟨⟨a,by rw[List.length_set];exact b,c,_,cH d k _,by rw[Array.size_setIfInBounds];exact e,?_⟩,(aA.refl (fun i=>i=g) w).setCell (p:=⟨g,k,none⟩) (fun _=>rfl) _⟩;rw[List.length_set,Array.toList_setIfInBounds,List.take_set,f];unfold nV;rw[List.map_set]
theorem fY.rd(h:fY w base g cap l):Rd w 1 (.slice g l.length cap) l.length (nV l):=by
 obtain⟨n,b,c,cur,d,p,f⟩:=h;refine⟨by simp[nV],some ⟨g,0,none⟩,cap,rfl,b,c,(by intro e;cases e),fun _=>⟨g,0,rfl,fun i u a=>?_⟩⟩;refine aC d ?_;have m:i<l.length:=by have:=(List.getElem?_eq_some_iff.1 a).1;simpa [nV] using this
 rw[←f,List.getElem?_take,if_pos m] at a
 simpa using a
theorem J5:((A++y::x::B).set (A.length+1) y).set A.length x=A++x::y::B:=by
 rw[List.set_append_right _ _ (by omega),List.set_append_right _ _ (by omega)];simp
theorem J6(h:oL fr (A++B))(p:∀y∈A.getLast?,dI fr y x=true)(q:∀y∈B,dI fr x y=true):oL fr (A++x::B):=by
 unfold oL at *;rw[List.pairwise_append] at h ⊢;obtain⟨d,m,n⟩:=h;refine⟨d,List.pairwise_cons.2 ⟨q,m⟩,fun a c b e=>?_⟩;rcases List.mem_cons.1 e with rfl|e
 ·rcases List.eq_nil_or_concat A with rfl|⟨r,z,rfl⟩
  ·cases c
  ·have f:dI fr z b=true:=p z (by simp)
   rw[List.concat_eq_append] at d c;rcases List.mem_append.1 c with h|h
   ·exact F1 ((List.pairwise_append.1 d).2.2 a h z (List.mem_singleton.2 rfl)) f
   ·rw[List.mem_singleton.1 h]
    exact f
 ·exact n a c b e
theorem OP(x y:Int):decide (iR x y<0)=decide (x<y):=by
 unfold iR
 by_cases h:x<y
 ·simp[h]
 ·by_cases a:y<x<;>simp[h,a]
structure AB(fr:List Int)(o ys:List Nat)(i j x:Nat)(A B:List Nat):Prop where
 ys:ys=A++x::(B++o.drop (i+1))
 len:A.length=j
 at_:o[i]?=some x
 ranks:oL fr (A++B)
 perm:(A++B).Perm (o.take i)
 below:∀y∈B,dI fr x y=true
theorem AB.down(h:AB fr o ys i (j+1) x (A++[y]) B)(c:dI fr x y=true):AB fr o (A++x::y::(B++o.drop (i+1))) i j x A (y::B):=by
 have b:=h.len;rw[List.length_append,List.length_singleton] at b;refine⟨rfl,by omega,h.at_,by have:=h.ranks;rwa [List.append_assoc] at this,by have:=h.perm;rwa [List.append_assoc] at this,fun z a=>?_⟩;rcases List.mem_cons.1 a with rfl|a
 ·exact c
 ·exact h.below z a
theorem AB.stop(h:AB fr o ys i j x A B)(a:∀y∈A.getLast?,dI fr y x=true):ys=(A++x::B)++o.drop (i+1)/\oL fr (A++x::B)/\(A++x::B).Perm (o.take (i+1)):=by
 refine⟨by rw[h.ys];simp,J6 h.ranks a h.below,?_⟩;rw[List.take_add_one,h.at_];exact List.perm_middle.trans ((List.perm_append_comm (l₁:=[x]) (l₂:=A++B)).trans (h.perm.append_right [x]))
theorem Mx(w:World)(bx i j:Nat)(fr:List Int)(v:Value)(H:Rd w 1 v fr.length (fr.map fun x=>.int .i64 x))(G:w.heap[bx]?=some (.cells #[v] 54 (0,0)))(hi:i<fr.length)(hj:j<fr.length) :
 Calls prog 206 #[.int .i64 (i:Int),.int .i64 (j:Int),.pointer bx] w fun e a=>e=.returned (.int .i64 (iR (fr.getD j 0) (fr.getD i 0)))/\aA aB w a:=by
 obtain⟨oa,I,rfl,-,-⟩:=H.form;obtain⟨n,V⟩:=zX9 fr.length
 obtain⟨x,L⟩:∃x,fr[i]?=some x:=⟨fr[i]'hi,List.getElem?_eq_getElem _⟩
 obtain⟨y,M⟩:∃x,fr[j]?=some x:=⟨fr[j]'hj,List.getElem?_eq_getElem _⟩
 have Q:fr.getD i 0=x:=by rw[List.getD_eq_getElem?_getD,L];rfl
 have R:fr.getD j 0=y:=by rw[List.getD_eq_getElem?_getD,M];rfl
 rw[Q,R];obtain⟨p,o,cap,X,J⟩:=wY H L;have Z:oa=some ⟨p,o,none⟩:=by cases X;rfl
 subst Z;obtain⟨p',o',P,D,K⟩:=wY H M;have e2:(⟨p,o,none⟩:Addr)=⟨p',o',none⟩:=by cases D;rfl
 cases e2
 rw[V] at hi hj G;have T:w.cell? ⟨bx,0,none⟩=some (.slice (some ⟨p,o,none⟩) n I):=aC G rfl;have N:=O (fun a=>GM y x a);obtain⟨r,C⟩:=zX9 (iR y x)
 rw[C] at N ⊢;have qc:(i:Int)<(n:Int):=by omega
 have qe:(j:Int)<(n:Int):=by omega
 have qa:(0:Int)≤(i:Int):=by omega
 have qd:(0:Int)≤(j:Int):=by omega
 have HB:=O G;clear H V L M Q R X D C G;go_in;go_wp2_with fail;obtain⟨S,m⟩:∃S:World->Prop,S=fun a=>aA aB w a:=⟨_,rfl⟩
 have b:=O (show ∀a,S a->aA aB w a from fun a h=>by rw[m] at h;exact h);have u:=O (show ∀a,aA aB w a->S a from fun a h=>by rw[m];exact h);have f:S w.drew:=by rw[m];exact(aA.refl _ _).drew
 clear m;refine wp_region_held (S:=S) (by kernel_rfl) ?_;change wpAnyH _ _ _ _ _ _ _ _ w.drew;generalize w.drew=E at f ⊢;refine tkd 0 (.slice (some ⟨p,o,none⟩) n I) rfl (.inl ⟨by rfl,fun a d=>by have c:=(b a d).cell T id;go_simp⟩) f ?_;simp only[Act.put,List.setIfInBounds_toArray,List.set_cons_zero,List.set_cons_succ,List.getElem_toArray,List.getElem_cons_zero];refine tna 1 (.int .i64 (j:Int)) rfl f ?_;refine tnb 2 (.pointer (some ⟨p,o+j,none⟩)) rfl f ?_;refine tnd 3 (.int .i64 y) rfl (.inl ⟨by rfl,fun a d=>by have c:=(b a d).cell K id;go_simp⟩) f ?_;refine tnd 4 (.slice (some ⟨p,o,none⟩) n I) rfl (.inl ⟨by rfl,fun a d=>by have c:=(b a d).cell T id;go_simp⟩) f ?_;refine tna 5 (.int .i64 (i:Int)) rfl f ?_;refine tnb 6 (.pointer (some ⟨p,o+i,none⟩)) rfl f ?_;refine tnd 7 (.int .i64 x) rfl (.inl ⟨by rfl,fun a d=>by have c:=(b a d).cell J id;go_simp⟩) f ?_;refine wA9 8 ?_;go_wp2_with fail;refine(N _).mono ?_;rintro e F ⟨rfl,z⟩;have U:aA aB E F:=z▸aA.refl _ _;clear z;have q:=u.out _ ((b _ f).trans U);clear f U;go_wp2_with fail;refine⟨q,?_⟩;refine tna 9 (.int .i64 r) rfl q ?_;refine wpAnyH_done (by kernel_rfl) ?_ _;have t:=O (b _ q);clear q b u;have Y:=O t.out;clear t;go_wp2;go_ret;exact⟨rfl,Y.out⟩
def nU(w:World)(base g cap:Nat)(fr:List Int)(o:List Nat)(e:Ending)(a:World):Prop:=e=.returned (.tuple #[])/\∃P,fY a base g cap P/\oL fr P/\P.Perm o/\aA (fun j=>j=g) w a
theorem Hz(w:World)(bx base g cap:Nat)(fr:List Int)(o:List Nat)(v:Value)(hr:Rd w 1 v fr.length (fr.map fun x=>.int .i64 x))(hB:w.heap[bx]?=some (.cells #[v] 54 (0,0)))(qt:v.ownBlock≠some g)
 (K:fY w base g cap o) (h8:o.length≤8) (Z:o.Pairwise (·<·)) (qx:∀i∈o,i<fr.length) :
 Calls prog 261 #[.slice g o.length cap,.int .i64 0,.int .i64 (o.length:Int),(.func (.func 206) #[] #[.pointer bx])] w (nU w base g cap fr o):=by
 have HR:=O hr;have HB:=O hB;have ql:=O Z;have qm:=O qx;have zb:=O K;have q7:=O qt;obtain⟨n,hn⟩:=zX9 o.length
 have HN:=O hn;rw[hn] at h8 ⊢
 have zj:g≠bx:=by
  intro e;subst e;obtain⟨-,-,-,cur,h4,-⟩:=K;rw[hB] at h4;cases h4
 clear hr hB Z qx K hn qt;go_in;go_wp2_with fail
 go_loopw [8,9] (fun i _ wr=>∃(k:Nat) (P:List Nat),1≤k/\(k≤n\/k=1)/\i=.int .i64 k/\Hid (fY wr base g cap (P++o.drop k))/\Hid (oL fr P)/\Hid (P.Perm (o.take k))/\Hid (aA (fun j=>j=g) w wr)) (fun i _ _=>n-(intOf i).toNat)
 case atStart=>exact⟨1,o.take 1,Nat.le_refl _,.inr rfl,rfl,O (by rw[List.take_append_drop];exact zb.out),O (by unfold oL;rcases o with _|⟨x,o⟩<;>simp),O (List.Perm.refl _),O (aA.refl _ _)⟩
 case round =>
 obtain⟨k,P,zt,zv,rfl,a,qn,qc,D⟩:=hrel
 by_cases qh:k<n
 ·have zu:(k:Int)<(n:Int):=by omega
  have zr:(0:Int)≤(k:Int):=by omega
  obtain⟨x,hx⟩:∃x,o[k]?=some x:=⟨o[k]'(by rw[HN.out];exact qh),List.getElem?_eq_getElem _⟩
  have qq:P.length=k:=by rw[qc.length_eq,List.length_take,HN.out];omega
  have I:o.drop k=x::o.drop (k+1):=by
   rw[List.drop_eq_getElem_cons (by rw[HN.out];exact qh)]
   congr 1
   rw[List.getElem?_eq_getElem (by rw[HN.out];exact qh)] at hx;exact Option.some.inj hx
  have HX:=O hx;have qo:Hid (AB fr o (P++o.drop k) k k x P []):=O ⟨by rw[I];rfl,qq,hx,by rw[List.append_nil];exact qn.out,by rw[List.append_nil];exact qc.out,fun y hy=>by cases hy⟩;obtain⟨wo,qz⟩:=zX9 wr
  rw[qz] at a D ⊢;clear qz hx qq I;go_wp2_with fail
  go_loopw [9] (fun i wr=>∃(j:Nat) (ys A B:List Nat),j≤k/\i=.int .i64 j/\Hid (fY wr base g cap ys)/\Hid (AB fr o ys k j x A B)/\Hid (aA (fun j=>j=g) w wr)) (fun i _=>(intOf i).toNat)
  case atStart=>exact⟨k,_,P,[],Nat.le_refl _,rfl,a,qo,D⟩
  case round =>
  clear a D qo;obtain⟨j,ys,A,B,hj,rfl,a,N,D⟩:=hrel;rcases Nat.eq_zero_or_pos j with qu|qu
  ·subst qu
   have hA:A=[]:=List.length_eq_zero_iff.1 N.len;have f:∀y∈A.getLast?,dI fr y x=true:=by subst hA;intro y hy;cases hy
   clear hA;go_wp2_with fail;obtain⟨S,C⟩:∃S:World->Prop,S=fun p=>aA aB wr p:=⟨_,rfl⟩
   have u:=O (show ∀p,S p->aA aB wr p from fun p h=>by rw[C] at h;exact h);have Q:=O (show ∀p,aA aB wr p->S p from fun p h=>by rw[C];exact h);have d:S wr.drew:=by rw[C];exact(aA.refl _ _).drew
   clear C;refine wp_region_held (S:=S) (by kernel_rfl) ?_;change wpAnyH _ _ _ _ _ _ _ _ wr.drew;generalize wr.drew=q5 at d ⊢;refine tka 0 (.int .i64 0) rfl d ?_;simp only[Act.put,List.setIfInBounds_toArray,List.set_cons_zero,List.set_cons_succ,List.getElem_toArray,List.getElem_cons_zero];refine tna 1 (.int .i64 0) rfl d ?_;refine tnb 2 (.bool false) rfl d ?_;refine tna 3 (.bool false) rfl d ?_;refine tnc 4 undef rfl d ?_;refine tnc 5 undef rfl d ?_;refine tnc 6 undef rfl d ?_;refine tnc 7 undef rfl d ?_;refine tnc 8 undef rfl d ?_;refine tnc 9 undef rfl d ?_;refine tnc 10 undef rfl d ?_;refine tnc 11 undef rfl d ?_;refine tnc 12 undef rfl d ?_;refine tnc 13 undef rfl d ?_;refine tnc 14 undef rfl d ?_;refine tnc 15 undef rfl d ?_;refine tna 16 (.bool false) rfl d ?_;refine wpAnyH_done (by kernel_rfl) ?_ _;have t:=O (u _ d);clear d u Q;have a:=O (a.keep t.out id);have D:=O (D.trans' t.out (U:=fun j=>j=g) (fun _ _ h=>h) (fun _ _ h=>h.elim));clear t;have HF:=O (N.stop f);have qd:Hid (fY _ base g cap ((A++x::B)++o.drop (k+1))):=O (by rw[←HF.1];exact a.out);clear f;go_wp2
   go_roundw
   case rel=>exact⟨k+1,A++x::B,by omega,.inl (by omega),by go_num,qd,O HF.2.1,O HF.2.2,D⟩
   case measure=>simp[intOf];omega
  ·obtain⟨j,rfl⟩:∃m,j=m+1:=⟨j-1,by omega⟩
   obtain⟨A,y,rfl⟩:∃A' y,A=A'++[y]:=by
    rcases List.eq_nil_or_concat A with rfl|⟨A',z,rfl⟩
    ·have:=N.len;simp at this
    ·exact⟨A',z,by rw[List.concat_eq_append]⟩
   have R:A.length=j:=by have:=N.len;rw[List.length_append,List.length_singleton] at this;omega
   have V:ys=A++y::x::(B++o.drop (k+1)):=by rw[N.ys];simp
   have F:=a.cell (k:=j) (x:=y) (by rw[V,List.getElem?_append_right (by omega),R];simp);have E:=a.cell (k:=j+1) (x:=x) (by rw[V,List.getElem?_append_right (by omega),R];simp);have q1:y∈o:=List.mem_of_mem_take (N.perm.mem_iff.1 (by simp));have q0:x∈o:=List.mem_of_getElem? HX.out
   have q3:y<x:=by
    have hm:y∈o.take k:=N.perm.mem_iff.1 (by simp);obtain⟨q,hq⟩:=List.getElem?_of_mem hm;have zm:=(List.getElem?_eq_some_iff.1 hq).1;rw[List.length_take] at zm;rw[List.getElem?_take,if_pos (by omega)] at hq;have hx:=HX.out;obtain⟨h1,rfl⟩:=List.getElem?_eq_some_iff.1 hq;obtain⟨h2,rfl⟩:=List.getElem?_eq_some_iff.1 hx;exact List.pairwise_iff_getElem.1 ql.out q k h1 h2 (by omega)
   have zf:=O (qm y q1);have ze:=O (qm x q0);have HC:=O (fun wx (kk:aA (fun j=>j=g) w wx)=>Mx wx bx x y fr v (HR.keep kk fun b hb e=>q7.out (by rw[hb,e])) (kk.blk HB.out (fun e=>zj e.symm)) ze.out zf.out);obtain⟨r,hr⟩:=zX9 (iR (fr.getD y 0) (fr.getD x 0))
   obtain⟨bb,qf⟩:=zX9 (decide (r<0))
   have qk:Hid (dI fr x y=bb):=O (by
    rw[←qf,←hr,OP];unfold dI;rw[Bool.eq_iff_iff];simp only[Bool.or_eq_true,Bool.and_eq_true,decide_eq_true_eq];omega)
   rw[hr] at HC;have za:=O qf;have qe:=O V;have L:=O R;have zg:=O q3;clear q1 q0 q3 hr qf V R;have zl:(0:Int)<((j+1:Nat):Int):=by omega
   have qv:((j+1:Nat):Int)<(n:Int):=by omega
   have zk:((j+1:Nat):Int)-1=(j:Int):=by omega
   obtain⟨G,qg⟩:=zX9 (j+1)
   rw[qg] at zl qv zk E ⊢;have M:=O qg;have zo:(j:Int)<(n:Int):=by omega
   have zq:0<G:=by omega
   have zp:(0:Int)≤(j:Int):=by omega
   have zw:IntKind.i64.wrap (j:Int)=(j:Int):=by rw[IntWalk.i64_in _ (by omega)]
   clear qg;go_wp2_with fail;obtain⟨S,C⟩:∃S:World->Prop,S=fun p=>aA aB wr p:=⟨_,rfl⟩
   have u:=O (show ∀p,S p->aA aB wr p from fun p h=>by rw[C] at h;exact h);have Q:=O (show ∀p,aA aB wr p->S p from fun p h=>by rw[C];exact h);have d:S wr.drew:=by rw[C];exact(aA.refl _ _).drew
   clear C;refine wp_region_held (S:=S) (by kernel_rfl) ?_;change wpAnyH _ _ _ _ _ _ _ _ wr.drew;generalize wr.drew=q5 at d ⊢;refine tka 0 (.int .i64 (G:Int)) rfl d ?_;simp only[Act.put,List.setIfInBounds_toArray,List.set_cons_zero,List.set_cons_succ,List.getElem_toArray,List.getElem_cons_zero];refine tna 1 (.int .i64 0) rfl d ?_;refine tnb 2 (.bool true) rfl d ?_;refine tna 3 (.bool true) rfl d ?_;refine tna 4 (.func (.func 206) #[] #[.pointer bx]) rfl d ?_;refine tna 5 (.slice g n cap) rfl d ?_;refine tna 6 (.int .i64 (G:Int)) rfl d ?_;refine tnb 7 (.pointer (some ⟨g,G,none⟩)) rfl d ?_;refine tnd 8 (.int .i64 (x:Int)) rfl (.inl ⟨by rfl,fun p qi=>by have c:=(u p qi).cell E id;go_simp⟩) d ?_;refine tna 9 (.slice g n cap) rfl d ?_;refine tna 10 (.int .i64 (G:Int)) rfl d ?_;refine tnb 11 (.int .i64 (j:Int)) rfl d ?_;refine tnb 12 (.pointer (some ⟨g,j,none⟩)) rfl d ?_;refine tnd 13 (.int .i64 (y:Int)) rfl (.inl ⟨by rfl,fun p qi=>by have c:=(u p qi).cell F id;go_simp⟩) d ?_;refine wA9 14 ?_;go_wp2_with fail;refine(HC _ (D.trans' (u _ d) (U:=fun j=>j=g) (fun _ _ h=>h) (fun _ _ h=>h.elim))).mono ?_;rintro e qa ⟨rfl,hk⟩;have H:=Q.out _ ((u _ d).trans hk);clear d hk;go_wp2_with fail;refine⟨H,?_⟩;refine tnd 15 (.bool bb) rfl (.inl ⟨by rfl,fun _ _=>by have e:=za.out;go_simp⟩) H ?_;refine tna 16 (.bool bb) rfl H ?_;refine wpAnyH_done (by kernel_rfl) ?_ _;have t:=O (u _ H);clear H u Q;have a:=O (a.keep t.out id);have D:=O (D.trans' t.out (U:=fun j=>j=g) (fun _ _ h=>h) (fun _ _ h=>h.elim));have F:=t.cell F id;have E:=t.cell E id;clear t HC;cases bb
   ·have f:∀z∈(A++[y]).getLast?,dI fr z x=true:=by
     intro z hz;have e:z=y:=by simpa using hz.symm
     subst e;exact CK (by have:=zg.out;omega) qk.out
    clear F E;have HF:=O (N.stop f);have qd:Hid (fY _ base g cap (((A++[y])++x::B)++o.drop (k+1))):=O (by rw[←HF.1];exact a.out);clear f;go_wp2
    go_roundw
    case rel=>exact⟨k+1,(A++[y])++x::B,by omega,.inl (by omega),by go_num,qd,O HF.2.1,O HF.2.2,D⟩
    case measure=>simp[intOf];omega
   ·have zd:=O (N.down qk.out)
    have X:=(a.set (k:=G) (by rw[qe.out,←M.out];simp[L.out]) y)
    have qj:=(X.1.set (k:=j) (by rw[List.length_set,qe.out];simp[L.out]) x)
    have q4:fY ((qa.setCell ⟨g,G,none⟩ (.int .i64 (y:Int))).setCell ⟨g,j,none⟩ (.int .i64 (x:Int))) base g cap (A++x::y::(B++o.drop (k+1))):=by
     have h:=qj.1;rw[qe.out,←M.out,←L.out,J5] at h;rw[←M.out,←L.out];exact h
    have qw:=D.trans (X.2.trans qj.2);have HZ:=O (And.intro q4 qw);have zh:=a.free G;have zi:=X.1.free j;have qr:(qa.setCell ⟨g,G,none⟩ (.int .i64 (y:Int))).cell? ⟨g,j,none⟩=some (.int .i64 (y:Int)):=JI (by intro e;have:=M.out;have e2:G=j:=congrArg Addr.off e;omega) F;clear X qj q4 qw;have zn:((G:Nat):Int)<(n:Int):=qv;go_wp2_with fail
    go_region
    have qp:=O (And.intro (HZ.1.keep (T:=aB) (aA.refl aB _).drew id) (HZ.2.drew));clear HZ zh zi qr F E;go_wp2
    go_roundw
    case rel=>exact⟨j,_,A,y::B,by omega,by go_num,qp.1,zd,qp.2⟩
    case measure=>simp[intOf];omega
 ·have Y:o.drop k=[]:=List.drop_eq_nil_iff.2 (by rw[HN.out];omega)
  have qy:o.take k=o:=List.take_of_length_le (by rw[HN.out];omega);have J:nU w base g cap fr o (.returned (.tuple #[])) wr:=⟨rfl,P,by have h:=a.out;rwa [Y,List.append_nil] at h,qn.out,by have h:=qc.out;rwa [qy] at h,D.out⟩
  have q9:=O J;clear J Y qy;go_wp2_with fail
  go_end0
  exact q9.out
theorem fY.of_owns{m b:Nat}{pa:Option Addr}(h:w.ownsRow base 3 1 (.slice pa m b) m (nV l))(r:0<m)(n:l.length=m):∃g,pa=some ⟨g,0,none⟩/\fY w base g b l:=by
 rcases h.2 with⟨a,-⟩|⟨g,cap,cur,a,c,d,p,e,q,f⟩
 ·cases a;omega
 ·cases a
  exact⟨g,rfl,c,by omega,e,cur,d,by omega,by rw[n,←f,Nat.mul_one]⟩
def AC(w a:World)(v:Value)(l:List Nat):Prop:=Rd a 1 v l.length (nV l)/\∀k,v.ownBlock=some k->w.heap.size≤k
def uQ(w:World)(o:Option (List Nat))(e:Ending)(a:World):Prop:=
 match o with
 | none=>e=.returned (.tuple #[.slice none 0 0,.bool false])/\aA aB w a
 | some l=>∃v,e=.returned (.tuple #[v,.bool true])/\AC w a v l/\aA aB w a
theorem My(a:List Bool){b:Bool}(h:a[k]?=some b):(a.take (k+1)).countP id=(a.take k).countP id+if b then 1 else 0:=by
 rw[List.take_add_one,h,List.countP_append];cases b<;>rfl
def wZ(fr:List Int):Bool:=fr.all fun x=>decide (0≤x) && decide (x≤4096)
def iT(fr:List Int)(a:List Bool)(cp:Int):Bool:=decide (2≤fr.length) && decide (fr.length≤8) && decide (a.length=fr.length) && decide (1≤cp) && decide (cp≤3) && wZ fr
theorem zW{a:List Bool}{cp:Int}(h:iT fr a cp=true):2≤fr.length/\fr.length≤8/\a.length=fr.length/\1≤cp/\cp≤3/\∀x∈fr,0≤x/\x≤4096:=by
 unfold iT wZ at h;simp only[Bool.and_eq_true,decide_eq_true_eq,List.all_eq_true] at h;exact⟨h.1.1.1.1.1,h.1.1.1.1.2,h.1.1.1.2,h.1.1.2,h.1.2,h.2⟩
theorem OQ{l:List Bool}(h:Rd w 1 v l.length (l.map Value.bool)){x:Bool}(b:l[k]?=some x):∃g o cap,v=.slice (some ⟨g,o,none⟩) l.length cap/\w.cell? ⟨g,o+k,none⟩=some (.bool x):=by
 obtain⟨h0,a,cap,rfl,f,m,n,c⟩:=h;have e:=(List.getElem?_eq_some_iff.1 b).1;obtain⟨g,o,rfl,d⟩:=c (by rw[List.length_map];omega);exact⟨g,o,cap,rfl,d k _ (by rw[List.getElem?_map,b];rfl)⟩
theorem Ia(w:World)(bx base g cap:Nat)(fr:List Int)(o:List Nat)(v:Value)(C:Rd w 1 v fr.length (fr.map fun x=>.int .i64 x))(u:w.heap[bx]?=some (.cells #[v] 54 (0,0)))(d:v.ownBlock≠some g)
 (b:fY w base g cap o) (t:o.length≤8) (a:o.Pairwise (·<·)) (f:∀i∈o,i<fr.length) :
 Calls prog 240 #[.slice g o.length cap,.int .i64 (o.length:Int),(.func (.func 206) #[] #[.pointer bx])] w (nU w base g cap fr o):=by
 have c:=Hz w bx base g cap fr o v C u d b t a f;obtain⟨n,z⟩:=zX9 o.length
 rw[z] at c t ⊢;have c:=O c;clear C u d b a f z;have F:¬(20:Int)≤(n:Int):=by omega
 have p:¬(20:Int)<(n:Int):=by omega
 go_in;go_wp2_with fail
 go_loopw [7,8] (fun x y wr=>x=.int .i64 0/\y=.int .i64 20/\wr=w) (fun _ _ _=>0)
 case atStart=>exact⟨rfl,rfl,rfl⟩
 case round =>
 obtain⟨rfl,rfl,rfl⟩:=hrel;go_wp2_with fail;refine c.mono ?_;rintro e D ⟨rfl,P,h,m,q,r⟩;have E:Hid (nU _ base g cap fr o (.returned (.tuple #[])) D):=O ⟨rfl,P,h,m,q,r⟩;clear h m q r c;go_wp2_with fail
 go_loopw [6] (fun x wr=>x=.int .i64 20/\wr=D) (fun _ _=>0)
 case atStart=>exact⟨rfl,rfl⟩
 case round =>
 obtain⟨rfl,rfl⟩:=hrel;go_wp2_with fail
 go_end0
 exact E.out
theorem Cj(w:World)(bx base g cap:Nat)(fr:List Int)(o:List Nat)(v:Value)(z:Rd w 1 v fr.length (fr.map fun x=>.int .i64 x))(t:w.heap[bx]?=some (.cells #[v] 54 (0,0)))(d:v.ownBlock≠some g)
 (b:fY w base g cap o) (r:o.length≤8) (a:o.Pairwise (·<·)) (f:∀i∈o,i<fr.length) :
 Calls prog 205 #[.slice g o.length cap,(.func (.func 206) #[] #[.pointer bx])] w (nU w base g cap fr o):=by
 have c:=Ia w bx base g cap fr o v z t d b r a f;obtain⟨n,u⟩:=zX9 o.length
 rw[u] at c ⊢;have c:=O c;clear z t d b a f u r;go_in;go_wp2_with fail;refine c.mono ?_;rintro e D ⟨rfl,P,h,m,p,q⟩;have C:Hid (nU w base g cap fr o (.returned (.tuple #[])) D):=O ⟨rfl,P,h,m,p,q⟩;clear h m p q c;go_wp2_with fail
 go_end0
 exact C.out
theorem Bf(w:World)(v vt:Value)(fr:List Int)(a:List Bool)(cp:Nat)(K:Rd w 1 v fr.length (fr.map fun x=>.int .i64 x))(ht:Rd w 1 vt a.length (a.map Value.bool))(h8:fr.length≤8)(hl:a.length=fr.length)(zr:1≤cp)(zi:cp≤3) :
 Calls prog 144 #[v,vt,.int .i64 (cp:Int)] w (uQ w (bL fr a cp)):=by
 obtain⟨oa,ca,rfl,-,-⟩:=K.form;obtain⟨ta,tc,rfl,-,-⟩:=ht.form;obtain⟨n,hn⟩:=zX9 fr.length
 rw[hn] at K h8 hl ⊢;rw[hl] at ht ⊢;have M:=O hn;have I:=O hl;obtain⟨w1,zg,E,qj,qu⟩:=aM w #[Value.slice oa n ca] 54;have zz:=E.size;have qz:=O E;have Q:=O qj;have HR:=O (K.keep E fun _ _=>id);have HT:=O (ht.keep E fun _ _=>id);have zp:=O qu;have q5:=O K;clear E qj qu K ht hn hl;go_in;go_wp2_with fail;clear zg;have ql:=aC Q.out (i:=0) rfl
 go_step3
 go_wp2_with fail
 go_step3
 go_wp2_with fail
 go_loopw [8,9,14] (fun t u i wr=>∃(k m q:Nat) (pa:Option Addr) (L:Nat),k≤n/\m≤k/\q≤k/\t=.slice pa m L/\u=.int .i64 q/\i=.int .i64 k/\Hid ((cZ fr a k).length=m)/\Hid ((a.take k).countP id=q)/\Hid (wr.ownsRow w1.heap.size 3 1 (.slice pa m L) m (nV (cZ fr a k)))/\Hid (aA aB w1 wr)) (fun _ _ i _=>n-(intOf i).toNat)
 case atStart=>exact⟨0,0,0,none,0,Nat.zero_le _,Nat.le_refl _,Nat.le_refl _,rfl,rfl,rfl,O rfl,O rfl,O (World.ownsRow_nil _ _ _ _),O (aA.refl _ _)⟩
 case round =>
 obtain⟨k,m,q,pa,L,hk,zx,zy,rfl,rfl,rfl,z,HQ,HO,G⟩:=hrel;clear ql;have ql:=G.cell (aC Q.out (i:=0) rfl) id
 by_cases qo:k<n
 ·have zw:(k:Int)<(n:Int):=by omega
  have zv:(0:Int)≤(k:Int):=by omega
  obtain⟨x,hx⟩:∃x,fr[k]?=some x:=⟨fr[k]'(by rw[M.out];exact qo),List.getElem?_eq_getElem _⟩
  obtain⟨y,hy⟩:∃x,a[k]?=some x:=⟨a[k]'(by rw[I.out];exact qo),List.getElem?_eq_getElem _⟩
  have K:=HR.keep G.out fun _ _=>id
  rw[←M.out] at K;obtain⟨p,o,cap,hv,zt⟩:=wY K hx;rw[M.out] at hv;have e1:oa=some ⟨p,o,none⟩:=by cases hv;rfl
  subst e1;have V:=HT.keep G.out fun _ _=>id
  rw[←I.out] at V;obtain⟨p2,o2,zh,X,zu⟩:=OQ V hy;rw[I.out] at X;have e1:ta=some ⟨p2,o2,none⟩:=by cases X;rfl
  subst e1;have D:=O (oK fr a k);have R:=O (My a hy);have C:Hid (dU fr a k=(y && decide (0<x))):=O (by unfold dU;rw[List.getD_eq_getElem?_getD,List.getD_eq_getElem?_getD,hx,hy];rfl);clear K V hv X hx hy;cases y
  ·go_wp2
   go_roundw
   case rel=>exact⟨k+1,m,q,pa,L,by omega,by omega,by omega,rfl,rfl,by go_num,O (by rw[D.out,C.out];simpa using z.out),O (by rw[R.out,HQ.out];rfl),O (by rw[D.out,C.out];simpa using HO.out),G⟩
   case measure=>simp[intOf];omega
  ·by_cases Z:0<x
   ·obtain⟨w8,qx,S,qk,zf⟩:=aM wr #[.int .i64 (k:Int)] 3
    have q7:Hid (Rd w8 1 (.slice (wr.heap.size) 1 1) 1 [.int .i64 (k:Int)]):=O (eL (n:=1) (size:=1) (vs:=[.int .i64 (k:Int)]) qk rfl (by unfold maxLen;omega));have qf:=O (S.owns HO.out fun _ _=>id);have qd:=O (G.trans S);have qv:w1.heap.size≤w8.heap.size:=qd.size;have qg:Hid (cZ fr a (k+1)=cZ fr a k++[k]):=O (by rw[D.out,C.out,decide_eq_true Z];rfl);have qq:∀u∈[Value.int .i64 (k:Int)],u.oneCell'=true:=by simp[Value.oneCell']
    clear S qk zf
    go_wp2_with (first
     | (at_builtin;try rw[qx]
        refine aK rfl (.tmp 29) (.tmp 31) 54 rfl w1.heap.size 3 (.int .i64 0) 1 8 underlying54 Ci rfl (by decide) (.slice pa m L) m (nV (cZ fr a k)) rfl qf.out (.slice (wr.heap.size) 1 1) 1 [.int .i64 (k:Int)] rfl q7.out qq (by unfold maxLen;omega) (by omega) qv ?_;intro v' w5 T qn ze q9;obtain⟨va,vc,rfl,-,-⟩:=(Rd.of_owns T).form;have q4:Hid (w5.ownsRow w1.heap.size 3 1 (.slice va (m+1) vc) (m+1) (nV (cZ fr a (k+1)))):=O (by rw[qg.out];unfold nV;rw[List.map_append];exact T);have q0:=O (qd.trans' qn (U:=aB) (fun _ _ h=>h) (fun i hi e=>by have:=aX qf.out e;omega));clear T qn ze q9 qx))
    go_roundw
    case rel=>exact⟨k+1,m+1,q+1,va,vc,by omega,by omega,by omega,rfl,by go_num,by go_num,O (by rw[qg.out,List.length_append,z.out];rfl),O (by rw[R.out,HQ.out];rfl),q4,q0⟩
    case measure=>simp[intOf];omega
   ·go_wp2
    go_roundw
    case rel=>exact⟨k+1,m,q+1,pa,L,by omega,by omega,by omega,rfl,by go_num,by go_num,O (by rw[D.out,C.out,decide_eq_false Z];simpa using z.out),O (by rw[R.out,HQ.out];rfl),O (by rw[D.out,C.out,decide_eq_false Z];simpa using HO.out),G⟩
    case measure=>simp[intOf];omega
 ·obtain rfl:n=k:=by omega
  have qw:upN a=q:=by
   have h:=HQ.out;rw[List.take_of_length_le (by rw[I.out];exact Nat.le_refl _)] at h;exact h
  obtain⟨c,qy⟩:=zX9 (min cp q)
  have Y:kU a cp=c:=by unfold kU;rw[qw];exact qy
  have zj:min (cp:Int) (q:Int)=(c:Int):=by omega
  have zb:(if (q:Int)<(cp:Int) then (q:Int) else (cp:Int))=(c:Int):=by split<;>omega
  have qh:bL fr a cp=if m=0\/m<c then none else some ((kC fr a).take c):=by
   unfold bL;rw[M.out,Y,z.out]
   by_cases h0:cZ fr a n=[]
   ·have f:m=0:=by rw[←z.out,h0];rfl
    rw[if_pos (.inl h0),if_pos (.inl f)]
   ·have f:¬m=0:=fun e=>h0 (List.length_eq_zero_iff.1 (by rw[z.out,e]))
    by_cases F:m<c
    ·rw[if_pos (.inr F),if_pos (.inr F)]
    ·rw[if_neg (fun h=>h.elim h0 F),if_neg (fun h=>h.elim f F)]
  have qa:=O qh;have zq:=O Y;have zn:c≤n:=by omega
  clear qh Y qw qy;have qi:=qz.trans G.out;have qe:=O qi;clear qi
  by_cases qp:m=0\/m<c
  ·have d:∀e,e=.returned (.tuple #[.slice none 0 0,.bool false])->uQ w (bL fr a cp) e wr:=fun e he=>by rw[qa.out,if_pos qp];exact⟨he,qe.out⟩
   have H:=O d;clear d
   by_cases f:m=0
   ·subst f
    go_wp2
    go_ret2
    exact H.out _ rfl
   ·have za:¬(m:Int)=0:=by omega
    have zd:(m:Int)<(c:Int):=by omega
    go_wp2
    go_ret2
    exact H.out _ rfl
  ·have f:0<m:=by omega
   have za:¬(m:Int)=0:=by omega
   have zd:¬(m:Int)<(c:Int):=by omega
   obtain⟨g,e1,r⟩:=fY.of_owns HO.out f z.out;subst e1;have qm:=r.1
   have HC:=Cj wr w.heap.size w1.heap.size g L fr (cZ fr a n) _ (by rw[M.out];exact HR.keep G.out fun _ _=>id) (G.blk Q.out id) (fun e=>by
    have F:=q5.lt (by
     have:=M.out;have h2:0<(cZ fr a n).length:=by rw[z.out];exact f
     have h3:=Ho fr a n;rw[List.length_map];omega)
    obtain⟨k',h4,h5⟩:=F;rw[e] at h4;cases h4
    omega) r (by rw[z.out];omega) (List.Pairwise.filter _ List.pairwise_lt_range) (fun i hi=>by rw[M.out];exact(uJ.1 hi).1)
   rw[z.out] at HC;have HC:=O HC;have zo:(c:Int)≤(m:Int):=by omega
   have zm:(0:Int)≤(c:Int):=by omega
   have zl:m≤L:=by have:=r.2.1;rw[z.out] at this;exact this
   have zk:(c:Int)≤(L:Int):=by omega
   have qc:=O qm;clear r qm;go_wp2_with fail;refine HC.mono ?_;rintro e w6 ⟨rfl,P,F,h2,h3,h4⟩;have qt:P=kC fr a:=zN (by rw[M.out];exact h3) h2;have qr:=F.rd;have J:P.length=m:=by rw[h3.length_eq,z.out]
   rw[J] at qr
   have q3:Hid (AC w w6 (.slice g c c) ((kC fr a).take c)):=O (by
    rw[←qt];have N:(P.take c).length=c:=by rw[List.length_take,J];omega
    obtain⟨k1,k2,k3,cur,k4,k5,k6⟩:=F;rw[J] at k2 k6;refine⟨⟨by simp[nV],some ⟨g,0,none⟩,c,by rw[N],by omega,by omega,(by intro e;cases e),fun _=>⟨g,0,rfl,fun i u hu=>?_⟩⟩,fun b hb=>?_⟩
    ·refine aC k4 ?_
     have hi:i<c:=by have:=(List.getElem?_eq_some_iff.1 hu).1;unfold nV at this;rw[List.length_map,N] at this;exact this
     unfold nV at hu k6;rw[List.map_take,←k6,List.take_take,List.getElem?_take,if_pos (by omega)] at hu
     simpa using hu
    ·have e:g=b:=Option.some.inj hb
     have:=qc.out;omega)
   have q1:=O (qe.trans' h4 (U:=aB) (fun _ _ h=>h) (fun i hi e=>by have:=qc.out;omega));have d:∀e,e=.returned (.tuple #[.slice g c c,.bool true])->uQ w (bL fr a cp) e w6:=fun e he=>by rw[qa.out,if_neg qp];exact⟨_,he,q3.out,q1.out⟩
   have H:=O d;clear d F h2 h3 h4 qt qr J HC;go_wp2
   go_ret2
   exact H.out _ rfl
def lG(x:Int):Bool:=decide (x<0) || decide (4096<x)
theorem Ib(w:World)(x:Int):Calls prog 204 #[.int .i64 x] w fun e c=>e=.returned (.bool (lG x))/\w=c:=by
 by_cases h:x<0
 ·have e:lG x=true:=by unfold lG;rw[decide_eq_true h];rfl
  rw[e];go_in;go_wp2;go_ret;exact⟨rfl,rfl⟩
 ·have e:lG x=decide (4096<x):=by unfold lG;rw[decide_eq_false h];rfl
  rw[e];obtain⟨d,a⟩:=zX9 (decide (4096<x))
  have f:decide (x<0)=false:=decide_eq_false h;go_in;go_wp2;go_ret;exact⟨rfl,rfl⟩
def OR(w:World)(b:Bool)(e:Ending)(a:World):Prop:=∃r:Int,e=.returned (.int .i64 r)/\(b=true->0≤r)/\(b=false->r<0)/\aA aB w a
theorem Ic(w:World)(v:Value)(l:List Int)(d:Rd w 1 v l.length (l.map fun x=>.int .i64 x))(N:l.length≤65536):Calls prog 127 #[v,.func (.func 204) #[] #[]] w (OR w (l.any lG)):=by
 obtain⟨R,S,rfl,-,-⟩:=d.form;obtain⟨n,E⟩:=zX9 l.length
 obtain⟨K,a⟩:=zX9 (l.any lG)
 have f:=O a;rw[a];clear a;have t:=O E;have H:=O d;rw[E] at H N ⊢;clear d E;go_in;go_wp2_with fail
 go_loopw [8] (fun i wr=>∃k:Nat,k≤n/\i=.int .i64 k/\Hid ((l.take k).any lG=false)/\Hid (aA aB w wr)) (fun i _=>n-(intOf i).toNat)
 case atStart=>exact⟨0,Nat.zero_le _,rfl,O (by simp),O (aA.refl _ _)⟩
 case round =>
 obtain⟨k,T,rfl,I,r⟩:=hrel
 by_cases D:k<n
 ·have Q:(k:Int)<(n:Int):=by omega
  have C:(0:Int)≤(k:Int):=by omega
  obtain⟨x,G⟩:∃x,l[k]?=some x:=⟨l[k]'(by rw[t.out];exact D),List.getElem?_eq_getElem _⟩
  have d:=H.keep r.out fun _ _=>id
  rw[←t.out] at d;obtain⟨p,o,cap,F,P⟩:=wY d G;rw[t.out] at F;have M:R=some ⟨p,o,none⟩:=by cases F;rfl
  subst M;have J:=O G;have q:=Ib wr x;obtain⟨L,c⟩:=zX9 (lG x)
  rw[c] at q;have q:=O q;have m:=O c;clear d F G c;go_wp2_with fail;refine q.mono ?_;rintro e U ⟨rfl,rfl⟩;cases L
  ·have u:Hid ((l.take (k+1)).any lG=false):=O (by rw[List.take_add_one,J.out,List.any_append,I.out];simpa using m.out)
   go_wp2
   go_roundw
   case rel=>exact⟨k+1,by omega,by go_num,u,r⟩
   case measure=>simp[intOf];omega
  ·have z:K=true:=by rw[←f.out];exact List.any_eq_true.2 ⟨x,List.mem_of_getElem? J.out,m.out⟩
   subst z;go_wp2;go_ret;exact⟨_,rfl,fun _=>C,(fun h=>by cases h),r.out⟩
 ·obtain rfl:n=k:=by omega
  have z:K=false:=by
   have h:=I.out;rw[List.take_of_length_le (by rw[t.out];exact Nat.le_refl _)] at h;rw[←f.out];exact h
  subst z;go_wp2;go_ret;exact⟨_,rfl,(fun h=>by cases h),(fun _=>by decide),r.out⟩
theorem DJ(w:World)(v:Value)(l:List Int)(q:Rd w 1 v l.length (l.map fun x=>.int .i64 x))(n:l.length≤65536):Calls prog 63 #[v,.func (.func 204) #[] #[]] w fun e z=>e=.returned (.bool (l.any lG))/\aA aB w z:=by
 have d:=O (Ic w v l q n);obtain⟨t,c⟩:=zX9 (l.any lG)
 rw[c] at d ⊢;clear q n c;go_in;go_wp2_with fail;refine d.mono ?_;rintro e C ⟨r,rfl,f,h,p⟩;have m:=O p;clear p d;cases t
 ·have a:¬0≤r:=by have:=h rfl;omega
  have u:decide (0≤r)=false:=decide_eq_false a;clear f h;go_wp2;go_ret;exact⟨rfl,m.out⟩
 ·have a:0≤r:=f rfl
  have u:decide (0≤r)=true:=decide_eq_true a;clear f h;go_wp2;go_ret;exact⟨rfl,m.out⟩
theorem Ie(fr:List Int):wZ fr=!fr.any lG:=by
 unfold wZ lG;rw[Bool.eq_iff_iff,Bool.not_eq_true',List.any_eq_false,List.all_eq_true];refine forall_congr' fun x=>forall_congr' fun _=>?_
 rw[Bool.and_eq_true,decide_eq_true_eq,decide_eq_true_eq,Bool.or_eq_true,decide_eq_true_eq,decide_eq_true_eq];omega
def J7(w:World)(b:Bool)(e:Ending)(a:World):Prop:=e=.returned (.int .i64 (if b then 0 else 2))/\aA aB w a
theorem Bg(w:World)(v S:Value)(fr:List Int)(m:List Bool)(cp:Int)(F:Rd w 1 v fr.length (fr.map fun x=>.int .i64 x))(J:Rd w 1 S m.length (m.map Value.bool)) :
 Calls prog 143 #[v,S,.int .i64 cp] w (J7 w (iT fr m cp)):=by
 have r:=O (fun(h:fr.length≤65536)=>DJ w v fr F h);obtain⟨oa,ca,rfl,-,-⟩:=F.form;obtain⟨ta,tc,rfl,-,-⟩:=J.form;have z:fr.length≤maxLen:=by obtain⟨_,T,U,p,t,E,-⟩:=F;omega
 have C:m.length≤maxLen:=by obtain⟨_,T,U,p,t,E,-⟩:=J;omega
 unfold maxLen at z C;have u:iT fr m cp=(decide (2≤fr.length) && decide (fr.length≤8) && decide (m.length=fr.length) && decide (1≤cp) && decide (cp≤3) && !fr.any lG):=by unfold iT;rw[Ie]
 rw[u];obtain⟨n,I⟩:=zX9 fr.length
 obtain⟨q,R⟩:=zX9 m.length
 obtain⟨Z,d⟩:=zX9 (fr.any lG)
 rw[I,d] at r;rw[I] at z ⊢;rw[R] at C ⊢;rw[d];clear F J u I R d;have a:=O (aA.refl aB w)
 by_cases p:2≤n
 ·by_cases t:n≤8
  ·by_cases E:q=n
   ·subst E
    have f:¬(q:Int)<2:=by omega
    have D:¬(8:Int)<(q:Int):=by omega
    have G:decide ((q:Int)<2)=false:=decide_eq_false f;have d2:decide ((8:Int)<(q:Int))=false:=decide_eq_false D;rw[decide_eq_true p,decide_eq_true t,decide_eq_true (rfl:q=q)]
    by_cases H:1≤cp
    ·by_cases P:cp≤3
     ·have c:¬cp<1:=by omega
      have K:¬3<cp:=by omega
      have N:decide (cp<1)=false:=decide_eq_false c;have V:decide (3<cp)=false:=decide_eq_false K;rw[decide_eq_true H,decide_eq_true P];have L:=O (r (by omega));go_in;go_wp2_with fail;refine L.mono ?_;rintro e w2 ⟨rfl,Q⟩;have M:=O Q;clear Q L;cases Z
      ·go_wp2
       go_ret;exact⟨rfl,M.out⟩
      ·go_wp2
       go_ret;exact⟨rfl,M.out⟩
     ·have c:¬cp<1:=by omega
      have K:3<cp:=by omega
      have N:decide (cp<1)=false:=decide_eq_false c;have V:decide (3<cp)=true:=decide_eq_true K;rw[decide_eq_true H,decide_eq_false P];go_in;go_wp2;go_ret;exact⟨rfl,a.out⟩
    ·have c:cp<1:=by omega
     have N:decide (cp<1)=true:=decide_eq_true c;rw[decide_eq_false H];go_in;go_wp2;go_ret;exact⟨rfl,a.out⟩
   ·have f:¬(n:Int)<2:=by omega
    have D:¬(8:Int)<(n:Int):=by omega
    have c:(q:Int)≠(n:Int):=by omega
    have G:decide ((n:Int)<2)=false:=decide_eq_false f;have d2:decide ((8:Int)<(n:Int))=false:=decide_eq_false D;have X:((q:Int) != (n:Int))=true:=bne_iff_ne.2 c;have Y:((q:Int) == (n:Int))=false:=beq_false_of_ne c;rw[decide_eq_true p,decide_eq_true t,decide_eq_false E];go_in;go_wp2;go_ret;exact⟨rfl,a.out⟩
  ·have f:¬(n:Int)<2:=by omega
   have D:(8:Int)<(n:Int):=by omega
   have G:decide ((n:Int)<2)=false:=decide_eq_false f;have d2:decide ((8:Int)<(n:Int))=true:=decide_eq_true D;rw[decide_eq_true p,decide_eq_false t];go_in;go_wp2;go_ret;exact⟨rfl,a.out⟩
 ·have f:(n:Int)<2:=by omega
  have G:decide ((n:Int)<2)=true:=decide_eq_true f;rw[decide_eq_false p];go_in;go_wp2;go_ret;exact⟨rfl,a.out⟩
def oY(w:World)(fr:List Int)(b:List Bool)(cp:Int)(e:Ending)(a:World):Prop:=
 if iT fr b cp then
  match bL fr b cp.toNat with
  | none=>e=.returned (.tuple #[.slice none 0 0,.int .i64 15])/\aA aB w a
  | some l=>∃v,e=.returned (.tuple #[v,.int .i64 0])/\AC w a v l/\aA aB w a
 else e=.returned (.tuple #[.slice none 0 0,.int .i64 2])/\aA aB w a
theorem AC.of{a c:World}(h:AC a c v l)(k:aA aB w a):AC w c v l:=⟨h.1,fun b d=>Nat.le_trans k.size (h.2 b d)⟩
theorem F7(w:World)(v E:Value)(fr:List Int)(m:List Bool)(cp:Int)(C:Rd w 1 v fr.length (fr.map fun x=>.int .i64 x))(D:Rd w 1 E m.length (m.map Value.bool)) :
 Calls prog 94 #[v,E,.int .i64 cp] w (oY w fr m cp):=by
 have u:=O (Bg w v E fr m cp C D);obtain⟨K,p⟩:=zX9 (iT fr m cp)
 have c:=O (fun(h:K=true) (wx:World) (k:aA aB w wx)=>by
  rw[←p] at h;obtain⟨S,M,N,T,U,-⟩:=zW h;have:=Bf wx v E fr m cp.toNat (C.keep k fun _ _=>id) (D.keep k fun _ _=>id) M N (by omega) (by omega)
  rwa [Int.toNat_of_nonneg (by omega)] at this)
 have n:=O p;rw[p] at u;obtain⟨V,R,rfl,-,-⟩:=C.form;obtain⟨X,Y,rfl,-,-⟩:=D.form;clear C D p;cases K
 ·have L:Hid (∀a,aA aB w a->∀e,e=.returned (.tuple #[.slice none 0 0,.int .i64 2])->oY w fr m cp e a):=O (fun a k e z=>by unfold oY;rw[n.out,if_neg (by decide)];exact⟨z,k⟩)
  clear c;go_in;go_wp2_with fail;refine u.mono ?_;rintro e Q ⟨rfl,d⟩;have t:=O d;clear d u;go_wp2
  go_ret2
  exact L.out _ t.out _ rfl
 ·obtain⟨o,J⟩:=zX9 (bL fr m cp.toNat)
  have G:=O J;rw[J] at c;clear J;have H:Hid (o=none->∀a,aA aB w a->∀e,e=.returned (.tuple #[.slice none 0 0,.int .i64 15])->oY w fr m cp e a):=O (fun h a k e z=>by unfold oY;rw[n.out,if_pos rfl,G.out,h];exact⟨z,k⟩);have I:Hid (∀l,o=some l->∀v a,AC w a v l->aA aB w a->∀e,e=.returned (.tuple #[v,.int .i64 0])->oY w fr m cp e a):=O (fun l h v a P k e z=>by unfold oY;rw[n.out,if_pos rfl,G.out,h];exact⟨v,z,P,k⟩);clear n G;go_in;go_wp2_with fail;refine u.mono ?_;rintro e Q ⟨rfl,d⟩;have t:=O d;clear d u;go_wp2_with fail;refine(c (by simp) _ t.out).mono ?_;intro e w3 f;cases o with
  | none =>
    obtain⟨rfl,d⟩:=f;have q:=O (t.trans d);clear d c;go_wp2
    go_ret2
    exact H.out (by simp) _ q.out _ rfl
  | some l =>
    obtain⟨v,rfl,r,d⟩:=f;have F:=O (r.of t.out);have q:=O (t.trans d);obtain⟨Z,vc,rfl,-,-⟩:=r.1.form;clear d c r;go_wp2
    go_ret2
    exact I.out l rfl _ _ F.out q.out _ rfl
end
end Go.Proofs.YtoeinblfcbpcmaaGreatDoor
