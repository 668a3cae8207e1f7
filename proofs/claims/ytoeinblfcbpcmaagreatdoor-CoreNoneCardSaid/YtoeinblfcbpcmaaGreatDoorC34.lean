import Derived.Test.YtoeinblfcbpcmaaGreatDoorC33
import Derived.Lib.BytesEntry
namespace Go.Proofs.YtoeinblfcbpcmaaGreatDoor
set_option maxHeartbeats 0
set_option maxRecDepth 100000
set_option linter.unusedVariables false
section
theorem AU{α:Type}(less:α->α->Bool)(a:∀x y,less x y=true->less y x=false)(x:α):less x x=false:=by
 cases h:less x x
 ·rfl
 ·have:=a x x h;rw[h] at this;cases this
section
variable {α:Type} [Inhabited α]
abbrev gD(q:List α)(i:Nat):α:=q.getD i default
def eD(q:List α)(i j:Nat):List α:=(q.set i (gD q j)).set j (gD q i)
variable{i j:Nat}
theorem mL(q:List α)(i j:Nat):(eD q i j).length=q.length:=by simp[eD]
theorem G9{q:List α}{x:α}(h:q[i]?=some x):gD q i=x:=by rw[gD,List.getD_eq_getElem?_getD,h];rfl
theorem nF{q:List α}(h:i<q.length):q[i]?=some (gD q i):=by rw[gD,List.getD_eq_getElem?_getD,List.getElem?_eq_getElem h];rfl
theorem swapL_get?{q:List α}(c:i<q.length)(d:j<q.length)(k:Nat):(eD q i j)[k]?=if k=j then some (gD q i) else if k=i then some (gD q j) else q[k]?:=by
 unfold eD;rw[List.getElem?_set,List.getElem?_set];simp only[List.length_set]
 by_cases a:k=j
 ·subst a
  rw[if_pos rfl,if_pos rfl,if_pos d]
 ·rw[if_neg (show ¬j=k from fun h=>a h.symm),if_neg a]
  by_cases b:k=i
  ·subst b
   rw[if_pos rfl,if_pos rfl,if_pos c]
  ·rw[if_neg (show ¬i=k from fun h=>b h.symm),if_neg b]
theorem LE{q:List α}(c:i<q.length)(d:j<q.length)(k:Nat):gD (eD q i j) k=if k=j then gD q i else if k=i then gD q j else gD q k:=by
 rw[gD,List.getD_eq_getElem?_getD,swapL_get? c d]
 by_cases a:k=j
 ·rw[if_pos a,if_pos a];rfl
 ·rw[if_neg a,if_neg a]
  by_cases b:k=i
  ·rw[if_pos b,if_pos b];rfl
  ·rw[if_neg b,if_neg b,gD,List.getD_eq_getElem?_getD]
theorem BK{q:List α}(a:i<q.length)(b:j<q.length):(eD q i j).Perm q:=by
 have h:eD q i j=(q.toArray.swap i j (by simpa using a) (by simpa using b)).toList:=by
  apply List.ext_getElem?;intro k;have e:=Array.getElem?_swap (xs:=q.toArray) (i:=i) (j:=j) (by simpa using a) (by simpa using b) (k:=k);have f:(q.toArray.swap i j (by simpa using a) (by simpa using b)).toList[k]?=(q.toArray.swap i j (by simpa using a) (by simpa using b))[k]?:=Array.getElem?_toList;rw[f,e,swapL_get? a b]
  by_cases c:k=j
  ·subst c
   rw[if_pos rfl,if_pos rfl];simp[gD,a]
  ·rw[if_neg c,if_neg (show ¬j=k from fun h=>c h.symm)]
   by_cases d:k=i
   ·subst d
    rw[if_pos rfl,if_pos rfl];simp[gD,b]
   ·rw[if_neg d,if_neg (show ¬i=k from fun h=>d h.symm)]
    simp
 rw[h];exact Array.perm_iff_toList_perm.1 (Array.swap_perm _ _)
variable (less:α->α->Bool)
def kA(q:List α)(j n:Nat):Nat:=if (decide (j+1<n) && less (gD q (j+1)) (gD q j))=true then j+1 else j
def cO:Nat->List α->Nat->Nat->List α×Nat
 | 0,q,i,n=>(q,i)
 | f+1,q,i,n=>if 2*i+1<n then (if less (gD q (kA less q (2*i+1) n)) (gD q i)=true then cO f (eD q i (kA less q (2*i+1) n)) (kA less q (2*i+1) n) n else (q,i)) else (q,i)
theorem Ha(q:List α)(j n:Nat)(h:j<n):j≤kA less q j n/\kA less q j n≤j+1/\kA less q j n<n:=by
 unfold kA;split
 ·rename_i a
  simp only[Bool.and_eq_true,decide_eq_true_eq] at a;omega
 ·omega
def sJ(q:List α)(n k:Nat):Prop:=∀j,1≤j->j<n->k≤(j-1) / 2->less (gD q j) (gD q ((j-1) / 2))=false
def QU(q:List α)(n k i:Nat):Prop:=(∀j,1≤j->j<n->k≤(j-1) / 2->(j-1) / 2≠i->less (gD q j) (gD q ((j-1) / 2))=false) /\
 ∀j,1≤j->j<n->(j-1) / 2=i->1≤i->k≤(i-1) / 2->less (gD q j) (gD q ((i-1) / 2))=false
theorem nG:∀(f:Nat) (q:List α) (i n:Nat),n≤q.length->(cO less f q i n).1.Perm q
 | 0,q,i,n,_=>List.Perm.refl _
 | f+1,q,i,n,h=>by
   unfold cO;split
   ·rename_i a
    have b:=Ha less q (2*i+1) n a;split
    ·exact(nG f _ _ n (by rw[mL];exact h)).trans (BK (by omega) (by omega))
    ·exact List.Perm.refl _
   ·exact List.Perm.refl _
variable (htr:∀x y z,less y x=false->less z y=false->less z x=false) (has:∀x y,less x y=true->less y x=false)
include has in
theorem PB(q:List α)(i n c:Nat)(e:c<n)(d:1≤c)(f:(c-1) / 2=i):less (gD q c) (gD q (kA less q (2*i+1) n))=false:=by
 have b:c=2*i+1\/c=2*i+2:=by omega
 unfold kA;split
 ·rename_i a
  simp only[Bool.and_eq_true,decide_eq_true_eq] at a;rcases b with rfl|rfl
  ·exact has _ _ a.2
  ·exact AU less has _
 ·rename_i a
  simp only[Bool.and_eq_true,decide_eq_true_eq,not_and,Bool.not_eq_true] at a;rcases b with rfl|rfl
  ·exact AU less has _
  ·exact a (by omega)
include htr has in
theorem vQ:∀(f:Nat) (q:List α) (i n k:Nat),n-i≤f->n≤q.length->k≤i->QU less q n k i->sJ less (cO less f q i n).1 n k
 | 0,q,i,n,k,s,m,t,d=>fun j h g p=>d.1 j h g p (by omega)
 | f+1,q,i,n,k,s,m,t,d=>by
   unfold cO;split
   ·rename_i h
    have u:=Ha less q (2*i+1) n h;have b:=fun c r h a=>PB less has q i n c r h a
    generalize kA less q (2*i+1) n=j at *;split
    ·rename_i g
     have l:=fun c=>LE (q:=q) (i:=i) (j:=j) (by omega) (by omega) c
     refine vQ f _ j n k (by omega) (by rw[mL];exact m) (by omega) ⟨fun c c1 c2 c3 o=>?_,fun c c1 c2 c3 o v=>?_⟩
     ·rw[l,l]
      by_cases a:(c-1) / 2=i
      ·rw[a,if_neg (by omega:¬i=j),if_pos rfl]
       by_cases e:c=j
       ·rw[if_pos e];exact has _ _ g
       ·rw[if_neg e,if_neg (by omega)];exact b c c2 c1 a
      ·rw[if_neg (by omega:¬c=j),if_neg (by omega:¬(c-1) / 2=j),if_neg a]
       by_cases e:c=i
       ·subst e
        rw[if_pos rfl];exact d.2 j (by omega) (by omega) (by omega) c1 c3
       ·rw[if_neg e]
        exact d.1 c c1 c2 c3 a
     ·have e:(j-1) / 2=i:=by omega
      rw[l,l,e,if_neg (by omega:¬c=j),if_neg (by omega:¬c=i),if_neg (by omega:¬i=j),if_pos rfl,←c3];exact d.1 c c1 c2 (by omega) (by omega)
    ·rename_i g
     simp only[Bool.not_eq_true] at g;intro c c1 c2 c3
     by_cases a:(c-1) / 2=i
     ·rw[a]
      exact htr _ _ _ g (b c c2 c1 a)
     ·exact d.1 c c1 c2 c3 a
   ·intro c c1 c2 c3
    exact d.1 c c1 c2 c3 (by omega)
def nH:List α->Nat->List α
 | q,0=>q
 | q,k+1=>nH (cO less q.length q k q.length).1 k
theorem BL:∀(k:Nat) (q:List α),(nH less q k).Perm q
 | 0,q=>List.Perm.refl _
 | k+1,q=>(BL k _).trans (nG less _ _ _ _ (Nat.le_refl _))
include htr has in
theorem BM:∀(k:Nat) (q:List α),sJ less q q.length k->sJ less (nH less q k) q.length 0
 | 0,q,h=>h
 | k+1,q,h=>by
   have c:=nG less q.length q k q.length (Nat.le_refl _);have f:=vQ less htr has q.length q k q.length k (by omega) (Nat.le_refl _) (Nat.le_refl _) ⟨fun j a b d e=>h j a b (by omega),fun j a b d e g=>by omega⟩;have:=BM k (cO less q.length q k q.length).1 (by rw[c.length_eq];exact f);rw[c.length_eq] at this;exact this
def sK(q:List α):List α:=nH less q (q.length / 2)
theorem nI(q:List α):(sK less q).Perm q:=BL less _ q
include htr has in
theorem I9(q:List α):sJ less (sK less q) q.length 0:=BM less htr has _ q fun j a b c=>by omega
include htr has in
theorem NP{q:List α}{n:Nat}(h:sJ less q n 0):∀j,j<n->less (gD q j) (gD q 0)=false:=by
 intro j
 induction j using Nat.strongRecOn with
 | _ j b =>
   intro a;rcases Nat.eq_zero_or_pos j with h0|h0
   ·subst h0;exact AU less has _
   ·exact htr _ _ _ (b ((j-1) / 2) (by omega) (by omega)) (h j h0 a (Nat.zero_le _))
def gN(q:List α):List α:=(q.set 0 (gD q (q.length-1))).take (q.length-1)
def eR(q:List α):List α:=if 0<q.length-1 then (cO less (q.length-1) (gN q) 0 (q.length-1)).1 else gN q
theorem oI(q:List α):(gN q).length=q.length-1:=by unfold gN;rw[List.length_take,List.length_set];omega
theorem Di{x:α}{t:List α}:(gN (x::t)).Perm t:=by
 unfold gN;rw[List.set_cons_zero,List.length_cons,Nat.add_sub_cancel];cases a:t.reverse with
 | nil =>
   have:t=[]:=by simpa using a
   subst this;exact List.Perm.refl _
 | cons y r =>
   have e:t=r.reverse++[y]:=by rw[←List.reverse_reverse t,a,List.reverse_cons]
   subst e;rw[List.length_append,List.length_singleton,List.length_reverse]
   have b:gD (x::(r.reverse++[y])) (r.length+1)=y:=by
    apply G9;rw[List.getElem?_cons_succ,List.getElem?_append_right (by simp)];simp
   rw[b,List.take_succ_cons,List.take_append_of_le_length (by simp),List.take_of_length_le (by simp)];exact(List.perm_append_comm (l₁:=[y]) (l₂:=r.reverse))
theorem vR{x:α}{t:List α}:(eR less (x::t)).Perm t:=by
 unfold eR;split
 ·exact(nG less _ _ _ _ (by rw[oI];exact Nat.le_refl _)).trans Di
 ·exact Di
theorem Fu{q:List α}(b:1≤j)(a:j<q.length-1):gD (gN q) j=gD q j:=by
 unfold gN;rw[gD,List.getD_eq_getElem?_getD,List.getElem?_take,if_pos a,List.getElem?_set,if_neg (by omega)];exact(List.getD_eq_getElem?_getD ..).symm
include htr has in
theorem Ja{q:List α}(h:sJ less q q.length 0):sJ less (eR less q) (q.length-1) 0:=by
 unfold eR;split
 ·refine vQ less htr has _ _ 0 _ 0 (by omega) (by rw[oI];exact Nat.le_refl _) (Nat.le_refl _) ⟨fun j a b c d=>?_,fun j a b c d e=>by omega⟩
  rw[Fu a b,Fu (by omega) (by omega)];exact h j a (by omega) (Nat.zero_le _)
 ·intro j a b c;omega
def nJ:Nat->List α->List α
 | 0,_=>[]
 | k+1,q=>gD q 0::nJ k (eR less q)
theorem tC:∀(k:Nat) (q:List α),q.length=k->(nJ less k q).Perm q
 | 0,q,h=>by rw[List.eq_nil_of_length_eq_zero h];exact List.Perm.refl _
 | k+1,x::t,h=>by
   have a:=vR less (x:=x) (t:=t);exact List.Perm.cons _ ((tC k _ (by rw[a.length_eq];simpa using h)).trans a)
include htr has in
theorem yG:∀(k:Nat) (q:List α),q.length=k->sJ less q k 0->(nJ less k q).Pairwise fun x y=>less y x=false
 | 0,q,_,_=>List.Pairwise.nil
 | k+1,x::t,h,c=>by
   have g:=vR less (x:=x) (t:=t);have d:(eR less (x::t)).length=k:=by rw[g.length_eq];simpa using h
   have f:=Ja less htr has (q:=x::t) (by rw[h];exact c);rw[h,Nat.add_sub_cancel] at f;refine List.Pairwise.cons (fun y l=>?_) (yG k _ d f);have b:y∈x::t:=List.mem_cons_of_mem _ (g.mem_iff.1 ((tC less k _ d).mem_iff.1 l));obtain⟨j,a,e⟩:=List.getElem_of_mem b;have:=NP less htr has c j (by rw[h] at a;exact a);rw[G9 (List.getElem?_eq_some_iff.2 ⟨a,e⟩)] at this;exact this
end
section
variable {α β:Type} [DecidableEq β] (sec:α->β)
def fA:β->List α->List α
 | _,[]=>[]
 | was,x::l=>if sec x=was then fA was l else x::fA (sec x) l
theorem qL(was:β):∀(l:List α) (x:α),fA sec was (l++[x])=fA sec was l++(if sec x=((l.getLast?.map sec).getD was) then [] else [x])
 | [],x=>by
   show (if sec x=was then [] else [x])=[]++(if sec x=was then [] else [x]);rw[List.nil_append]
 | y::l,x=>by
   rw[List.cons_append]
   have a:(((y::l).getLast?.map sec).getD was)=((l.getLast?.map sec).getD (sec y)):=by
    cases l with
    | nil=>rfl
    | cons z t=>rw[List.getLast?_cons_cons,List.getLast?_cons];rfl
   show (if sec y=was then fA sec was (l++[x]) else y::fA sec (sec y) (l++[x]))=(if sec y=was then fA sec was l else y::fA sec (sec y) l)++_;rw[a]
   by_cases h:sec y=was
   ·rw[if_pos h,if_pos h,qL was l x,h]
   ·rw[if_neg h,if_neg h,qL (sec y) l x];rfl
theorem mM(was:β):∀l:List α,(fA sec was l).Sublist l
 | []=>List.Sublist.refl _
 | x::l=>by
   unfold fA;split
   ·exact(mM was l).cons x
   ·exact(mM (sec x) l).cons_cons x
theorem yH(was:β):∀(l:List α) (x:α),x∈l->sec x=was\/∃y∈fA sec was l,sec y=sec x
 | y::l,x,h=>by
   unfold fA;rcases List.mem_cons.1 h with rfl|h
   ·split
    ·exact .inl (by assumption)
    ·exact .inr ⟨x,List.mem_cons_self ..,rfl⟩
   ·split
    ·exact yH was l x h
    ·rcases yH (sec y) l x h with e|⟨z,a,e⟩
     ·exact .inr ⟨y,List.mem_cons_self ..,e.symm⟩
     ·exact .inr ⟨z,List.mem_cons_of_mem _ a,e⟩
theorem rQ{R:α->α->Prop}{lt:α->α->Prop}(c:∀x y,R x y->sec x≠sec y->lt x y)(f:∀x y z,R x y->R y z->R x z)(a:∀x y z,R x y->R y z->sec x=sec z->sec x=sec y) :
 ∀(was:β) (l:List α),l.Pairwise R->(∀x∈fA sec was l,True)->(fA sec was l).Pairwise lt
 | _,[],_,_=>List.Pairwise.nil
 | was,x::l,h,_=>by
   unfold fA;have d:=List.pairwise_cons.1 h;split
   ·exact rQ c f a was l d.2 (fun _ _=>trivial)
   ·refine List.Pairwise.cons (fun y b=>?_) (rQ c f a (sec x) l d.2 (fun _ _=>trivial))
    refine c x y (d.1 y ((mM sec _ l).subset b)) fun e=>?_
    have key:∀(m:List α),m.Pairwise R->(∀z∈m,R x z)->∀y∈fA sec (sec x) m,sec x≠sec y:=by
     intro m
     induction m with
     | nil=>intro _ _ y b;cases b
     | cons z m r =>
       intro p o y b;have n:=List.pairwise_cons.1 p;unfold fA at b;split at b
       ·exact r n.2 (fun z q=>o z (List.mem_cons_of_mem _ q)) y b
       ·rename_i g
        rcases List.mem_cons.1 b with rfl|b
        ·exact fun e=>g e.symm
        ·intro e
         have k:=(mM sec _ m).subset b;exact g (a x z y (o z (List.mem_cons_self ..)) (n.1 y k) e).symm
    exact key l d.2 d.1 y b e
end
theorem wH{α:Type}{lt:α->α->Prop}(c:∀x,¬lt x x)(d:∀x y z,lt x y->lt y z->lt x z):∀{l m:List α},l.Pairwise lt->m.Pairwise lt->(∀x,x∈l↔x∈m)->l=m
 | [],[],_,_,_=>rfl
 | [],y::m,_,_,h=>absurd ((h y).2 (List.mem_cons_self ..)) (by simp)
 | x::l,[],_,_,h=>absurd ((h x).1 (List.mem_cons_self ..)) (by simp)
 | x::l,y::m,k,n,h=>by
   have a:=List.pairwise_cons.1 k;have b:=List.pairwise_cons.1 n
   have e:x=y:=by
    rcases List.mem_cons.1 ((h x).1 (List.mem_cons_self ..)) with e|e
    ·exact e
    ·rcases List.mem_cons.1 ((h y).2 (List.mem_cons_self ..)) with g|g
     ·exact g.symm
     ·exact absurd (d _ _ _ (a.1 y g) (b.1 x e)) (c x)
   subst e;refine congrArg _ (wH c d a.2 b.2 fun z=>⟨fun f=>?_,fun f=>?_⟩)
   ·rcases List.mem_cons.1 ((h z).1 (List.mem_cons_of_mem _ f)) with e|e
    ·subst e;exact absurd (a.1 z f) (c z)
    ·exact e
   ·rcases List.mem_cons.1 ((h z).2 (List.mem_cons_of_mem _ f)) with e|e
    ·subst e;exact absurd (b.1 z f) (c z)
    ·exact e
open Go.RowKit
set_option maxRecDepth 100000
set_option linter.unusedVariables false
theorem yI:∀a:List UInt8,Lib.compareBytes a a=0
 | []=>rfl
 | x::a=>by simp[Lib.compareBytes,yI a]
theorem AV:∀{a b:List UInt8},Lib.compareBytes a b=0->a=b
 | [],[],_=>rfl
 | [],_::_,h=>by simp[Lib.compareBytes] at h
 | _::_,[],h=>by simp[Lib.compareBytes] at h
 | x::a,y::b,h=>by
   unfold Lib.compareBytes at h
   by_cases c:x<y
   ·rw[if_pos c] at h;cases h
   ·by_cases d:y<x
    ·rw[if_neg c,if_pos d] at h;cases h
    ·rw[if_neg c,if_neg d] at h
     rw[AV h,UInt8.le_antisymm (UInt8.not_lt.1 d) (UInt8.not_lt.1 c)]
theorem Dj:∀a b:List UInt8,Lib.compareBytes b a=- Lib.compareBytes a b
 | [],[]=>rfl
 | [],_::_=>rfl
 | _::_,[]=>rfl
 | x::a,y::b=>by
   unfold Lib.compareBytes
   by_cases c:x<y
   ·have d:¬y<x:=fun h=>UInt8.lt_irrefl _ (UInt8.lt_trans c h)
    rw[if_pos c,if_neg d,if_pos c];rfl
   ·by_cases d:y<x
    ·rw[if_pos d,if_neg c,if_pos d]
    ·rw[if_neg c,if_neg d,if_neg c,if_neg d,Dj a b]
theorem BN:∀{a b c:List UInt8},Lib.compareBytes a b<0->Lib.compareBytes b c<0->Lib.compareBytes a c<0
 | [],[],_,h,_=>by simp[Lib.compareBytes] at h
 | [],_::_,[],_,h=>by simp[Lib.compareBytes] at h
 | [],_::_,_::_,_,_=>by simp[Lib.compareBytes]
 | _::_,[],_,h,_=>by simp[Lib.compareBytes] at h
 | _::_,_::_,[],_,h=>by simp[Lib.compareBytes] at h
 | x::a,y::b,z::c,h,k=>by
   unfold Lib.compareBytes at h k ⊢
   by_cases f:x<y
   ·by_cases d:y<z
    ·rw[if_pos (UInt8.lt_trans f d)];decide
    ·by_cases g:z<y
     ·rw[if_neg d,if_pos g] at k;cases k
     ·have e:=UInt8.le_antisymm (UInt8.not_lt.1 g) (UInt8.not_lt.1 d)
      subst e;rw[if_pos f];decide
   ·by_cases l:y<x
    ·rw[if_neg f,if_pos l] at h;cases h
    ·have e:=UInt8.le_antisymm (UInt8.not_lt.1 l) (UInt8.not_lt.1 f)
     subst e;rw[if_neg f,if_neg l] at h
     by_cases d:x<z
     ·rw[if_pos d];decide
     ·by_cases g:z<x
      ·rw[if_neg d,if_pos g] at k;cases k
      ·rw[if_neg d,if_neg g] at k ⊢
       exact BN h k
def jM(a b:List UInt8):Bool:=decide (Lib.compareBytes a b<0)
theorem Gt(a:List UInt8):jM a a=false:=by simp[jM,yI]
theorem Jb{a b c:List UInt8}(h:jM a b=true)(k:jM b c=true):jM a c=true:=by
 unfold jM at *;exact decide_eq_true (BN (of_decide_eq_true h) (of_decide_eq_true k))
theorem Jc{a b:List UInt8}(h:jM a b=false)(k:jM b a=false):a=b:=by
 unfold jM at *;have d:=of_decide_eq_false h;have c:=of_decide_eq_false k;rw[Dj a b] at c;exact AV (by omega)
def ltU(a b:Ub):Bool:=decide (b.txg<a.txg) || (a.txg == b.txg && jM (aY a) (aY b))
theorem uA(a b:Ub):ltU a b=true↔b.txg<a.txg\/(a.txg=b.txg/\jM (aY a) (aY b)=true):=by simp[ltU]
theorem Hb(a:Ub):¬ltU a a=true:=by rw[uA,Gt];simp
theorem yJ(a b c:Ub)(h:ltU a b=true)(k:ltU b c=true):ltU a c=true:=by
 rw[uA] at *;rcases h with h|⟨h,d⟩<;>rcases k with k|⟨k,e⟩
 ·exact .inl (by omega)
 ·exact .inl (by omega)
 ·exact .inl (by omega)
 ·exact .inr ⟨by omega,Jb d e⟩
theorem NQ(a b:Ub)(h:ltU a b=true):ltU b a=false:=by
 cases e:ltU b a
 ·rfl
 ·exact absurd (yJ a b a h e) (Hb a)
theorem yK{a b:Ub}(h:ltU a b=false)(k:ltU b a=false):a.txg=b.txg/\aY a=aY b:=by
 rw[Bool.eq_false_iff,ne_eq,uA] at h k;have e:a.txg=b.txg:=by omega
 refine⟨e,Jc ?_ ?_⟩
 ·cases x:jM (aY a) (aY b)
  ·rfl
  ·exact absurd (.inr ⟨e,x⟩) h
 ·cases x:jM (aY b) (aY a)
  ·rfl
  ·exact absurd (.inr ⟨e.symm,x⟩) k
theorem Qv{a b:Ub}(h:ltU b a=false)(c:aY a≠aY b):ltU a b=true:=by
 cases e:ltU a b
 ·exact absurd (yK e h).2 c
 ·rfl
theorem Dk(x y z:Ub)(h:ltU y x=false)(k:ltU z y=false):ltU z x=false:=by
 cases e:ltU z x
 ·rfl
 ·by_cases a:aY x=aY y/\x.txg=y.txg
  ·rw[uA,a.1,a.2,←uA] at e
   rw[e] at k;cases k
  ·have c:ltU x y=true:=by
    cases b:ltU x y
    ·have:=yK b h
     exact absurd ⟨this.2,this.1⟩ a
    ·rfl
   have:=yJ z x y e c;rw[this] at k;cases k
def sL(u:Ub):Prop:=u.pool.length=32/\u.root.sum.length=32/\u.may=true
theorem Dl{u v:Ub}(a:sL u)(b:sL v)(h:aY u=aY v):u=v:=by
 have:=sI a.1 a.2.1 a.2.2;rw[h,sI b.1 b.2.1 b.2.2] at this;exact this.symm
def rR(l out:List Ub):Prop:=out.Pairwise (fun a b=>ltU a b=true)/\∀u,u∈out↔u∈l/\u.may=true
theorem rR.unique{l a b:List Ub}(c:rR l a)(d:rR l b):a=b:=wH Hb yJ c.1 d.1 fun x=>(c.2 x).trans (d.2 x).symm
def aS(x y:Value×Ub):Bool:=ltU x.2 y.2
def kB(x:Value×Ub):List UInt8:=aY x.2
theorem NR{u:Ub}(h:sL u):aY u≠[]:=fun e=>by
 have:=xZ h.1 h.2.1 h.2.2;rw[e] at this;cases this
instance:Inhabited (Value×Ub):=⟨(.slice none 0 0,zUb)⟩
theorem Fv(x y z:Value×Ub)(h:aS y x=false)(k:aS z y=false):aS z x=false:=Dk x.2 y.2 z.2 h k
theorem Fw(x y:Value×Ub)(h:aS x y=true):aS y x=false:=NQ x.2 y.2 h
def rS(a:List (Value×Ub)):List (Value×Ub):=nJ aS a.length (sK aS a)
theorem sM(a:List (Value×Ub)):(rS a).Perm a:=(tC aS _ _ (nI aS a).length_eq).trans (nI aS a)
theorem Jd{a:List (Value×Ub)}(l:∀e∈a,sL e.2):rR (a.map (·.2)) ((fA kB [] (rS a)).map (·.2)):=by
 have p:=yG aS Fv Fw a.length (sK aS a) (nI aS a).length_eq (I9 aS Fv Fw a);have b:∀e∈rS a,sL e.2:=fun e c=>l e ((sM a).mem_iff.1 c)
 have q:(rS a).Pairwise fun x y=>sL x.2/\sL y.2/\ltU y.2 x.2=false:=List.Pairwise.imp_of_mem (fun r s h=>⟨b _ r,b _ s,h⟩) p
 have t:=rQ kB (lt:=fun x y=>ltU x.2 y.2=true) (fun x y h m=>Qv h.2.2 m) (fun x y z h k=>⟨h.1,k.2.1,Dk _ _ _ h.2.2 k.2.2⟩)
  (fun x y z h k e=>by
    have f:x.2=z.2:=Dl h.1 k.2.1 e;have o:=k.2.2;rw[←f] at o;exact(yK o h.2.2).2) [] (rS a) q (fun _ _=>trivial)
 refine⟨List.pairwise_map.2 t,fun u=>⟨fun h=>?_,fun h=>?_⟩⟩
 ·obtain⟨e,c,rfl⟩:=List.mem_map.1 h
  have d:=(mM kB [] (rS a)).subset c;exact⟨List.mem_map.2 ⟨e,(sM a).mem_iff.1 d,rfl⟩,(b e d).2.2⟩
 ·obtain⟨e,c,rfl⟩:=List.mem_map.1 h.1
  have d:=(sM a).mem_iff.2 c;rcases yH kB [] (rS a) e d with g|⟨y,n,g⟩
  ·exact absurd g (NR (l e c))
  ·exact List.mem_map.2 ⟨y,n,Dl (b y ((mM kB [] (rS a)).subset n)) (l e c) g⟩
end
end Go.Proofs.YtoeinblfcbpcmaaGreatDoor
