import Derived.Test.YtiinnfhjpaeffaaGreatA1
import Derived.Maps.Keyed
import Derived.Maps.RangeRun
import Derived.Maps.RangeWalk
import Derived.WideKeyEntry
import Derived.DeepKeys5
import Derived.Sort.MapsRangeIn
namespace Go.Proofs.YtiinnfhjpaeffaaGreat
set_option maxHeartbeats 64000000
set_option maxRecDepth 100000
set_option linter.unusedVariables false
section
open Go.RowKit Go.Maps Go.ChangeMaps
section
variable {α β:Type}{P:Program}{k:TypeId}{ok:α->Prop}{enc:α->Value}{ev:β->Value}{w:World}{b:Nat}{l:List (α×β)}
structure tS(P:Program)(k:TypeId)(ok:α->Prop)(enc:α->Value):Prop where
 law:Keyed P k
 key:∀a,ok a->∃x,keyOf P k (enc a)=some x
 inj:∀a c,ok a->ok c->enc a=enc c->a=c
def iL(ok:α->Prop)(enc:α->Value)(ev:β->Value)(es:Array MapEntry)(clock:Nat)(l:List (α×β)):Prop:=
 es.toList.map (fun e=>(e.key,e.val))=l.map (fun p=>(enc p.1,ev p.2))/\(es.toList.map (·.born)).Nodup/\(∀e∈es.toList,e.born<clock)/\(l.map (·.1)).Nodup/\∀p∈l,ok p.1
def cS(ok:α->Prop)(enc:α->Value)(ev:β->Value)(w:World)(b:Nat)(l:List (α×β)):Prop:=
 ∃es clock,w.heap[b]?=some (.map es clock)/\iL ok enc ev es clock l
variable{es:Array MapEntry}{clock j b:Nat}{w:World}{o:Obj}
theorem cS.keep{w':World}{S:Nat->Prop}(h:cS ok enc ev w b l)(k:aA S w w')(f:¬S b):cS ok enc ev w' b l:=by
 obtain⟨es,clock,d,g⟩:=h;have c:b<w.heap.size:=(Array.getElem?_eq_some_iff.1 d).1;exact⟨es,clock,by rw[k.block b c f];exact d,g⟩
theorem cS.made(w:World):cS ok enc ev (w.alloc (.map #[] 0)) w.heap.size ([]:List (α×β)):=
 ⟨#[],0,heap_alloc_new _ _,by simp[iL]⟩
theorem iL.get(h:iL ok enc ev es clock l){e:MapEntry}(f:es.toList[j]?=some e):∃a v,l[j]?=some (a,v)/\e.key=enc a/\e.val=ev v/\ok a:=by
 have c:=congrArg (fun x=>x[j]?) h.1;simp only[List.getElem?_map,f,Option.map_some] at c;rcases d:l[j]? with _|⟨a,v⟩
 ·rw[d] at c;simp at c
 ·rw[d] at c
  simp only[Option.map_some,Option.some.injEq,Prod.mk.injEq] at c;exact⟨a,v,rfl,c.1,c.2,h.2.2.2.2 _ (List.mem_of_getElem? d)⟩
theorem iL.len(h:iL ok enc ev es clock l):es.toList.length=l.length:=by
 have:=congrArg List.length h.1
 simpa using this
theorem iL.find(K:tS P k ok enc)(h:iL ok enc ev es clock l)(w:World)(a:α)(C:ok a) :
 ((Instr.findKey k (enc a) es.toList).run P w=.ok none w/\∀p∈l,p.1≠a) \/
 ∃j v e,(Instr.findKey k (enc a) es.toList).run P w=.ok (some (j,ev v)) w/\l[j]?=some (a,v)/\es.toList[j]?=some e/\e.key=enc a/\e.val=ev v:=by
 obtain⟨x,I⟩:=K.key a C
 have f:∀e∈es.toList,∃y,keyOf P k e.key=some y:=fun e G=>by
  obtain⟨j,g⟩:=List.getElem?_of_mem G;obtain⟨d,v,-,c,-,E⟩:=h.get g;rw[c];exact K.key d E
 rcases K.law.find w I es.toList f with⟨s,c⟩|⟨j,e,s,c,B⟩
 ·refine .inl ⟨s,fun p H z=>?_⟩
  obtain⟨j,g⟩:=List.getElem?_of_mem H;have u:=(List.getElem?_eq_some_iff.1 g).1;have i:j<es.toList.length:=by rw[h.len];exact u
  obtain⟨d,v,m,q,-,-⟩:=h.get (List.getElem?_eq_getElem i);rw[m] at g;cases g
  exact c _ (List.getElem_mem i) (by rw[q,←z])
 ·obtain⟨d,v,m,q,A,D⟩:=h.get c
  have:d=a:=K.inj d a D C (by rw[←q,B]);subst this;exact .inr ⟨j,v,e,by rw[s,A],m,c,B,A⟩
def xC[DecidableEq α](l:List (α×β))(a:α):Option β:=(l.find? fun p=>decide (p.1=a)).map (·.2)
theorem Hu[DecidableEq α]{a:α}(h:∀p∈l,p.1≠a):xC l a=none:=by
 unfold xC;rw[List.find?_eq_none.2 (fun p c=>by simpa using h p c)];rfl
theorem L8[DecidableEq α]{a:α}{v:β}(c:(l.map (·.1)).Nodup)(h:l[j]?=some (a,v)):xC l a=some v:=by
 induction l generalizing j with
 | nil=>simp at h
 | cons p l g =>
   rw[List.map_cons,List.nodup_cons] at c;cases j with
   | zero =>
     simp only[List.getElem?_cons_zero,Option.some.injEq] at h;subst h;simp[xC]
   | succ j =>
     rw[List.getElem?_cons_succ] at h;have f:a∈l.map (·.1):=List.mem_map.2 ⟨_,List.mem_of_getElem? h,rfl⟩;have d:p.1≠a:=fun e=>c.1 (e▸f)
     have:=g c.2 h
     simpa [xC,d] using this
def eD[DecidableEq α](l:List (α×β))(a:α)(v:β):List (α×β):=
 if l.any (fun p=>decide (p.1=a)) then l.map (fun p=>if p.1=a then (a,v) else p) else l++[(a,v)]
theorem wL[DecidableEq α]{a:α}(h:∀p∈l,p.1≠a)(v:β):eD l a v=l++[(a,v)]:=by
 unfold eD;rw[if_neg];simp only[List.any_eq_true,not_exists,not_and];intro p c
 simpa using h p c
theorem A4[DecidableEq α]{a:α}{u:β}(C:(l.map (·.1)).Nodup)(h:l[j]?=some (a,u))(v:β):eD l a v=l.set j (a,v):=by
 unfold eD;rw[if_pos (by simp only[List.any_eq_true];exact⟨_,List.mem_of_getElem? h,by simp⟩)];apply List.ext_getElem?;intro i;rw[List.getElem?_map,List.getElem?_set];have B:=(List.getElem?_eq_some_iff.1 h).1
 by_cases c:j=i
 ·subst c
  rw[if_pos rfl,if_pos B,h];simp
 ·rw[if_neg c]
  rcases A:l[i]? with _|p
  ·rfl
  ·have m:p.1≠a:=by
    intro e;apply c;have y:(l.map (·.1))[j]?=some a:=by rw[List.getElem?_map,h];rfl
    have z:(l.map (·.1))[i]?=some a:=by rw[List.getElem?_map,A,Option.map_some,e]
    obtain⟨f,q⟩:=List.getElem?_eq_some_iff.1 y;obtain⟨d,s⟩:=List.getElem?_eq_some_iff.1 z;have x:=List.pairwise_iff_getElem.1 C;rcases Nat.lt_trichotomy j i with g|g|g
    ·exact absurd (q.trans s.symm) (x j i f d g)
    ·exact g
    ·exact absurd (s.trans q.symm) (x i j d f g)
   simp[m]
theorem kT(w:World)(b:Nat)(o:Obj):aA (fun i=>i=b) w (setBlock w b o):=by
 refine⟨rfl,rfl,rfl,by simp[setBlock],fun i d c=>?_⟩;simp only[setBlock];rw[Array.getElem?_setIfInBounds_ne (fun e=>c e.symm)]
theorem jJ{o':Obj}(h:w.heap[b]?=some o'):(setBlock w b o).heap[b]?=some o:=by
 have:=(Array.getElem?_eq_some_iff.1 h).1;simp only[setBlock];rw[Array.getElem?_setIfInBounds_self_of_lt this]
theorem BV(h:w.heap[b]?=some o):setBlock w b o=w:=by
 have c:=(Array.getElem?_eq_some_iff.1 h).1
 have:w.heap.setIfInBounds b o=w.heap:=by
  apply Array.ext_getElem?;intro i
  by_cases d:i=b
  ·subst d;rw[Array.getElem?_setIfInBounds_self_of_lt c,h]
  ·rw[Array.getElem?_setIfInBounds_ne (fun e=>d e.symm)]
 unfold setBlock;rw[this]
def Ob(enc:α->Value)(w:World)(b:Nat)(a:α)(st:Nat):Prop:=∃es clock e,w.heap[b]?=some (.map es clock)/\e∈es.toList/\e.key=enc a/\e.born=st
theorem cS.entry[DecidableEq α](h:cS ok enc ev w b l)(K:tS P k ok enc){t e:TypeId}(N:P.underlying t=some (.map k e)){z:β}(S:(zeroValue e).run P w=.ok (ev z) w)(a:α)(I:ok a) :
 ∃(st:Nat) (E:World),(Instr.mapEntry t (.map (some b)) (enc a)).run P w=.ok (.tuple #[ev ((xC l a).getD z),goInt st]) E/\cS ok enc ev E b (eD l a ((xC l a).getD z))/\aA (fun i=>i=b) w E/\Ob enc E b a st:=by
 obtain⟨es,clock,m,f⟩:=h;obtain⟨x,J⟩:=K.key a I;rcases f.find K w a I with⟨G,q⟩|⟨j,v,A,G,q,B,H,T⟩
 ·rw[Hu q,wL q]
  refine⟨clock,setBlock w b (.map (es.push ⟨enc a,ev z,clock⟩) (clock+1)),?_,⟨_,_,jJ m,?_,?_,?_,?_,?_⟩,kT _ _ _,⟨_,_,⟨enc a,ev z,clock⟩,jJ m,by simp,rfl,rfl⟩⟩
  ·simp[Instr.mapEntry,run_underlying N,MapKept.run_getObj_map m,K.law.check w false J,G,S,MapKept.run_setObj_map _ m,Result.andThen,setBlock]
  ·simp[f.1]
  ·simp only[Array.toList_push,List.map_append,List.map_cons,List.map_nil]
   refine List.nodup_append.2 ⟨f.2.1,by simp,fun p g c D L=>?_⟩;simp only[List.mem_singleton] at D;obtain⟨y,s,rfl⟩:=List.mem_map.1 g;have:=f.2.2.1 y s;omega
  ·intro y s
   simp only[Array.toList_push,List.mem_append,List.mem_singleton] at s;rcases s with s|rfl
   ·have:=f.2.2.1 y s;omega
   ·exact Nat.lt_succ_self _
  ·rw[List.map_append]
   refine List.nodup_append.2 ⟨f.2.2.2.1,by simp,fun p g c D L=>?_⟩;obtain⟨y,s,rfl⟩:=List.mem_map.1 g;simp at D;subst D;exact q y s L
  ·intro p g
   rcases List.mem_append.1 g with g|g
   ·exact f.2.2.2.2 p g
   ·simp at g;subst g;exact I
 ·rw[L8 f.2.2.2.1 q,Option.getD_some,A4 f.2.2.2.1 q]
  have C:l.set j (a,v)=l:=by
   apply List.ext_getElem?;intro i;rw[List.getElem?_set]
   by_cases d:j=i
   ·subst d;rw[if_pos rfl,if_pos (List.getElem?_eq_some_iff.1 q).1,q]
   ·rw[if_neg d]
  have R:es[j]?=some A:=by simpa using B
  have u:es.modify j (fun e=>{ e with key:=enc a })=es:=by
   apply Array.ext';rw[Array.toList_modify,modify_eq_set _ _ _ _ B];have:({ A with key:=enc a }:MapEntry)=A:=by rw[←H]
   rw[this];apply List.ext_getElem?;intro i;rw[List.getElem?_set]
   by_cases d:j=i
   ·subst d;rw[if_pos rfl,if_pos (List.getElem?_eq_some_iff.1 B).1,B]
   ·rw[if_neg d]
  rw[C];refine⟨A.born,w,?_,⟨es,clock,m,f⟩,aA.refl _ _,⟨es,clock,A,m,List.mem_of_getElem? B,H,rfl⟩⟩;have M:=BV m;unfold setBlock at M;simp[Instr.mapEntry,run_underlying N,MapKept.run_getObj_map m,K.law.check w false J,G,R,H,K.law.stays w J,u,MapKept.run_setObj_map _ m,Result.andThen,M]
end
open Go.RowKit Go.Maps Go.ChangeMaps
set_option linter.unusedVariables false
section
variable {α β:Type}{P:Program}{k:TypeId}{ok:α->Prop}{enc:α->Value}{ev:β->Value}{w:World}{b:Nat}{l:List (α×β)}
variable{es:Array MapEntry}{clock r:Nat}{t e:TypeId}
theorem iL.setVal(h:iL ok enc ev es clock l){j:Nat}{a:α}{u:β}(x:l[j]?=some (a,u)){f:MapEntry}(m:es.toList[j]?=some f)(A:f.key=enc a)(v:β) :
 iL ok enc ev (es.modify j fun e=>{ e with key:=enc a,val:=ev v }) clock (l.set j (a,v)):=by
 have y:(es.modify j fun e=>{ e with key:=enc a,val:=ev v }).toList=es.toList.set j { f with key:=enc a,val:=ev v }:=by
  rw[Array.toList_modify,modify_eq_set _ _ _ _ m]
 have s:=(List.getElem?_eq_some_iff.1 x).1;have q:=(List.getElem?_eq_some_iff.1 m).1;refine⟨?_,?_,?_,?_,?_⟩
 ·rw[y,List.map_set,List.map_set,h.1]
 ·rw[y,List.map_set]
  have:(es.toList.map (·.born)).set j f.born=es.toList.map (·.born):=by
   apply List.ext_getElem?;intro i;rw[List.getElem?_set]
   by_cases c:j=i
   ·subst c;rw[if_pos rfl,if_pos (by simpa using q),List.getElem?_map,m];rfl
   ·rw[if_neg c]
  rw[this];exact h.2.1
 ·intro e g
  rw[y] at g;rcases List.mem_or_eq_of_mem_set g with d|d
  ·exact h.2.2.1 e d
  ·rw[d];exact h.2.2.1 f (List.mem_of_getElem? m)
 ·rw[List.map_set]
  have:(l.map (·.1)).set j a=l.map (·.1):=by
   apply List.ext_getElem?;intro i;rw[List.getElem?_set]
   by_cases c:j=i
   ·subst c;rw[if_pos rfl,if_pos (by simpa using s),List.getElem?_map,x];rfl
   ·rw[if_neg c]
  rw[this];exact h.2.2.2.1
 ·intro p z
  rcases List.mem_or_eq_of_mem_set z with d|d
  ·exact h.2.2.2.2 p d
  ·rw[d];exact h.2.2.2.2 (a,u) (List.mem_of_getElem? x)
theorem iL.push(h:iL ok enc ev es clock l){a:α}(m:ok a)(q:∀p∈l,p.1≠a)(v:β):iL ok enc ev (es.push ⟨enc a,ev v,clock⟩) (clock+1) (l++[(a,v)]):=by
 refine⟨by simp[h.1],?_,?_,?_,?_⟩
 ·simp only[Array.toList_push,List.map_append,List.map_cons,List.map_nil]
  refine List.nodup_append.2 ⟨h.2.1,by simp,fun p d c g i=>?_⟩;simp only[List.mem_singleton] at g;obtain⟨y,f,rfl⟩:=List.mem_map.1 d;have:=h.2.2.1 y f;omega
 ·intro y f
  simp only[Array.toList_push,List.mem_append,List.mem_singleton] at f;rcases f with f|rfl
  ·have:=h.2.2.1 y f;omega
  ·exact Nat.lt_succ_self _
 ·rw[List.map_append]
  refine List.nodup_append.2 ⟨h.2.2.2.1,by simp,fun p d c g i=>?_⟩;obtain⟨y,f,rfl⟩:=List.mem_map.1 d;simp at g;subst g;exact q y f i
 ·intro p d
  rcases List.mem_append.1 d with d|d
  ·exact h.2.2.2.2 p d
  ·simp at d;subst d;exact m
theorem cS.update[DecidableEq α](h:cS ok enc ev w b l)(K:tS P k ok enc)(z:P.underlying t=some (.map k e))(a:α)(m:ok a)(v:β) :
 ∃q,(Instr.mapUpdate t (.map (some b)) (enc a) (ev v)).run P w=.ok () q/\cS ok enc ev q b (eD l a v)/\aA (fun i=>i=b) w q:=by
 obtain⟨es,clock,c,f⟩:=h;obtain⟨x,p⟩:=K.key a m;rcases f.find K w a m with⟨g,d⟩|⟨j,u,A,g,d,s,y,C⟩
 ·rw[wL d]
  refine⟨setBlock w b (.map (es.push ⟨enc a,ev v,clock⟩) (clock+1)),?_,⟨_,_,jJ c,f.push m d v⟩,kT _ _ _⟩;simp[Instr.mapUpdate,run_underlying z,MapKept.run_getObj_map c,K.law.check w false p,g,MapKept.run_setObj_map _ c,Result.andThen,setBlock]
 ·rw[A4 f.2.2.2.1 d]
  have B:es[j]?=some A:=by simpa using s
  refine⟨setBlock w b (.map (es.modify j fun x=>{ x with key:=enc a,val:=ev v }) clock),?_,⟨_,_,jJ c,f.setVal d s y v⟩,kT _ _ _⟩;simp[Instr.mapUpdate,run_underlying z,MapKept.run_getObj_map c,K.law.check w false p,g,B,y,K.law.stays w p,MapKept.run_setObj_map _ c,Result.andThen,setBlock]
def dS(ok:α->Prop)(enc:α->Value)(ev:β->Value)(w:World)(b r:Nat)(l left:List (α×β)):Prop:=
 ∃es clock c d c0,w.heap[b]?=some (.map es clock)/\iL ok enc ev es clock l/\w.heap[r]?=some (.mapIter (some b) c d c0)/\(∀x∈es.toList,x.born<c)/\c≤c0/\c≤clock /\
  (leftOf es d).toList.map (fun e=>(e.key,e.val))=left.map (fun p=>(enc p.1,ev p.2))/\(∀p∈left,p∈l)
theorem dS.keep{w':World}{S:Nat->Prop}{left:List (α×β)}(h:dS ok enc ev w b r l left)(k:aA S w w')(p:¬S b)(s:¬S r):dS ok enc ev w' b r l left:=by
 obtain⟨es,clock,c,d,c0,i,q,m,h⟩:=h;have g:b<w.heap.size:=(Array.getElem?_eq_some_iff.1 i).1;have f:r<w.heap.size:=(Array.getElem?_eq_some_iff.1 m).1;exact⟨es,clock,c,d,c0,by rw[k.block b g p];exact i,q,by rw[k.block r f s];exact m,h⟩
theorem dS.ne{left:List (α×β)}(h:dS ok enc ev w b r l left):r≠b:=by
 obtain⟨es,clock,c,f,c0,g,i,d,-⟩:=h;intro e;rw[e,g] at d;cases d
theorem cS.range(h:cS ok enc ev w b l)(m:P.underlying t=some (.map k e)) :
 ∃c,(Instr.range t (.map (some b))).run P w=.ok (.pointer (w.heap.size)) c/\dS ok enc ev c b w.heap.size l l/\aA aB w c/\c.heap.size=w.heap.size+1:=by
 obtain⟨es,clock,d,f⟩:=h;have g:b<w.heap.size:=(Array.getElem?_eq_some_iff.1 d).1;have K:=(aA.refl aB w).alloc (.mapIter (some b) clock #[] clock);refine⟨w.alloc (.mapIter (some b) clock #[] clock),?_,⟨es,clock,clock,#[],clock,?_,f,heap_alloc_new _ _,f.2.2.1,Nat.le_refl _,Nat.le_refl _,?_,fun p i=>i⟩,K,World.size_alloc _ _⟩
 ·simp[Instr.range,run_underlying m,MapKept.run_getObj_map d,Result.andThen]
 ·rw[K.block b g id];exact d
 ·have:leftOf es #[]=es:=by unfold leftOf;exact Array.filter_eq_self.2 (fun x q=>by simp)
  rw[this];exact f.1
def rJ(enc:α->Value)(ev:β->Value)(w:World)(b r:Nat)(a:α)(v:β):Prop:=(∀P:Program,(Instr.entry (.pointer r)).run P w=.ok (.tuple #[enc a,ev v]) w)
theorem dS.next{left:List (α×β)}(h:dS ok enc ev w b r l left)(X:TypeId) :
 (left=[]/\(Instr.next (.pointer r) false X).run P w=.ok (.tuple #[.bool false]) w) \/
 ∃i a v H,left[i]?=some (a,v)/\ok a/\(Instr.next (.pointer r) false X).run P w=.ok (.tuple #[.bool true,enc a,ev v]) H/\dS ok enc ev H b r l (left.eraseIdx i)/\aA (fun k=>k=r) w H/\H.heap.size=w.heap.size/\rJ enc ev H b r a v:=by
 have V:=h.ne;obtain⟨es,clock,d,c,c0,N,L,Z,s,W,A,f,u⟩:=h
 have hlen:(leftOf es c).size=left.length:=by
  have:=congrArg List.length f
  simpa using this
 rcases run_next_at (P:=P) w X r b d c0 c es clock Z N s W with⟨h0,m⟩|⟨e,J,I,G,m⟩
 ·exact .inl ⟨List.eq_nil_of_length_eq_zero (by omega),m⟩
 ·right
  obtain⟨i,D⟩:=List.getElem?_of_mem J;have g:=congrArg (fun x=>x[i]?) f;simp only[List.getElem?_map,D,Option.map_some] at g;rcases K:left[i]? with _|⟨a,v⟩
  ·rw[K] at g;simp at g
  rw[K] at g;simp only[Option.map_some,Option.some.injEq,Prod.mk.injEq] at g;have S:aA aB w I:=by rcases G with rfl|rfl;exact aA.refl _ _;exact(aA.refl _ _).drew
  have E:I.heap=w.heap:=by rcases G with rfl|rfl<;>rfl
  have hk:aA (fun k=>k=r) w (setBlock I r (.mapIter (some b) d (c.push e.born) clock)):=S.trans' (kT _ _ _) (fun _ _ h=>h.elim) (fun _ _ h=>h);have R:b<w.heap.size:=(Array.getElem?_eq_some_iff.1 N).1;have z:(setBlock I r (.mapIter (some b) d (c.push e.born) clock)).heap[b]?=some (.map es clock):=by rw[hk.block b R (fun e=>V e.symm)];exact N
  have C:(setBlock I r (.mapIter (some b) d (c.push e.born) clock)).heap[r]?=some (.mapIter (some b) d (c.push e.born) clock):=jJ (o':=.mapIter (some b) d c c0) (by rw[E];exact Z);have B:e∈es.toList:=by unfold leftOf at J;simp at J;simpa using J.1
  refine⟨i,a,v,_,K,L.2.2.2.2 _ (u _ (List.mem_of_getElem? K)),by rw[←g.1,←g.2];exact m,⟨es,clock,d,c.push e.born,clock,z,L,C,s,A,A,?_,?_⟩,hk,by simp[setBlock,E],fun P=>?_⟩
  ·have hf:(leftOf es (c.push e.born)).toList=(leftOf es c).toList.eraseIdx i:=by
    have Y:(leftOf es c).toList=es.toList.filter fun x=>!c.contains x.born:=by simp[leftOf]
    have M:(leftOf es (c.push e.born)).toList=(leftOf es c).toList.filter fun x=>!(x.born == e.born):=by
     rw[Y,List.filter_filter];simp only[leftOf,Array.toList_filter];apply List.filter_congr;intro x _;simp only[Array.contains_push];cases x.born == e.born<;>simp
    rw[M];refine filter_eq_eraseIdx (fun x:MapEntry=>x.born == e.born) _ i e D (by simp) ?_;have T:((leftOf es c).toList.map (·.born)).Nodup:=by rw[Y];exact(List.filter_sublist.map _).nodup L.2.1
    refine(List.pairwise_map.1 T).imp fun {p q} U y=>?_
    simp only[beq_iff_eq] at y;exact U (y.1.trans y.2.symm)
   rw[hf,map_eraseIdx,map_eraseIdx,f]
  ·exact fun p hp=>u p ((List.eraseIdx_sublist left i).subset hp)
  ·rw[←g.1,←g.2]
   exact run_entry_at _ r b d c es clock e C z B L.2.1
end
open Go.RowKit Go.Maps Go.ChangeMaps
set_option linter.unusedVariables false
section
variable {α β:Type}{F:Fence}{n:Nat}{P:Program}{k:TypeId}{ok:α->Prop}{enc:α->Value}{ev:β->Value}{w:World}{b:Nat}{l:List (α×β)}
variable {ops:Array Oper}{rest:List Oper}{o:Oper}{a:Act}{Q:Exit->Act->World->Prop}
theorem wD(s:o.guard=none)(m:Operand)(t:TypeId)(d:o.op=Op.range t m){k e:TypeId}(v:P.underlying t=some (.map k e))(u:a.eval m=.map (some b))(h:cS ok enc ev w b l)
 (q:∀f,dS ok enc ev f b w.heap.size l l->aA aB w f->f.heap.size=w.heap.size+1->wpListIn F n P ops Q rest (a.put o.dst (.pointer (w.heap.size))) f) :
 wpListIn F n P ops Q (o::rest) a w:=by
 refine wpListIn_plain s fun A i=>?_
 obtain⟨f,g,x,y,z⟩:=h.range v;unfold Oper.wpIn;refine⟨by simp[Oper.about,d],?_⟩;rw[Oper.semAt_plain F _ _ (by rw[d];intro c p;cases p)];simp[execOp,d,u,g,Result.andThen];exact i _ _ (q f x y z)
theorem xD(G:o.guard=none)(y:Operand)(f:o.op=Op.next y false){r:Nat}{left:List (α×β)}(s:a.eval y=.pointer r)(h:dS ok enc ev w b r l left)
 (g:left=[]->wpListIn F n P ops Q rest (a.put o.dst (.tuple #[.bool false])) w)
 (m:∀i x v p,left[i]?=some (x,v)->ok x->dS ok enc ev p b r l (left.eraseIdx i)->aA (fun k=>k=r) w p->p.heap.size=w.heap.size->rJ enc ev p b r x v->wpListIn F n P ops Q rest (a.put o.dst (.tuple #[.bool true,enc x,ev v])) p) :
 wpListIn F n P ops Q (o::rest) a w:=by
 refine wpListIn_plain G fun H q=>?_
 unfold Oper.wpIn;refine⟨by simp[Oper.about,f],?_⟩;rw[Oper.semAt_plain F _ _ (by rw[f];intro c u;cases u)];rcases h.next (P:=P) o.type with⟨h0,d⟩|⟨i,x,v,p,z,A,d,B,C,D,E⟩
 ·simp[execOp,f,s,d,Result.andThen]
  exact q _ _ (g h0)
 ·simp[execOp,f,s,d,Result.andThen]
  exact q _ _ (m i x v p z A B C D E)
theorem wF(q:o.guard=none)(m:Operand)(d:o.op=Op.entry m){r:Nat}{x:α}{v:β}(i:a.eval m=.pointer r)(h:rJ enc ev w b r x v)
 (p:wpListIn F n P ops Q rest (a.put o.dst (.tuple #[enc x,ev v])) w):wpListIn F n P ops Q (o::rest) a w:=by
 refine wpListIn_plain q fun s f=>?_
 unfold Oper.wpIn;refine⟨by simp[Oper.about,d],?_⟩;rw[Oper.semAt_plain F _ _ (by rw[d];intro c g;cases g)];simp[execOp,d,i,h P,Result.andThen];exact f _ _ p
theorem mA[DecidableEq α](B:o.guard=none)(A:o.dst=none)(m x v:Operand)(t:TypeId)(p:o.op=Op.mapUpdate t m x v)(K:tS P k ok enc){e:TypeId}(D:P.underlying t=some (.map k e))
 (c:α) (z:ok c) (u:β) (C:a.eval m=.map (some b)) (G:a.eval x=enc c) (E:a.eval v=ev u) (h:cS ok enc ev w b l)
 (y:∀f:World,cS ok enc ev f b (eD l c u)->aA (fun i=>i=b) w f->wpList P ops Q rest a f):wpList P ops Q (o::rest) a w:=by
 refine wpList_plain B fun H g=>?_
 obtain⟨f,d,q,s⟩:=h.update K D c z u;unfold Oper.wp;simp[execOp,p,C,G,E,d,Result.andThen];exact g _ _ (by simpa [A,Act.put] using y f q s)
end
end
end Go.Proofs.YtiinnfhjpaeffaaGreat
