import Derived.Test.YtoeinblfcbpcmaaGreatR1
import Derived.Maps.Keyed
import Derived.Maps.RangeRun
import Derived.Maps.RangeWalk
import Derived.WideKeyEntry
import Derived.DeepKeys5
import Derived.Sort.MapsRangeIn
namespace Go.Proofs.YtoeinblfcbpcmaaGreat
set_option maxHeartbeats 0
set_option maxRecDepth 100000
set_option linter.unusedVariables false
section
open Go.RowKit Go.Maps Go.ChangeMaps
section
variable {α β:Type}{P:Program}{k:TypeId}{ok:α->Prop}{enc:α->Value}{ev:β->Value}{w:World}{b:Nat}{l:List (α×β)}
structure tA(P:Program)(k:TypeId)(ok:α->Prop)(enc:α->Value):Prop where
 law:Keyed P k
 key:∀a,ok a->∃x,keyOf P k (enc a)=some x
 inj:∀a c,ok a->ok c->enc a=enc c->a=c
def iW(ok:α->Prop)(enc:α->Value)(ev:β->Value)(es:Array MapEntry)(clock:Nat)(l:List (α×β)):Prop:=
 es.toList.map (fun e=>(e.key,e.val))=l.map (fun p=>(enc p.1,ev p.2))/\(es.toList.map (·.born)).Nodup/\(∀e∈es.toList,e.born<clock)/\(l.map (·.1)).Nodup/\∀p∈l,ok p.1
def cH(ok:α->Prop)(enc:α->Value)(ev:β->Value)(w:World)(b:Nat)(l:List (α×β)):Prop:=
 ∃es clock,w.heap[b]?=some (.map es clock)/\iW ok enc ev es clock l
variable{w' w:World}{S:Nat->Prop}{es:Array MapEntry}{clock j b:Nat}{o:Obj}
theorem cH.keep(h:cH ok enc ev w b l)(k:aA S w w')(f:¬S b):cH ok enc ev w' b l:=by
 obtain⟨es,clock,d,g⟩:=h;have c:b<w.heap.size:=(Array.getElem?_eq_some_iff.1 d).1;exact⟨es,clock,by rw[k.block b c f];exact d,g⟩
theorem cH.made(w:World):cH ok enc ev (w.alloc (.map #[] 0)) w.heap.size ([]:List (α×β)):=
 ⟨#[],0,heap_alloc_new _ _,by simp[iW]⟩
theorem iW.get(h:iW ok enc ev es clock l){e:MapEntry}(f:es.toList[j]?=some e):∃a v,l[j]?=some (a,v)/\e.key=enc a/\e.val=ev v/\ok a:=by
 have c:=congrArg (fun x=>x[j]?) h.1;simp only[List.getElem?_map,f,Option.map_some] at c;rcases d:l[j]? with _|⟨a,v⟩
 ·rw[d] at c;simp at c
 ·rw[d] at c
  simp only[Option.map_some,Option.some.injEq,Prod.mk.injEq] at c;exact⟨a,v,rfl,c.1,c.2,h.2.2.2.2 _ (List.mem_of_getElem? d)⟩
theorem iW.len(h:iW ok enc ev es clock l):es.toList.length=l.length:=by
 have:=congrArg List.length h.1
 simpa using this
theorem iW.find(K:tA P k ok enc)(h:iW ok enc ev es clock l)(w:World)(a:α)(C:ok a) :
 ((Instr.findKey k (enc a) es.toList).run P w=.ok none w/\∀p∈l,p.1≠a) \/
 ∃j v e,(Instr.findKey k (enc a) es.toList).run P w=.ok (some (j,ev v)) w/\l[j]?=some (a,v)/\es.toList[j]?=some e/\e.key=enc a/\e.val=ev v:=by
 obtain⟨x,I⟩:=K.key a C
 have f:∀e∈es.toList,∃y,keyOf P k e.key=some y:=fun e G=>by
  obtain⟨j,g⟩:=List.getElem?_of_mem G;obtain⟨d,v,-,c,-,E⟩:=h.get g;rw[c];exact K.key d E
 rcases K.law.find w I es.toList f with⟨s,c⟩|⟨j,e,s,c,B⟩
 ·refine .inl ⟨s,fun p H z=>?_⟩
  obtain⟨j,g⟩:=List.getElem?_of_mem H;have u:=(List.getElem?_eq_some_iff.1 g).1;have i:j<es.toList.length:=by rw[h.len];exact u
  obtain⟨d,v,m,q,-,-⟩:=h.get (List.getElem?_eq_getElem i);rw[m] at g;cases g
  exact c _ (List.getElem_mem i) (by rw[q,←z])
 ·obtain⟨d,v,m,q,A,D⟩:=h.get c
  have:d=a:=K.inj d a D C (by rw[←q,B]);subst this;exact .inr ⟨j,v,e,by rw[s,A],m,c,B,A⟩
def zR[DecidableEq α](l:List (α×β))(a:α):Option β:=(l.find? fun p=>decide (p.1=a)).map (·.2)
theorem JC[DecidableEq α]{a:α}(h:∀p∈l,p.1≠a):zR l a=none:=by
 unfold zR;rw[List.find?_eq_none.2 (fun p c=>by simpa using h p c)];rfl
theorem Oc[DecidableEq α]{a:α}{v:β}(c:(l.map (·.1)).Nodup)(h:l[j]?=some (a,v)):zR l a=some v:=by
 induction l generalizing j with
 | nil=>simp at h
 | cons p l g =>
   rw[List.map_cons,List.nodup_cons] at c;cases j with
   | zero =>
     simp only[List.getElem?_cons_zero,Option.some.injEq] at h;subst h;simp[zR]
   | succ j =>
     rw[List.getElem?_cons_succ] at h;have f:a∈l.map (·.1):=List.mem_map.2 ⟨_,List.mem_of_getElem? h,rfl⟩;have d:p.1≠a:=fun e=>c.1 (e▸f)
     have:=g c.2 h
     simpa [zR,d] using this
def dW[DecidableEq α](l:List (α×β))(a:α)(v:β):List (α×β):=
 if l.any (fun p=>decide (p.1=a)) then l.map (fun p=>if p.1=a then (a,v) else p) else l++[(a,v)]
theorem yX[DecidableEq α]{a:α}(h:∀p∈l,p.1≠a)(v:β):dW l a v=l++[(a,v)]:=by
 unfold dW;rw[if_neg];simp only[List.any_eq_true,not_exists,not_and];intro p c
 simpa using h p c
theorem wF[DecidableEq α]{a:α}{u:β}(C:(l.map (·.1)).Nodup)(h:l[j]?=some (a,u))(v:β):dW l a v=l.set j (a,v):=by
 unfold dW;rw[if_pos (by simp only[List.any_eq_true];exact⟨_,List.mem_of_getElem? h,by simp⟩)];apply List.ext_getElem?;intro i;rw[List.getElem?_map,List.getElem?_set];have B:=(List.getElem?_eq_some_iff.1 h).1
 by_cases c:j=i
 ·subst c
  rw[if_pos rfl,if_pos B,h];simp
 ·rw[if_neg c]
  rcases A:l[i]? with _|p
  ·rfl
  ·have m:p.1≠a:=by
    intro e;apply c;have y:(l.map (·.1))[j]?=some a:=by rw[List.getElem?_map,h];rfl
    have z:(l.map (·.1))[i]?=some a:=by rw[List.getElem?_map,A,Option.map_some,e]
    obtain⟨f,q⟩:=List.getElem?_eq_some_iff.1 y;obtain⟨d,s⟩:=List.getElem?_eq_some_iff.1 z;have x:=List.pairwise_iff_getElem.1 C;rcases Nat.lt_trichotomy j i with g|g|g
    ·exact absurd (q.trans s.symm) (x j i f d g)
    ·exact g
    ·exact absurd (s.trans q.symm) (x i j d f g)
   simp[m]
theorem jI(w:World)(b:Nat)(o:Obj):aA (fun i=>i=b) w (setBlock w b o):=by
 refine⟨rfl,rfl,rfl,by simp[setBlock],fun i d c=>?_⟩;simp only[setBlock];rw[Array.getElem?_setIfInBounds_ne (fun e=>c e.symm)]
theorem iP{o':Obj}(h:w.heap[b]?=some o'):(setBlock w b o).heap[b]?=some o:=by
 have:=(Array.getElem?_eq_some_iff.1 h).1;simp only[setBlock];rw[Array.getElem?_setIfInBounds_self_of_lt this]
theorem Dt(h:w.heap[b]?=some o):setBlock w b o=w:=by
 have c:=(Array.getElem?_eq_some_iff.1 h).1
 have:w.heap.setIfInBounds b o=w.heap:=by
  apply Array.ext_getElem?;intro i
  by_cases d:i=b
  ·subst d;rw[Array.getElem?_setIfInBounds_self_of_lt c,h]
  ·rw[Array.getElem?_setIfInBounds_ne (fun e=>d e.symm)]
 unfold setBlock;rw[this]
def AK(enc:α->Value)(w:World)(b:Nat)(a:α)(st:Nat):Prop:=∃es clock e,w.heap[b]?=some (.map es clock)/\e∈es.toList/\e.key=enc a/\e.born=st
theorem cH.entry[DecidableEq α](h:cH ok enc ev w b l)(K:tA P k ok enc){t e:TypeId}(L:P.underlying t=some (.map k e)){z:β}(N:(zeroValue e).run P w=.ok (ev z) w)(a:α)(G:ok a) :
 ∃(st:Nat) (w':World),(Instr.mapEntry t (.map (some b)) (enc a)).run P w=.ok (.tuple #[ev ((zR l a).getD z),goInt st]) w'/\cH ok enc ev w' b (dW l a ((zR l a).getD z))/\aA (fun i=>i=b) w w'/\AK enc w' b a st:=by
 obtain⟨es,clock,m,f⟩:=h;obtain⟨x,H⟩:=K.key a G;rcases f.find K w a G with⟨D,q⟩|⟨j,v,e0,D,q,A,E,R⟩
 ·rw[JC q,yX q]
  refine⟨clock,setBlock w b (.map (es.push ⟨enc a,ev z,clock⟩) (clock+1)),?_,⟨_,_,iP m,?_,?_,?_,?_,?_⟩,jI _ _ _,⟨_,_,⟨enc a,ev z,clock⟩,iP m,by simp,rfl,rfl⟩⟩
  ·simp[Instr.mapEntry,run_underlying L,MapKept.run_getObj_map m,K.law.check w false H,D,N,MapKept.run_setObj_map _ m,Result.andThen,setBlock]
  ·simp[f.1]
  ·simp only[Array.toList_push,List.map_append,List.map_cons,List.map_nil]
   refine List.nodup_append.2 ⟨f.2.1,by simp,fun p g c C I=>?_⟩;simp only[List.mem_singleton] at C;obtain⟨y,s,rfl⟩:=List.mem_map.1 g;have:=f.2.2.1 y s;omega
  ·intro y s
   simp only[Array.toList_push,List.mem_append,List.mem_singleton] at s;rcases s with s|rfl
   ·have:=f.2.2.1 y s;omega
   ·exact Nat.lt_succ_self _
  ·rw[List.map_append]
   refine List.nodup_append.2 ⟨f.2.2.2.1,by simp,fun p g c C I=>?_⟩;obtain⟨y,s,rfl⟩:=List.mem_map.1 g;simp at C;subst C;exact q y s I
  ·intro p g
   rcases List.mem_append.1 g with g|g
   ·exact f.2.2.2.2 p g
   ·simp at g;subst g;exact G
 ·rw[Oc f.2.2.2.1 q,Option.getD_some,wF f.2.2.2.1 q]
  have B:l.set j (a,v)=l:=by
   apply List.ext_getElem?;intro i;rw[List.getElem?_set]
   by_cases d:j=i
   ·subst d;rw[if_pos rfl,if_pos (List.getElem?_eq_some_iff.1 q).1,q]
   ·rw[if_neg d]
  have M:es[j]?=some e0:=by simpa using A
  have u:es.modify j (fun e=>{ e with key:=enc a })=es:=by
   apply Array.ext';rw[Array.toList_modify,modify_eq_set _ _ _ _ A];have:({ e0 with key:=enc a }:MapEntry)=e0:=by rw[←E]
   rw[this];apply List.ext_getElem?;intro i;rw[List.getElem?_set]
   by_cases d:j=i
   ·subst d;rw[if_pos rfl,if_pos (List.getElem?_eq_some_iff.1 A).1,A]
   ·rw[if_neg d]
  rw[B];refine⟨e0.born,w,?_,⟨es,clock,m,f⟩,aA.refl _ _,⟨es,clock,e0,m,List.mem_of_getElem? A,E,rfl⟩⟩;have J:=Dt m;unfold setBlock at J;simp[Instr.mapEntry,run_underlying L,MapKept.run_getObj_map m,K.law.check w false H,D,M,E,K.law.stays w H,u,MapKept.run_setObj_map _ m,Result.andThen,J]
end
open Go.RowKit Go.Maps Go.ChangeMaps
set_option linter.unusedVariables false
section
variable {α β:Type}{P:Program}{k:TypeId}{ok:α->Prop}{enc:α->Value}{ev:β->Value}{w:World}{b:Nat}{l:List (α×β)}
variable{j clock r:Nat}{e0:MapEntry}{es:Array MapEntry}{t e:TypeId}
theorem iW.setVal(h:iW ok enc ev es clock l){a:α}{u:β}(s:l[j]?=some (a,u))(g:es.toList[j]?=some e0)(z:e0.key=enc a)(v:β) :
 iW ok enc ev (es.modify j fun e=>{ e with key:=enc a,val:=ev v }) clock (l.set j (a,v)):=by
 have x:(es.modify j fun e=>{ e with key:=enc a,val:=ev v }).toList=es.toList.set j { e0 with key:=enc a,val:=ev v }:=by
  rw[Array.toList_modify,modify_eq_set _ _ _ _ g]
 have q:=(List.getElem?_eq_some_iff.1 s).1;have m:=(List.getElem?_eq_some_iff.1 g).1;refine⟨?_,?_,?_,?_,?_⟩
 ·rw[x,List.map_set,List.map_set,h.1]
 ·rw[x,List.map_set]
  have:(es.toList.map (·.born)).set j e0.born=es.toList.map (·.born):=by
   apply List.ext_getElem?;intro i;rw[List.getElem?_set]
   by_cases c:j=i
   ·subst c;rw[if_pos rfl,if_pos (by simpa using m),List.getElem?_map,g];rfl
   ·rw[if_neg c]
  rw[this];exact h.2.1
 ·intro e f
  rw[x] at f;rcases List.mem_or_eq_of_mem_set f with d|d
  ·exact h.2.2.1 e d
  ·rw[d];exact h.2.2.1 e0 (List.mem_of_getElem? g)
 ·rw[List.map_set]
  have:(l.map (·.1)).set j a=l.map (·.1):=by
   apply List.ext_getElem?;intro i;rw[List.getElem?_set]
   by_cases c:j=i
   ·subst c;rw[if_pos rfl,if_pos (by simpa using q),List.getElem?_map,s];rfl
   ·rw[if_neg c]
  rw[this];exact h.2.2.2.1
 ·intro p y
  rcases List.mem_or_eq_of_mem_set y with d|d
  ·exact h.2.2.2.2 p d
  ·rw[d];exact h.2.2.2.2 (a,u) (List.mem_of_getElem? s)
theorem iW.push(h:iW ok enc ev es clock l){a:α}(m:ok a)(q:∀p∈l,p.1≠a)(v:β):iW ok enc ev (es.push ⟨enc a,ev v,clock⟩) (clock+1) (l++[(a,v)]):=by
 refine⟨by simp[h.1],?_,?_,?_,?_⟩
 ·simp only[Array.toList_push,List.map_append,List.map_cons,List.map_nil]
  refine List.nodup_append.2 ⟨h.2.1,by simp,fun p d c g i=>?_⟩;simp only[List.mem_singleton] at g;obtain⟨y,f,rfl⟩:=List.mem_map.1 d;have:=h.2.2.1 y f;omega
 ·intro y f
  simp only[Array.toList_push,List.mem_append,List.mem_singleton] at f;rcases f with f|rfl
  ·have:=h.2.2.1 y f;omega
  ·exact Nat.lt_succ_self _
 ·rw[List.map_append]
  refine List.nodup_append.2 ⟨h.2.2.2.1,by simp,fun p d c g i=>?_⟩;obtain⟨y,f,rfl⟩:=List.mem_map.1 d;simp at g;subst g;exact q y f i
 ·intro p d
  rcases List.mem_append.1 d with d|d
  ·exact h.2.2.2.2 p d
  ·simp at d;subst d;exact m
theorem cH.update[DecidableEq α](h:cH ok enc ev w b l)(K:tA P k ok enc)(y:P.underlying t=some (.map k e))(a:α)(m:ok a)(v:β) :
 ∃w',(Instr.mapUpdate t (.map (some b)) (enc a) (ev v)).run P w=.ok () w'/\cH ok enc ev w' b (dW l a v)/\aA (fun i=>i=b) w w':=by
 obtain⟨es,clock,c,f⟩:=h;obtain⟨x,p⟩:=K.key a m;rcases f.find K w a m with⟨g,d⟩|⟨j,u,e0,g,d,q,s,A⟩
 ·rw[yX d]
  refine⟨setBlock w b (.map (es.push ⟨enc a,ev v,clock⟩) (clock+1)),?_,⟨_,_,iP c,f.push m d v⟩,jI _ _ _⟩;simp[Instr.mapUpdate,run_underlying y,MapKept.run_getObj_map c,K.law.check w false p,g,MapKept.run_setObj_map _ c,Result.andThen,setBlock]
 ·rw[wF f.2.2.2.1 d]
  have z:es[j]?=some e0:=by simpa using q
  refine⟨setBlock w b (.map (es.modify j fun x=>{ x with key:=enc a,val:=ev v }) clock),?_,⟨_,_,iP c,f.setVal d q s v⟩,jI _ _ _⟩;simp[Instr.mapUpdate,run_underlying y,MapKept.run_getObj_map c,K.law.check w false p,g,z,s,K.law.stays w p,MapKept.run_setObj_map _ c,Result.andThen,setBlock]
def dA(ok:α->Prop)(enc:α->Value)(ev:β->Value)(w:World)(b r:Nat)(l left:List (α×β)):Prop:=
 ∃es clock since c c0,w.heap[b]?=some (.map es clock)/\iW ok enc ev es clock l/\w.heap[r]?=some (.mapIter (some b) since c c0)/\(∀x∈es.toList,x.born<since)/\since≤c0/\since≤clock /\
  (leftOf es c).toList.map (fun e=>(e.key,e.val))=left.map (fun p=>(enc p.1,ev p.2))/\(∀p∈left,p∈l)
theorem dA.keep{w':World}{S:Nat->Prop}{left:List (α×β)}(h:dA ok enc ev w b r l left)(k:aA S w w')(m:¬S b)(q:¬S r):dA ok enc ev w' b r l left:=by
 obtain⟨es,clock,since,c,c0,g,p,i,h⟩:=h;have f:b<w.heap.size:=(Array.getElem?_eq_some_iff.1 g).1;have d:r<w.heap.size:=(Array.getElem?_eq_some_iff.1 i).1;exact⟨es,clock,since,c,c0,by rw[k.block b f m];exact g,p,by rw[k.block r d q];exact i,h⟩
theorem dA.ne{left:List (α×β)}(h:dA ok enc ev w b r l left):r≠b:=by
 obtain⟨es,clock,since,d,c0,f,g,c,-⟩:=h;intro e;rw[e,f] at c;cases c
theorem cH.range(h:cH ok enc ev w b l)(i:P.underlying t=some (.map k e)) :
 ∃w',(Instr.range t (.map (some b))).run P w=.ok (.pointer (w.heap.size)) w'/\dA ok enc ev w' b w.heap.size l l/\aA aB w w'/\w'.heap.size=w.heap.size+1:=by
 obtain⟨es,clock,c,d⟩:=h;have f:b<w.heap.size:=(Array.getElem?_eq_some_iff.1 c).1;have K:=(aA.refl aB w).alloc (.mapIter (some b) clock #[] clock);refine⟨w.alloc (.mapIter (some b) clock #[] clock),?_,⟨es,clock,clock,#[],clock,?_,d,heap_alloc_new _ _,d.2.2.1,Nat.le_refl _,Nat.le_refl _,?_,fun p g=>g⟩,K,World.size_alloc _ _⟩
 ·simp[Instr.range,run_underlying i,MapKept.run_getObj_map c,Result.andThen]
 ·rw[K.block b f id];exact c
 ·have:leftOf es #[]=es:=by unfold leftOf;exact Array.filter_eq_self.2 (fun x m=>by simp)
  rw[this];exact d.1
def tB(enc:α->Value)(ev:β->Value)(w:World)(b r:Nat)(a:α)(v:β):Prop:=(∀P:Program,(Instr.entry (.pointer r)).run P w=.ok (.tuple #[enc a,ev v]) w)
theorem dA.next{left:List (α×β)}(h:dA ok enc ev w b r l left)(W:TypeId) :
 (left=[]/\(Instr.next (.pointer r) false W).run P w=.ok (.tuple #[.bool false]) w) \/
 ∃i a v w',left[i]?=some (a,v)/\ok a/\(Instr.next (.pointer r) false W).run P w=.ok (.tuple #[.bool true,enc a,ev v]) w'/\dA ok enc ev w' b r l (left.eraseIdx i)/\aA (fun k=>k=r) w w'/\w'.heap.size=w.heap.size/\tB enc ev w' b r a v:=by
 have U:=h.ne;obtain⟨es,clock,since,c,c0,L,J,Y,m,V,z,d,s⟩:=h
 have qa:(leftOf es c).size=left.length:=by
  have:=congrArg List.length d
  simpa using this
 rcases run_next_at (P:=P) w W r b since c0 c es clock Y L m V with⟨h0,f⟩|⟨e,H,G,E,f⟩
 ·exact .inl ⟨List.eq_nil_of_length_eq_zero (by omega),f⟩
 ·right
  obtain⟨i,C⟩:=List.getElem?_of_mem H;have g:=congrArg (fun x=>x[i]?) d;simp only[List.getElem?_map,C,Option.map_some] at g;rcases I:left[i]? with _|⟨a,v⟩
  ·rw[I] at g;simp at g
  rw[I] at g;simp only[Option.map_some,Option.some.injEq,Prod.mk.injEq] at g;have N:aA aB w G:=by rcases E with rfl|rfl;exact aA.refl _ _;exact(aA.refl _ _).drew
  have D:G.heap=w.heap:=by rcases E with rfl|rfl<;>rfl
  have Z:aA (fun k=>k=r) w (setBlock G r (.mapIter (some b) since (c.push e.born) clock)):=N.trans' (jI _ _ _) (fun _ _ h=>h.elim) (fun _ _ h=>h);have M:b<w.heap.size:=(Array.getElem?_eq_some_iff.1 L).1;have y:(setBlock G r (.mapIter (some b) since (c.push e.born) clock)).heap[b]?=some (.map es clock):=by rw[Z.block b M (fun e=>U e.symm)];exact L
  have B:(setBlock G r (.mapIter (some b) since (c.push e.born) clock)).heap[r]?=some (.mapIter (some b) since (c.push e.born) clock):=iP (o':=.mapIter (some b) since c c0) (by rw[D];exact Y);have A:e∈es.toList:=by unfold leftOf at H;simp at H;simpa using H.1
  refine⟨i,a,v,_,I,J.2.2.2.2 _ (s _ (List.mem_of_getElem? I)),by rw[←g.1,←g.2];exact f,⟨es,clock,since,c.push e.born,clock,y,J,B,m,z,z,?_,?_⟩,Z,by simp[setBlock,D],fun P=>?_⟩
  ·have hf:(leftOf es (c.push e.born)).toList=(leftOf es c).toList.eraseIdx i:=by
    have X:(leftOf es c).toList=es.toList.filter fun x=>!c.contains x.born:=by simp[leftOf]
    have K:(leftOf es (c.push e.born)).toList=(leftOf es c).toList.filter fun x=>!(x.born == e.born):=by
     rw[X,List.filter_filter];simp only[leftOf,Array.toList_filter];apply List.filter_congr;intro x _;simp only[Array.contains_push];cases x.born == e.born<;>simp
    rw[K];refine filter_eq_eraseIdx (fun x:MapEntry=>x.born == e.born) _ i e C (by simp) ?_;have R:((leftOf es c).toList.map (·.born)).Nodup:=by rw[X];exact(List.filter_sublist.map _).nodup J.2.1
    refine(List.pairwise_map.1 R).imp fun {p q} T u=>?_
    simp only[beq_iff_eq] at u;exact T (u.1.trans u.2.symm)
   rw[hf,map_eraseIdx,map_eraseIdx,d]
  ·exact fun p hp=>s p ((List.eraseIdx_sublist left i).subset hp)
  ·rw[←g.1,←g.2]
   exact run_entry_at _ r b since c es clock e B y A J.2.1
end
open Go.RowKit Go.Maps Go.ChangeMaps
set_option linter.unusedVariables false
section
variable {α β:Type}{F:Fence}{n:Nat}{P:Program}{k:TypeId}{ok:α->Prop}{enc:α->Value}{ev:β->Value}{w:World}{b:Nat}{l:List (α×β)}
variable {ops:Array Oper}{xT:List Oper}{o:Oper}{a:Act}{Q:Exit->Act->World->Prop}
theorem yR(q:o.guard=none)(m:Operand)(t:TypeId)(d:o.op=Op.range t m){k e:TypeId}(u:P.underlying t=some (.map k e))(s:a.eval m=.map (some b))(h:cH ok enc ev w b l)
 (p:∀w',dA ok enc ev w' b w.heap.size l l->aA aB w w'->w'.heap.size=w.heap.size+1->wpListIn F n P ops Q xT (a.put o.dst (.pointer (w.heap.size))) w') :
 wpListIn F n P ops Q (o::xT) a w:=by
 refine wpListIn_plain q fun z g=>?_
 obtain⟨w',f,v,x,y⟩:=h.range u;unfold Oper.wpIn;refine⟨by simp[Oper.about,d],?_⟩;rw[Oper.semAt_plain F _ _ (by rw[d];intro c i;cases i)];simp[execOp,d,s,f,Result.andThen];exact g _ _ (p w' v x y)
theorem zS(D:o.guard=none)(u:Operand)(f:o.op=Op.next u false){r:Nat}{left:List (α×β)}(q:a.eval u=.pointer r)(h:dA ok enc ev w b r l left)
 (g:left=[]->wpListIn F n P ops Q xT (a.put o.dst (.tuple #[.bool false])) w)
 (m:∀i x v w',left[i]?=some (x,v)->ok x->dA ok enc ev w' b r l (left.eraseIdx i)->aA (fun k=>k=r) w w'->w'.heap.size=w.heap.size->tB enc ev w' b r x v->wpListIn F n P ops Q xT (a.put o.dst (.tuple #[.bool true,enc x,ev v])) w') :
 wpListIn F n P ops Q (o::xT) a w:=by
 refine wpListIn_plain D fun E p=>?_
 unfold Oper.wpIn;refine⟨by simp[Oper.about,f],?_⟩;rw[Oper.semAt_plain F _ _ (by rw[f];intro c s;cases s)];rcases h.next (P:=P) o.type with⟨h0,d⟩|⟨i,x,v,w',y,z,d,A,B,C,h6⟩
 ·simp[execOp,f,q,d,Result.andThen]
  exact p _ _ (g h0)
 ·simp[execOp,f,q,d,Result.andThen]
  exact p _ _ (m i x v w' y z A B C h6)
theorem yS(q:o.guard=none)(m:Operand)(d:o.op=Op.entry m){r:Nat}{x:α}{v:β}(i:a.eval m=.pointer r)(h:tB enc ev w b r x v)
 (p:wpListIn F n P ops Q xT (a.put o.dst (.tuple #[enc x,ev v])) w):wpListIn F n P ops Q (o::xT) a w:=by
 refine wpListIn_plain q fun s f=>?_
 unfold Oper.wpIn;refine⟨by simp[Oper.about,d],?_⟩;rw[Oper.semAt_plain F _ _ (by rw[d];intro c g;cases g)];simp[execOp,d,i,h P,Result.andThen];exact f _ _ p
theorem mW[DecidableEq α](A:o.guard=none)(z:o.dst=none)(m x v:Operand)(t:TypeId)(g:o.op=Op.mapUpdate t m x v)(K:tA P k ok enc){e:TypeId}(C:P.underlying t=some (.map k e))
 (c:α) (y:ok c) (u:β) (B:a.eval m=.map (some b)) (E:a.eval x=enc c) (D:a.eval v=ev u) (h:cH ok enc ev w b l)
 (s:∀w':World,cH ok enc ev w' b (dW l c u)->aA (fun i=>i=b) w w'->wpList P ops Q xT a w'):wpList P ops Q (o::xT) a w:=by
 refine wpList_plain A fun G f=>?_
 obtain⟨w',d,p,q⟩:=h.update K C c y u;unfold Oper.wp;simp[execOp,g,B,E,D,d,Result.andThen];exact f _ _ (by simpa [z,Act.put] using s w' p q)
end
end
end Go.Proofs.YtoeinblfcbpcmaaGreat
