import Derived.Test.YtoeinblfcbpcmaaGreatDoorC1
import Derived.Maps.Keyed
import Derived.Maps.RangeRun
import Derived.Maps.RangeWalk
import Derived.WideKeyEntry
import Derived.DeepKeys5
import Derived.Sort.MapsRangeIn
namespace Go.Proofs.YtoeinblfcbpcmaaGreatDoor
set_option maxHeartbeats 0
set_option maxRecDepth 100000
set_option linter.unusedVariables false
section
open Go.RowKit Go.Maps Go.ChangeMaps
section
variable {α β:Type}{P:Program}{k:TypeId}{ok:α->Prop}{enc:α->Value}{ev:β->Value}{w:World}{b:Nat}{l:List (α×β)}
structure kH(P:Program)(k:TypeId)(ok:α->Prop)(enc:α->Value):Prop where
 law:Keyed P k
 key:∀a,ok a->∃x,keyOf P k (enc a)=some x
 inj:∀a c,ok a->ok c->enc a=enc c->a=c
def jC(ok:α->Prop)(enc:α->Value)(ev:β->Value)(es:Array MapEntry)(clock:Nat)(l:List (α×β)):Prop:=
 es.toList.map (fun e=>(e.key,e.val))=l.map (fun p=>(enc p.1,ev p.2))/\(es.toList.map (·.born)).Nodup/\(∀e∈es.toList,e.born<clock)/\(l.map (·.1)).Nodup/\∀p∈l,ok p.1
def bI(ok:α->Prop)(enc:α->Value)(ev:β->Value)(w:World)(b:Nat)(l:List (α×β)):Prop:=
 ∃es clock,w.heap[b]?=some (.map es clock)/\jC ok enc ev es clock l
variable{w' w:World}{S:Nat->Prop}{es:Array MapEntry}{clock j b:Nat}{e t:TypeId}{o:Obj}
theorem bI.keep(h:bI ok enc ev w b l)(k:aA S w w')(f:¬S b):bI ok enc ev w' b l:=by
 obtain⟨es,clock,d,g⟩:=h;have c:b<w.heap.size:=(Array.getElem?_eq_some_iff.1 d).1;exact⟨es,clock,by rw[k.block b c f];exact d,g⟩
theorem bI.made(w:World):bI ok enc ev (w.alloc (.map #[] 0)) w.heap.size ([]:List (α×β)):=
 ⟨#[],0,heap_alloc_new _ _,by simp[jC]⟩
theorem jC.get(h:jC ok enc ev es clock l){e:MapEntry}(f:es.toList[j]?=some e):∃a v,l[j]?=some (a,v)/\e.key=enc a/\e.val=ev v/\ok a:=by
 have c:=congrArg (fun x=>x[j]?) h.1;simp only[List.getElem?_map,f,Option.map_some] at c;rcases d:l[j]? with _|⟨a,v⟩
 ·rw[d] at c;simp at c
 ·rw[d] at c
  simp only[Option.map_some,Option.some.injEq,Prod.mk.injEq] at c;exact⟨a,v,rfl,c.1,c.2,h.2.2.2.2 _ (List.mem_of_getElem? d)⟩
theorem jC.len(h:jC ok enc ev es clock l):es.toList.length=l.length:=by
 have:=congrArg List.length h.1
 simpa using this
theorem jC.find(K:kH P k ok enc)(h:jC ok enc ev es clock l)(w:World)(a:α)(C:ok a) :
 ((Instr.findKey k (enc a) es.toList).run P w=.ok none w/\∀p∈l,p.1≠a) \/
 ∃j v e,(Instr.findKey k (enc a) es.toList).run P w=.ok (some (j,ev v)) w/\l[j]?=some (a,v)/\es.toList[j]?=some e/\e.key=enc a/\e.val=ev v:=by
 obtain⟨x,I⟩:=K.key a C
 have f:∀e∈es.toList,∃y,keyOf P k e.key=some y:=fun e G=>by
  obtain⟨j,g⟩:=List.getElem?_of_mem G;obtain⟨d,v,-,c,-,E⟩:=h.get g;rw[c];exact K.key d E
 rcases K.law.find w I es.toList f with⟨s,c⟩|⟨j,e,s,c,B⟩
 ·refine .inl ⟨s,fun p H z=>?_⟩
  obtain⟨j,g⟩:=List.getElem?_of_mem H;have u:=(List.getElem?_eq_some_iff.1 g).1;have i:j<es.toList.length:=by rw[h.len];exact u
  obtain⟨d,v,m,q,-,-⟩:=h.get (List.getElem?_eq_getElem i);rw[m] at g;cases g
  exact c _ (List.getElem_mem i) (by rw[q,←z])
 ·obtain⟨d,v,m,q,A,D⟩:=h.get c
  have:d=a:=K.inj d a D C (by rw[←q,B]);subst this;exact .inr ⟨j,v,e,by rw[s,A],m,c,B,A⟩
def eE[DecidableEq α](l:List (α×β))(a:α):Option β:=(l.find? fun p=>decide (p.1=a)).map (·.2)
theorem CH[DecidableEq α]{a:α}(h:∀p∈l,p.1≠a):eE l a=none:=by
 unfold eE;rw[List.find?_eq_none.2 (fun p c=>by simpa using h p c)];rfl
theorem GI[DecidableEq α]{a:α}{v:β}(c:(l.map (·.1)).Nodup)(h:l[j]?=some (a,v)):eE l a=some v:=by
 induction l generalizing j with
 | nil=>simp at h
 | cons p l g =>
   rw[List.map_cons,List.nodup_cons] at c;cases j with
   | zero =>
     simp only[List.getElem?_cons_zero,Option.some.injEq] at h;subst h;simp[eE]
   | succ j =>
     rw[List.getElem?_cons_succ] at h;have f:a∈l.map (·.1):=List.mem_map.2 ⟨_,List.mem_of_getElem? h,rfl⟩;have d:p.1≠a:=fun e=>c.1 (e▸f)
     have:=g c.2 h
     simpa [eE,d] using this
def cJ[DecidableEq α](l:List (α×β))(a:α)(v:β):List (α×β):=
 if l.any (fun p=>decide (p.1=a)) then l.map (fun p=>if p.1=a then (a,v) else p) else l++[(a,v)]
theorem zM[DecidableEq α]{a:α}(h:∀p∈l,p.1≠a)(v:β):cJ l a v=l++[(a,v)]:=by
 unfold cJ;rw[if_neg];simp only[List.any_eq_true,not_exists,not_and];intro p c
 simpa using h p c
theorem wO[DecidableEq α]{a:α}{u:β}(C:(l.map (·.1)).Nodup)(h:l[j]?=some (a,u))(v:β):cJ l a v=l.set j (a,v):=by
 unfold cJ;rw[if_pos (by simp only[List.any_eq_true];exact⟨_,List.mem_of_getElem? h,by simp⟩)];apply List.ext_getElem?;intro i;rw[List.getElem?_map,List.getElem?_set];have B:=(List.getElem?_eq_some_iff.1 h).1
 by_cases c:j=i
 ·subst c
  rw[if_pos rfl,if_pos B,h];simp
 ·rw[if_neg c]
  rcases A:l[i]? with _|p
  ·rfl
  ·have m:p.1≠a:=by
    intro e;apply c;have y:(l.map (·.1))[j]?=some a:=by rw[List.getElem?_map,h];rfl
    have z:(l.map (·.1))[i]?=some a:=by rw[List.getElem?_map,A,Option.map_some,e]
    obtain⟨f,q⟩:=List.getElem?_eq_some_iff.1 y;obtain⟨d,s⟩:=List.getElem?_eq_some_iff.1 z;have x:=List.pairwise_iff_getElem.1 C;rcases Nat.lt_trichotomy j i with g|g|g
    ·exact absurd (q.trans s.symm) (x j i f d g)
    ·exact g
    ·exact absurd (s.trans q.symm) (x i j d f g)
   simp[m]
theorem bI.lookup[DecidableEq α](h:bI ok enc ev w b l)(K:kH P k ok enc)(p:P.underlying t=some (.map k e)){z:β}(s:(zeroValue e).run P w=.ok (ev z) w)(a:α)(g:ok a)(c:Bool) :
 (Instr.lookup t (.map (some b)) (enc a) c).run P w=.ok (if c then .tuple #[ev ((eE l a).getD z),.bool (eE l a).isSome] else ev ((eE l a).getD z)) w:=by
 obtain⟨es,clock,i,m⟩:=h;obtain⟨x,q⟩:=K.key a g;rcases m.find K w a g with⟨d,f⟩|⟨j,v,e,d,f,u,y,A⟩
 ·rw[CH f]
  simp[Instr.lookup,run_underlying p,MapKept.run_getObj_map i,K.law.check w _ q,d,s,Result.andThen]
 ·rw[GI m.2.2.2.1 f]
  simp[Instr.lookup,run_underlying p,MapKept.run_getObj_map i,K.law.check w _ q,d,Result.andThen]
theorem jN(w:World)(b:Nat)(o:Obj):aA (fun i=>i=b) w (setBlock w b o):=by
 refine⟨rfl,rfl,rfl,by simp[setBlock],fun i d c=>?_⟩;simp only[setBlock];rw[Array.getElem?_setIfInBounds_ne (fun e=>c e.symm)]
theorem iQ{o':Obj}(h:w.heap[b]?=some o'):(setBlock w b o).heap[b]?=some o:=by
 have:=(Array.getElem?_eq_some_iff.1 h).1;simp only[setBlock];rw[Array.getElem?_setIfInBounds_self_of_lt this]
theorem DF(h:w.heap[b]?=some o):setBlock w b o=w:=by
 have c:=(Array.getElem?_eq_some_iff.1 h).1
 have:w.heap.setIfInBounds b o=w.heap:=by
  apply Array.ext_getElem?;intro i
  by_cases d:i=b
  ·subst d;rw[Array.getElem?_setIfInBounds_self_of_lt c,h]
  ·rw[Array.getElem?_setIfInBounds_ne (fun e=>d e.symm)]
 unfold setBlock;rw[this]
def uG(enc:α->Value)(w:World)(b:Nat)(a:α)(st:Nat):Prop:=∃es clock e,w.heap[b]?=some (.map es clock)/\e∈es.toList/\e.key=enc a/\e.born=st
theorem uG.keep{a:α}{st:Nat}(h:uG enc w b a st)(k:aA S w w')(m:¬S b):uG enc w' b a st:=by
 obtain⟨es,clock,e,d,f,g,i⟩:=h;have c:b<w.heap.size:=(Array.getElem?_eq_some_iff.1 d).1;exact⟨es,clock,e,by rw[k.block b c m];exact d,f,g,i⟩
theorem bI.entry[DecidableEq α](h:bI ok enc ev w b l)(K:kH P k ok enc)(L:P.underlying t=some (.map k e)){z:β}(N:(zeroValue e).run P w=.ok (ev z) w)(a:α)(G:ok a) :
 ∃(st:Nat) (w':World),(Instr.mapEntry t (.map (some b)) (enc a)).run P w=.ok (.tuple #[ev ((eE l a).getD z),goInt st]) w'/\bI ok enc ev w' b (cJ l a ((eE l a).getD z))/\aA (fun i=>i=b) w w'/\uG enc w' b a st:=by
 obtain⟨es,clock,m,f⟩:=h;obtain⟨x,H⟩:=K.key a G;rcases f.find K w a G with⟨D,q⟩|⟨j,v,e0,D,q,A,E,R⟩
 ·rw[CH q,zM q]
  refine⟨clock,setBlock w b (.map (es.push ⟨enc a,ev z,clock⟩) (clock+1)),?_,⟨_,_,iQ m,?_,?_,?_,?_,?_⟩,jN _ _ _,⟨_,_,⟨enc a,ev z,clock⟩,iQ m,by simp,rfl,rfl⟩⟩
  ·simp[Instr.mapEntry,run_underlying L,MapKept.run_getObj_map m,K.law.check w false H,D,N,MapKept.run_setObj_map _ m,Result.andThen,setBlock]
  ·simp[f.1]
  ·simp only[Array.toList_push,List.map_append,List.map_cons,List.map_nil]
   refine List.nodup_append.2 ⟨f.2.1,by simp,fun p g c C I=>?_⟩;simp only[List.mem_singleton] at C;obtain⟨y,s,rfl⟩:=List.mem_map.1 g;have:=f.2.2.1 y s;omega
  ·intro y s
   simp only[Array.toList_push,List.mem_append,List.mem_singleton] at s;rcases s with s|rfl
   ·have:=f.2.2.1 y s;omega
   ·exact Nat.lt_succ_self _
  ·rw[List.map_append]
   refine List.nodup_append.2 ⟨f.2.2.2.1,by simp,fun p g c C I=>?_⟩;obtain⟨y,s,rfl⟩:=List.mem_map.1 g;simp at C;subst C;exact q y s I
  ·intro p g
   rcases List.mem_append.1 g with g|g
   ·exact f.2.2.2.2 p g
   ·simp at g;subst g;exact G
 ·rw[GI f.2.2.2.1 q,Option.getD_some,wO f.2.2.2.1 q]
  have B:l.set j (a,v)=l:=by
   apply List.ext_getElem?;intro i;rw[List.getElem?_set]
   by_cases d:j=i
   ·subst d;rw[if_pos rfl,if_pos (List.getElem?_eq_some_iff.1 q).1,q]
   ·rw[if_neg d]
  have M:es[j]?=some e0:=by simpa using A
  have u:es.modify j (fun e=>{ e with key:=enc a })=es:=by
   apply Array.ext';rw[Array.toList_modify,modify_eq_set _ _ _ _ A];have:({ e0 with key:=enc a }:MapEntry)=e0:=by rw[←E]
   rw[this];apply List.ext_getElem?;intro i;rw[List.getElem?_set]
   by_cases d:j=i
   ·subst d;rw[if_pos rfl,if_pos (List.getElem?_eq_some_iff.1 A).1,A]
   ·rw[if_neg d]
  rw[B];refine⟨e0.born,w,?_,⟨es,clock,m,f⟩,aA.refl _ _,⟨es,clock,e0,m,List.mem_of_getElem? A,E,rfl⟩⟩;have J:=DF m;unfold setBlock at J;simp[Instr.mapEntry,run_underlying L,MapKept.run_getObj_map m,K.law.check w false H,D,M,E,K.law.stays w H,u,MapKept.run_setObj_map _ m,Result.andThen,J]
end
open Go.RowKit Go.Maps Go.ChangeMaps
set_option linter.unusedVariables false
section
variable {α β:Type}{P:Program}{k:TypeId}{ok:α->Prop}{enc:α->Value}{ev:β->Value}{w:World}{b:Nat}{l:List (α×β)}
variable{j clock r:Nat}{e0:MapEntry}{es:Array MapEntry}{t e:TypeId}
theorem DG{l:List MapEntry}(c:(l.map (·.born)).Nodup)(h:l[j]?=some e0):l.findIdx? (fun e=>((e.born:Nat):Int) == ((e0.born:Nat):Int))=some j:=
 Go.WideElems.findIdx_born c h
theorem jC.setVal(h:jC ok enc ev es clock l){a:α}{u:β}(s:l[j]?=some (a,u))(g:es.toList[j]?=some e0)(z:e0.key=enc a)(v:β) :
 jC ok enc ev (es.modify j fun e=>{ e with key:=enc a,val:=ev v }) clock (l.set j (a,v)):=by
 have x:(es.modify j fun e=>{ e with key:=enc a,val:=ev v }).toList=es.toList.set j { e0 with key:=enc a,val:=ev v }:=by
  rw[Array.toList_modify,modify_eq_set _ _ _ _ g]
 have q:=(List.getElem?_eq_some_iff.1 s).1;have m:=(List.getElem?_eq_some_iff.1 g).1;refine⟨?_,?_,?_,?_,?_⟩
 ·rw[x,List.map_set,List.map_set,h.1]
 ·rw[x,List.map_set]
  have:(es.toList.map (·.born)).set j e0.born=es.toList.map (·.born):=by
   apply List.ext_getElem?;intro i;rw[List.getElem?_set]
   by_cases c:j=i
   ·subst c;rw[if_pos rfl,if_pos (by simpa using m),List.getElem?_map,g];rfl
   ·rw[if_neg c]
  rw[this];exact h.2.1
 ·intro e f
  rw[x] at f;rcases List.mem_or_eq_of_mem_set f with d|d
  ·exact h.2.2.1 e d
  ·rw[d];exact h.2.2.1 e0 (List.mem_of_getElem? g)
 ·rw[List.map_set]
  have:(l.map (·.1)).set j a=l.map (·.1):=by
   apply List.ext_getElem?;intro i;rw[List.getElem?_set]
   by_cases c:j=i
   ·subst c;rw[if_pos rfl,if_pos (by simpa using q),List.getElem?_map,s];rfl
   ·rw[if_neg c]
  rw[this];exact h.2.2.2.1
 ·intro p y
  rcases List.mem_or_eq_of_mem_set y with d|d
  ·exact h.2.2.2.2 p d
  ·rw[d];exact h.2.2.2.2 (a,u) (List.mem_of_getElem? s)
theorem jC.push(h:jC ok enc ev es clock l){a:α}(m:ok a)(q:∀p∈l,p.1≠a)(v:β):jC ok enc ev (es.push ⟨enc a,ev v,clock⟩) (clock+1) (l++[(a,v)]):=by
 refine⟨by simp[h.1],?_,?_,?_,?_⟩
 ·simp only[Array.toList_push,List.map_append,List.map_cons,List.map_nil]
  refine List.nodup_append.2 ⟨h.2.1,by simp,fun p d c g i=>?_⟩;simp only[List.mem_singleton] at g;obtain⟨y,f,rfl⟩:=List.mem_map.1 d;have:=h.2.2.1 y f;omega
 ·intro y f
  simp only[Array.toList_push,List.mem_append,List.mem_singleton] at f;rcases f with f|rfl
  ·have:=h.2.2.1 y f;omega
  ·exact Nat.lt_succ_self _
 ·rw[List.map_append]
  refine List.nodup_append.2 ⟨h.2.2.2.1,by simp,fun p d c g i=>?_⟩;obtain⟨y,f,rfl⟩:=List.mem_map.1 d;simp at g;subst g;exact q y f i
 ·intro p d
  rcases List.mem_append.1 d with d|d
  ·exact h.2.2.2.2 p d
  ·simp at d;subst d;exact m
theorem bI.store[DecidableEq α](h:bI ok enc ev w b l)(K:kH P k ok enc)(t:TypeId)(a:α)(E:ok a){st:Nat}(H:uG enc w b a st)(v:β) :
 ∃w',(Instr.entryStore t (.map (some b)) (goInt st) (ev v)).run P w=.ok () w'/\bI ok enc ev w' b (cJ l a v)/\aA (fun i=>i=b) w w':=by
 obtain⟨es,clock,s,y⟩:=h;obtain⟨C,q,e,c,G,A,rfl⟩:=H;rw[s] at c;cases c;obtain⟨j,f⟩:=List.getElem?_of_mem G;obtain⟨p,u,B,z,I,D⟩:=y.get f;obtain rfl:p=a:=K.inj p a D E (by rw[←z,A]);rw[wO y.2.2.2.1 B]
 have d:es.findIdx? (fun x=>((x.born:Nat):Int) == ((e.born:Nat):Int))=some j:=by
  rw[Go.WideElems.findIdx_arr];exact DG y.2.1 f
 have g:es.modify j (fun x=>{ x with val:=ev v })=es.modify j (fun x=>{ x with key:=enc p,val:=ev v }):=by
  apply Array.ext';rw[Array.toList_modify,Array.toList_modify,modify_eq_set _ _ _ _ f,modify_eq_set _ _ _ _ f,←z]
 refine⟨setBlock w b (.map (es.modify j fun x=>{ x with key:=enc p,val:=ev v }) clock),?_,⟨_,_,iQ s,y.setVal B f z v⟩,jN _ _ _⟩;simp[Instr.entryStore,MapKept.run_getObj_map s,asInt,asIntOf,goInt,d,g,MapKept.run_setObj_map _ s,Result.andThen,setBlock]
theorem bI.update[DecidableEq α](h:bI ok enc ev w b l)(K:kH P k ok enc)(y:P.underlying t=some (.map k e))(a:α)(m:ok a)(v:β) :
 ∃w',(Instr.mapUpdate t (.map (some b)) (enc a) (ev v)).run P w=.ok () w'/\bI ok enc ev w' b (cJ l a v)/\aA (fun i=>i=b) w w':=by
 obtain⟨es,clock,c,f⟩:=h;obtain⟨x,p⟩:=K.key a m;rcases f.find K w a m with⟨g,d⟩|⟨j,u,e0,g,d,q,s,A⟩
 ·rw[zM d]
  refine⟨setBlock w b (.map (es.push ⟨enc a,ev v,clock⟩) (clock+1)),?_,⟨_,_,iQ c,f.push m d v⟩,jN _ _ _⟩;simp[Instr.mapUpdate,run_underlying y,MapKept.run_getObj_map c,K.law.check w false p,g,MapKept.run_setObj_map _ c,Result.andThen,setBlock]
 ·rw[wO f.2.2.2.1 d]
  have z:es[j]?=some e0:=by simpa using q
  refine⟨setBlock w b (.map (es.modify j fun x=>{ x with key:=enc a,val:=ev v }) clock),?_,⟨_,_,iQ c,f.setVal d q s v⟩,jN _ _ _⟩;simp[Instr.mapUpdate,run_underlying y,MapKept.run_getObj_map c,K.law.check w false p,g,z,s,K.law.stays w p,MapKept.run_setObj_map _ c,Result.andThen,setBlock]
theorem bI.len(h:bI ok enc ev w b l)(f:P.underlying t=some (.map k e))(g:TypeId):(Builtin.len_ #[t] g #[.map (some b)]).run P w=.ok (.int .i64 l.length) w:=by
 obtain⟨es,clock,c,d⟩:=h;have:=d.len;simp[Builtin.len_,run_underlying f,MapKept.run_getObj_map c,Result.andThen,goInt,←this]
def dC(ok:α->Prop)(enc:α->Value)(ev:β->Value)(w:World)(b r:Nat)(l left:List (α×β)):Prop:=
 ∃es clock c d c0,w.heap[b]?=some (.map es clock)/\jC ok enc ev es clock l/\w.heap[r]?=some (.mapIter (some b) c d c0)/\(∀x∈es.toList,x.born<c)/\c≤c0/\c≤clock /\
  (leftOf es d).toList.map (fun e=>(e.key,e.val))=left.map (fun p=>(enc p.1,ev p.2))/\(∀p∈left,p∈l)
theorem dC.keep{w':World}{S:Nat->Prop}{left:List (α×β)}(h:dC ok enc ev w b r l left)(k:aA S w w')(p:¬S b)(s:¬S r):dC ok enc ev w' b r l left:=by
 obtain⟨es,clock,c,d,c0,i,q,m,h⟩:=h;have g:b<w.heap.size:=(Array.getElem?_eq_some_iff.1 i).1;have f:r<w.heap.size:=(Array.getElem?_eq_some_iff.1 m).1;exact⟨es,clock,c,d,c0,by rw[k.block b g p];exact i,q,by rw[k.block r f s];exact m,h⟩
theorem dC.map{left:List (α×β)}(h:dC ok enc ev w b r l left):bI ok enc ev w b l:=by
 obtain⟨es,clock,c,d,c0,f,g,-⟩:=h;exact⟨es,clock,f,g⟩
theorem dC.ne{left:List (α×β)}(h:dC ok enc ev w b r l left):r≠b:=by
 obtain⟨es,clock,c,f,c0,g,i,d,-⟩:=h;intro e;rw[e,g] at d;cases d
theorem bI.range(h:bI ok enc ev w b l)(i:P.underlying t=some (.map k e)) :
 ∃w',(Instr.range t (.map (some b))).run P w=.ok (.pointer (w.heap.size)) w'/\dC ok enc ev w' b w.heap.size l l/\aA aB w w'/\w'.heap.size=w.heap.size+1:=by
 obtain⟨es,clock,c,d⟩:=h;have f:b<w.heap.size:=(Array.getElem?_eq_some_iff.1 c).1;have K:=(aA.refl aB w).alloc (.mapIter (some b) clock #[] clock);refine⟨w.alloc (.mapIter (some b) clock #[] clock),?_,⟨es,clock,clock,#[],clock,?_,d,heap_alloc_new _ _,d.2.2.1,Nat.le_refl _,Nat.le_refl _,?_,fun p g=>g⟩,K,World.size_alloc _ _⟩
 ·simp[Instr.range,run_underlying i,MapKept.run_getObj_map c,Result.andThen]
 ·rw[K.block b f id];exact c
 ·have:leftOf es #[]=es:=by unfold leftOf;exact Array.filter_eq_self.2 (fun x m=>by simp)
  rw[this];exact d.1
def tG(enc:α->Value)(ev:β->Value)(w:World)(b r:Nat)(a:α)(v:β):Prop:=(∀P:Program,(Instr.entry (.pointer r)).run P w=.ok (.tuple #[enc a,ev v]) w)
theorem dC.next{left:List (α×β)}(h:dC ok enc ev w b r l left)(W:TypeId) :
 (left=[]/\(Instr.next (.pointer r) false W).run P w=.ok (.tuple #[.bool false]) w) \/
 ∃i a v w',left[i]?=some (a,v)/\ok a/\(Instr.next (.pointer r) false W).run P w=.ok (.tuple #[.bool true,enc a,ev v]) w'/\dC ok enc ev w' b r l (left.eraseIdx i)/\aA (fun k=>k=r) w w'/\w'.heap.size=w.heap.size/\tG enc ev w' b r a v:=by
 have U:=h.ne;obtain⟨es,clock,d,c,c0,L,J,Y,hold,V,z,f,s⟩:=h
 have qa:(leftOf es c).size=left.length:=by
  have:=congrArg List.length f
  simpa using this
 rcases run_next_at (P:=P) w W r b d c0 c es clock Y L hold V with⟨h0,m⟩|⟨e,H,G,E,m⟩
 ·exact .inl ⟨List.eq_nil_of_length_eq_zero (by omega),m⟩
 ·right
  obtain⟨i,C⟩:=List.getElem?_of_mem H;have g:=congrArg (fun x=>x[i]?) f;simp only[List.getElem?_map,C,Option.map_some] at g;rcases I:left[i]? with _|⟨a,v⟩
  ·rw[I] at g;simp at g
  rw[I] at g;simp only[Option.map_some,Option.some.injEq,Prod.mk.injEq] at g;have N:aA aB w G:=by rcases E with rfl|rfl;exact aA.refl _ _;exact(aA.refl _ _).drew
  have D:G.heap=w.heap:=by rcases E with rfl|rfl<;>rfl
  have Z:aA (fun k=>k=r) w (setBlock G r (.mapIter (some b) d (c.push e.born) clock)):=N.trans' (jN _ _ _) (fun _ _ h=>h.elim) (fun _ _ h=>h);have M:b<w.heap.size:=(Array.getElem?_eq_some_iff.1 L).1;have y:(setBlock G r (.mapIter (some b) d (c.push e.born) clock)).heap[b]?=some (.map es clock):=by rw[Z.block b M (fun e=>U e.symm)];exact L
  have B:(setBlock G r (.mapIter (some b) d (c.push e.born) clock)).heap[r]?=some (.mapIter (some b) d (c.push e.born) clock):=iQ (o':=.mapIter (some b) d c c0) (by rw[D];exact Y);have A:e∈es.toList:=by unfold leftOf at H;simp at H;simpa using H.1
  refine⟨i,a,v,_,I,J.2.2.2.2 _ (s _ (List.mem_of_getElem? I)),by rw[←g.1,←g.2];exact m,⟨es,clock,d,c.push e.born,clock,y,J,B,hold,z,z,?_,?_⟩,Z,by simp[setBlock,D],fun P=>?_⟩
  ·have hf:(leftOf es (c.push e.born)).toList=(leftOf es c).toList.eraseIdx i:=by
    have X:(leftOf es c).toList=es.toList.filter fun x=>!c.contains x.born:=by simp[leftOf]
    have K:(leftOf es (c.push e.born)).toList=(leftOf es c).toList.filter fun x=>!(x.born == e.born):=by
     rw[X,List.filter_filter];simp only[leftOf,Array.toList_filter];apply List.filter_congr;intro x _;simp only[Array.contains_push];cases x.born == e.born<;>simp
    rw[K];refine filter_eq_eraseIdx (fun x:MapEntry=>x.born == e.born) _ i e C (by simp) ?_;have R:((leftOf es c).toList.map (·.born)).Nodup:=by rw[X];exact(List.filter_sublist.map _).nodup J.2.1
    refine(List.pairwise_map.1 R).imp fun {p q} T u=>?_
    simp only[beq_iff_eq] at u;exact T (u.1.trans u.2.symm)
   rw[hf,map_eraseIdx,map_eraseIdx,f]
  ·exact fun p hp=>s p ((List.eraseIdx_sublist left i).subset hp)
  ·rw[←g.1,←g.2]
   exact run_entry_at _ r b d c es clock e B y A J.2.1
end
open Go.RowKit Go.Maps Go.ChangeMaps
set_option linter.unusedVariables false
section
variable {α β:Type}{F:Fence}{n:Nat}{P:Program}{k:TypeId}{ok:α->Prop}{enc:α->Value}{ev:β->Value}{w:World}{b:Nat}{l:List (α×β)}
variable {ops:Array Oper}{rest:List Oper}{o:Oper}{a:Act}{Q:Exit->Act->World->Prop}
variable{e:TypeId}{r:Nat}
theorem pU(q:o.guard=none)(m:Operand)(t:TypeId)(d:o.op=Op.range t m){k:TypeId}(u:P.underlying t=some (.map k e))(s:a.eval m=.map (some b))(h:bI ok enc ev w b l)
 (p:∀w',dC ok enc ev w' b w.heap.size l l->aA aB w w'->w'.heap.size=w.heap.size+1->wpListIn F n P ops Q rest (a.put o.dst (.pointer (w.heap.size))) w') :
 wpListIn F n P ops Q (o::rest) a w:=by
 refine wpListIn_plain q fun z g=>?_
 obtain⟨w',f,v,x,y⟩:=h.range u;unfold Oper.wpIn;refine⟨by simp[Oper.about,d],?_⟩;rw[Oper.semAt_plain F _ _ (by rw[d];intro c i;cases i)];simp[execOp,d,s,f,Result.andThen];exact g _ _ (p w' v x y)
theorem qX(E:o.guard=none)(u:Operand)(f:o.op=Op.next u false){left:List (α×β)}(q:a.eval u=.pointer r)(h:dC ok enc ev w b r l left)
 (g:left=[]->wpListIn F n P ops Q rest (a.put o.dst (.tuple #[.bool false])) w)
 (m:∀i x v w',left[i]?=some (x,v)->ok x->dC ok enc ev w' b r l (left.eraseIdx i)->aA (fun k=>k=r) w w'->w'.heap.size=w.heap.size->tG enc ev w' b r x v->wpListIn F n P ops Q rest (a.put o.dst (.tuple #[.bool true,enc x,ev v])) w') :
 wpListIn F n P ops Q (o::rest) a w:=by
 refine wpListIn_plain E fun G p=>?_
 unfold Oper.wpIn;refine⟨by simp[Oper.about,f],?_⟩;rw[Oper.semAt_plain F _ _ (by rw[f];intro c s;cases s)];rcases h.next (P:=P) o.type with⟨h0,d⟩|⟨i,x,v,w',y,z,d,A,B,C,D⟩
 ·simp[execOp,f,q,d,Result.andThen]
  exact p _ _ (g h0)
 ·simp[execOp,f,q,d,Result.andThen]
  exact p _ _ (m i x v w' y z A B C D)
theorem pV(q:o.guard=none)(m:Operand)(d:o.op=Op.entry m){x:α}{v:β}(i:a.eval m=.pointer r)(h:tG enc ev w b r x v)
 (p:wpListIn F n P ops Q rest (a.put o.dst (.tuple #[enc x,ev v])) w):wpListIn F n P ops Q (o::rest) a w:=by
 refine wpListIn_plain q fun s f=>?_
 unfold Oper.wpIn;refine⟨by simp[Oper.about,d],?_⟩;rw[Oper.semAt_plain F _ _ (by rw[d];intro c g;cases g)];simp[execOp,d,i,h P,Result.andThen];exact f _ _ p
theorem lV[DecidableEq α](q:o.guard=none)(m x:Operand)(t:TypeId)(g:o.op=Op.lookup t m x false)(K:kH P k ok enc)(u:P.underlying t=some (.map k e)){z:β}(y:(zeroValue e).run P w=.ok (ev z) w)
 (c:α) (p:ok c) (s:a.eval m=.map (some b)) (v:a.eval x=enc c) (h:bI ok enc ev w b l) (i:wpList P ops Q rest (a.put o.dst (ev ((eE l c).getD z))) w):wpList P ops Q (o::rest) a w:=by
 refine wpList_plain q fun A f=>?_
 have d:=h.lookup K u y c p false;unfold Oper.wp;simp[execOp,g,s,v,d,Result.andThen];exact f _ _ i
theorem oV[DecidableEq α](y:o.guard=none)(m x:Operand)(t:TypeId)(g:o.op=Op.mapEntry t m x)(K:kH P k ok enc)(B:P.underlying t=some (.map k e)){z:β}(D:(zeroValue e).run P w=.ok (ev z) w)
 (c:α) (v:ok c) (A:a.eval m=.map (some b)) (C:a.eval x=enc c) (h:bI ok enc ev w b l)
 (u:∀(st:Nat) (w':World),bI ok enc ev w' b (cJ l c ((eE l c).getD z))->aA (fun i=>i=b) w w'->uG enc w' b c st->wpList P ops Q rest (a.put o.dst (.tuple #[ev ((eE l c).getD z),goInt st])) w'):wpList P ops Q (o::rest) a w:=by
 refine wpList_plain y fun E f=>?_
 obtain⟨st,w',d,p,q,s⟩:=h.entry K B D c v;unfold Oper.wp;simp[execOp,g,A,C,d,Result.andThen];exact f _ _ (u st w' p q s)
theorem mT[DecidableEq α](B:o.guard=none)(A:o.dst=none)(m s v:Operand)(t:TypeId)(g:o.op=Op.entryStore t m s v)(K:kH P k ok enc)
 (c:α) (z:ok c){st:Nat}(u:β) (C:a.eval m=.map (some b)) (D:a.eval s=goInt st) (E:a.eval v=ev u) (h:bI ok enc ev w b l) (p:uG enc w b c st)
 (y:∀w':World,bI ok enc ev w' b (cJ l c u)->aA (fun i=>i=b) w w'->wpList P ops Q rest a w'):wpList P ops Q (o::rest) a w:=by
 refine wpList_plain B fun G f=>?_
 obtain⟨w',d,q,x⟩:=h.store K t c z p u;unfold Oper.wp;simp[execOp,g,C,D,E,d,Result.andThen];exact f _ _ (by simpa [A,Act.put] using y w' q x)
theorem nP[DecidableEq α](A:o.guard=none)(z:o.dst=none)(m x v:Operand)(t:TypeId)(g:o.op=Op.mapUpdate t m x v)(K:kH P k ok enc)(C:P.underlying t=some (.map k e))
 (c:α) (y:ok c) (u:β) (B:a.eval m=.map (some b)) (E:a.eval x=enc c) (D:a.eval v=ev u) (h:bI ok enc ev w b l)
 (s:∀w':World,bI ok enc ev w' b (cJ l c u)->aA (fun i=>i=b) w w'->wpList P ops Q rest a w'):wpList P ops Q (o::rest) a w:=by
 refine wpList_plain A fun G f=>?_
 obtain⟨w',d,p,q⟩:=h.update K C c y u;unfold Oper.wp;simp[execOp,g,B,E,D,d,Result.andThen];exact f _ _ (by simpa [z,Act.put] using s w' p q)
end
end
end Go.Proofs.YtoeinblfcbpcmaaGreatDoor
