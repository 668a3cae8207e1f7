import Derived.Test.YtiinnfhjpaeffaaGreatU1
import Derived.Maps.Keyed
import Derived.Maps.RangeRun
import Derived.Maps.RangeWalk
import Derived.WideKeyEntry
import Derived.DeepKeys5
import Derived.Sort.MapsRangeIn
namespace Go.Proofs.YtiinnfhjpaeffaaGreat
set_option maxHeartbeats 0
set_option maxRecDepth 100000
set_option linter.unusedVariables false
section
open Go.RowKit Go.Maps Go.ChangeMaps
section
variable {α β:Type}{P:Program}{k:TypeId}{ok:α->Prop}{enc:α->Value}{ev:β->Value}{w:World}{b:Nat}{l:List (α×β)}
structure mV(P:Program)(k:TypeId)(ok:α->Prop)(enc:α->Value):Prop where
 law:Keyed P k
 key:∀a,ok a->∃x,keyOf P k (enc a)=some x
 inj:∀a c,ok a->ok c->enc a=enc c->a=c
def jD(ok:α->Prop)(enc:α->Value)(ev:β->Value)(es:Array MapEntry)(clock:Nat)(l:List (α×β)):Prop:=
 es.toList.map (fun e=>(e.key,e.val))=l.map (fun p=>(enc p.1,ev p.2))/\(es.toList.map (·.born)).Nodup/\(∀e∈es.toList,e.born<clock)/\(l.map (·.1)).Nodup/\∀p∈l,ok p.1
def cG(ok:α->Prop)(enc:α->Value)(ev:β->Value)(w:World)(b:Nat)(l:List (α×β)):Prop:=
 ∃es clock,w.heap[b]?=some (.map es clock)/\jD ok enc ev es clock l
variable{es:Array MapEntry}{clock j b:Nat}{e t:TypeId}{w:World}{o:Obj}
theorem cG.keep{f:World}{S:Nat->Prop}(h:cG ok enc ev w b l)(k:aA S w f)(g:¬S b):cG ok enc ev f b l:=by
 obtain⟨es,clock,d,i⟩:=h;have c:b<w.heap.size:=(Array.getElem?_eq_some_iff.1 d).1;exact⟨es,clock,by rw[k.block b c g];exact d,i⟩
theorem cG.made(w:World):cG ok enc ev (w.alloc (.map #[] 0)) w.heap.size ([]:List (α×β)):=
 ⟨#[],0,heap_alloc_new _ _,by simp[jD]⟩
theorem jD.get(h:jD ok enc ev es clock l){e:MapEntry}(f:es.toList[j]?=some e):∃a v,l[j]?=some (a,v)/\e.key=enc a/\e.val=ev v/\ok a:=by
 have c:=congrArg (fun x=>x[j]?) h.1;simp only[List.getElem?_map,f,Option.map_some] at c;rcases d:l[j]? with _|⟨a,v⟩
 ·rw[d] at c;simp at c
 ·rw[d] at c
  simp only[Option.map_some,Option.some.injEq,Prod.mk.injEq] at c;exact⟨a,v,rfl,c.1,c.2,h.2.2.2.2 _ (List.mem_of_getElem? d)⟩
theorem jD.len(h:jD ok enc ev es clock l):es.toList.length=l.length:=by
 have:=congrArg List.length h.1
 simpa using this
theorem jD.find(K:mV P k ok enc)(h:jD ok enc ev es clock l)(w:World)(a:α)(C:ok a) :
 ((Instr.findKey k (enc a) es.toList).run P w=.ok none w/\∀p∈l,p.1≠a) \/
 ∃j v e,(Instr.findKey k (enc a) es.toList).run P w=.ok (some (j,ev v)) w/\l[j]?=some (a,v)/\es.toList[j]?=some e/\e.key=enc a/\e.val=ev v:=by
 obtain⟨x,I⟩:=K.key a C
 have f:∀e∈es.toList,∃y,keyOf P k e.key=some y:=fun e G=>by
  obtain⟨j,g⟩:=List.getElem?_of_mem G;obtain⟨d,v,-,c,-,E⟩:=h.get g;rw[c];exact K.key d E
 rcases K.law.find w I es.toList f with⟨s,c⟩|⟨j,e,s,c,B⟩
 ·refine .inl ⟨s,fun p H z=>?_⟩
  obtain⟨j,g⟩:=List.getElem?_of_mem H;have u:=(List.getElem?_eq_some_iff.1 g).1;have i:j<es.toList.length:=by rw[h.len];exact u
  obtain⟨d,v,m,q,-,-⟩:=h.get (List.getElem?_eq_getElem i);rw[m] at g;cases g
  exact c _ (List.getElem_mem i) (by rw[q,←z])
 ·obtain⟨d,v,m,q,A,D⟩:=h.get c
  have:d=a:=K.inj d a D C (by rw[←q,B]);subst this;exact .inr ⟨j,v,e,by rw[s,A],m,c,B,A⟩
def mW[DecidableEq α](l:List (α×β))(a:α):Option β:=(l.find? fun p=>decide (p.1=a)).map (·.2)
theorem Cw[DecidableEq α]{a:α}(h:∀p∈l,p.1≠a):mW l a=none:=by
 unfold mW;rw[List.find?_eq_none.2 (fun p c=>by simpa using h p c)];rfl
theorem Gs[DecidableEq α]{a:α}{v:β}(c:(l.map (·.1)).Nodup)(h:l[j]?=some (a,v)):mW l a=some v:=by
 induction l generalizing j with
 | nil=>simp at h
 | cons p l g =>
   rw[List.map_cons,List.nodup_cons] at c;cases j with
   | zero =>
     simp only[List.getElem?_cons_zero,Option.some.injEq] at h;subst h;simp[mW]
   | succ j =>
     rw[List.getElem?_cons_succ] at h;have f:a∈l.map (·.1):=List.mem_map.2 ⟨_,List.mem_of_getElem? h,rfl⟩;have d:p.1≠a:=fun e=>c.1 (e▸f)
     have:=g c.2 h
     simpa [mW,d] using this
def eI[DecidableEq α](l:List (α×β))(a:α)(v:β):List (α×β):=
 if l.any (fun p=>decide (p.1=a)) then l.map (fun p=>if p.1=a then (a,v) else p) else l++[(a,v)]
theorem zJ[DecidableEq α]{a:α}(h:∀p∈l,p.1≠a)(v:β):eI l a v=l++[(a,v)]:=by
 unfold eI;rw[if_neg];simp only[List.any_eq_true,not_exists,not_and];intro p c
 simpa using h p c
theorem Cx[DecidableEq α]{a:α}{u:β}(C:(l.map (·.1)).Nodup)(h:l[j]?=some (a,u))(v:β):eI l a v=l.set j (a,v):=by
 unfold eI;rw[if_pos (by simp only[List.any_eq_true];exact⟨_,List.mem_of_getElem? h,by simp⟩)];apply List.ext_getElem?;intro i;rw[List.getElem?_map,List.getElem?_set];have B:=(List.getElem?_eq_some_iff.1 h).1
 by_cases c:j=i
 ·subst c
  rw[if_pos rfl,if_pos B,h];simp
 ·rw[if_neg c]
  rcases A:l[i]? with _|p
  ·rfl
  ·have m:p.1≠a:=by
    intro e;apply c;have y:(l.map (·.1))[j]?=some a:=by rw[List.getElem?_map,h];rfl
    have z:(l.map (·.1))[i]?=some a:=by rw[List.getElem?_map,A,Option.map_some,e]
    obtain⟨f,q⟩:=List.getElem?_eq_some_iff.1 y;obtain⟨d,s⟩:=List.getElem?_eq_some_iff.1 z;have x:=List.pairwise_iff_getElem.1 C;rcases Nat.lt_trichotomy j i with g|g|g
    ·exact absurd (q.trans s.symm) (x j i f d g)
    ·exact g
    ·exact absurd (s.trans q.symm) (x i j d f g)
   simp[m]
theorem cG.lookup[DecidableEq α](h:cG ok enc ev w b l)(K:mV P k ok enc)(p:P.underlying t=some (.map k e)){z:β}(s:(zeroValue e).run P w=.ok (ev z) w)(a:α)(g:ok a)(c:Bool) :
 (Instr.lookup t (.map (some b)) (enc a) c).run P w=.ok (if c then .tuple #[ev ((mW l a).getD z),.bool (mW l a).isSome] else ev ((mW l a).getD z)) w:=by
 obtain⟨es,clock,i,m⟩:=h;obtain⟨x,q⟩:=K.key a g;rcases m.find K w a g with⟨d,f⟩|⟨j,v,e,d,f,u,y,A⟩
 ·rw[Cw f]
  simp[Instr.lookup,run_underlying p,MapKept.run_getObj_map i,K.law.check w _ q,d,s,Result.andThen]
 ·rw[Gs m.2.2.2.1 f]
  simp[Instr.lookup,run_underlying p,MapKept.run_getObj_map i,K.law.check w _ q,d,Result.andThen]
theorem iE(w:World)(b:Nat)(o:Obj):aA (fun i=>i=b) w (setBlock w b o):=by
 refine⟨rfl,rfl,rfl,by simp[setBlock],fun i d c=>?_⟩;simp only[setBlock];rw[Array.getElem?_setIfInBounds_ne (fun e=>c e.symm)]
theorem iU{o':Obj}(h:w.heap[b]?=some o'):(setBlock w b o).heap[b]?=some o:=by
 have:=(Array.getElem?_eq_some_iff.1 h).1;simp only[setBlock];rw[Array.getElem?_setIfInBounds_self_of_lt this]
theorem wD(h:w.heap[b]?=some o):setBlock w b o=w:=by
 have c:=(Array.getElem?_eq_some_iff.1 h).1
 have:w.heap.setIfInBounds b o=w.heap:=by
  apply Array.ext_getElem?;intro i
  by_cases d:i=b
  ·subst d;rw[Array.getElem?_setIfInBounds_self_of_lt c,h]
  ·rw[Array.getElem?_setIfInBounds_ne (fun e=>d e.symm)]
 unfold setBlock;rw[this]
def P5(enc:α->Value)(w:World)(b:Nat)(a:α)(st:Nat):Prop:=∃es clock e,w.heap[b]?=some (.map es clock)/\e∈es.toList/\e.key=enc a/\e.born=st
theorem cG.entry[DecidableEq α](h:cG ok enc ev w b l)(K:mV P k ok enc)(N:P.underlying t=some (.map k e)){z:β}(S:(zeroValue e).run P w=.ok (ev z) w)(a:α)(I:ok a) :
 ∃(st:Nat) (E:World),(Instr.mapEntry t (.map (some b)) (enc a)).run P w=.ok (.tuple #[ev ((mW l a).getD z),goInt st]) E/\cG ok enc ev E b (eI l a ((mW l a).getD z))/\aA (fun i=>i=b) w E/\P5 enc E b a st:=by
 obtain⟨es,clock,m,f⟩:=h;obtain⟨x,J⟩:=K.key a I;rcases f.find K w a I with⟨G,q⟩|⟨j,v,A,G,q,B,H,T⟩
 ·rw[Cw q,zJ q]
  refine⟨clock,setBlock w b (.map (es.push ⟨enc a,ev z,clock⟩) (clock+1)),?_,⟨_,_,iU m,?_,?_,?_,?_,?_⟩,iE _ _ _,⟨_,_,⟨enc a,ev z,clock⟩,iU m,by simp,rfl,rfl⟩⟩
  ·simp[Instr.mapEntry,run_underlying N,MapKept.run_getObj_map m,K.law.check w false J,G,S,MapKept.run_setObj_map _ m,Result.andThen,setBlock]
  ·simp[f.1]
  ·simp only[Array.toList_push,List.map_append,List.map_cons,List.map_nil]
   refine List.nodup_append.2 ⟨f.2.1,by simp,fun p g c D L=>?_⟩;simp only[List.mem_singleton] at D;obtain⟨y,s,rfl⟩:=List.mem_map.1 g;have:=f.2.2.1 y s;omega
  ·intro y s
   simp only[Array.toList_push,List.mem_append,List.mem_singleton] at s;rcases s with s|rfl
   ·have:=f.2.2.1 y s;omega
   ·exact Nat.lt_succ_self _
  ·rw[List.map_append]
   refine List.nodup_append.2 ⟨f.2.2.2.1,by simp,fun p g c D L=>?_⟩;obtain⟨y,s,rfl⟩:=List.mem_map.1 g;simp at D;subst D;exact q y s L
  ·intro p g
   rcases List.mem_append.1 g with g|g
   ·exact f.2.2.2.2 p g
   ·simp at g;subst g;exact I
 ·rw[Gs f.2.2.2.1 q,Option.getD_some,Cx f.2.2.2.1 q]
  have C:l.set j (a,v)=l:=by
   apply List.ext_getElem?;intro i;rw[List.getElem?_set]
   by_cases d:j=i
   ·subst d;rw[if_pos rfl,if_pos (List.getElem?_eq_some_iff.1 q).1,q]
   ·rw[if_neg d]
  have R:es[j]?=some A:=by simpa using B
  have u:es.modify j (fun e=>{ e with key:=enc a })=es:=by
   apply Array.ext';rw[Array.toList_modify,modify_eq_set _ _ _ _ B];have:({ A with key:=enc a }:MapEntry)=A:=by rw[←H]
   rw[this];apply List.ext_getElem?;intro i;rw[List.getElem?_set]
   by_cases d:j=i
   ·subst d;rw[if_pos rfl,if_pos (List.getElem?_eq_some_iff.1 B).1,B]
   ·rw[if_neg d]
  rw[C];refine⟨A.born,w,?_,⟨es,clock,m,f⟩,aA.refl _ _,⟨es,clock,A,m,List.mem_of_getElem? B,H,rfl⟩⟩;have M:=wD m;unfold setBlock at M;simp[Instr.mapEntry,run_underlying N,MapKept.run_getObj_map m,K.law.check w false J,G,R,H,K.law.stays w J,u,MapKept.run_setObj_map _ m,Result.andThen,M]
end
open Go.RowKit Go.Maps Go.ChangeMaps
set_option linter.unusedVariables false
section
variable {α β:Type}{P:Program}{k:TypeId}{ok:α->Prop}{enc:α->Value}{ev:β->Value}{w:World}{b:Nat}{l:List (α×β)}
variable{es:Array MapEntry}{clock r:Nat}{t e:TypeId}
theorem jD.setVal(h:jD ok enc ev es clock l){j:Nat}{a:α}{u:β}(x:l[j]?=some (a,u)){f:MapEntry}(m:es.toList[j]?=some f)(A:f.key=enc a)(v:β) :
 jD ok enc ev (es.modify j fun e=>{ e with key:=enc a,val:=ev v }) clock (l.set j (a,v)):=by
 have y:(es.modify j fun e=>{ e with key:=enc a,val:=ev v }).toList=es.toList.set j { f with key:=enc a,val:=ev v }:=by
  rw[Array.toList_modify,modify_eq_set _ _ _ _ m]
 have s:=(List.getElem?_eq_some_iff.1 x).1;have q:=(List.getElem?_eq_some_iff.1 m).1;refine⟨?_,?_,?_,?_,?_⟩
 ·rw[y,List.map_set,List.map_set,h.1]
 ·rw[y,List.map_set]
  have:(es.toList.map (·.born)).set j f.born=es.toList.map (·.born):=by
   apply List.ext_getElem?;intro i;rw[List.getElem?_set]
   by_cases c:j=i
   ·subst c;rw[if_pos rfl,if_pos (by simpa using q),List.getElem?_map,m];rfl
   ·rw[if_neg c]
  rw[this];exact h.2.1
 ·intro e g
  rw[y] at g;rcases List.mem_or_eq_of_mem_set g with d|d
  ·exact h.2.2.1 e d
  ·rw[d];exact h.2.2.1 f (List.mem_of_getElem? m)
 ·rw[List.map_set]
  have:(l.map (·.1)).set j a=l.map (·.1):=by
   apply List.ext_getElem?;intro i;rw[List.getElem?_set]
   by_cases c:j=i
   ·subst c;rw[if_pos rfl,if_pos (by simpa using s),List.getElem?_map,x];rfl
   ·rw[if_neg c]
  rw[this];exact h.2.2.2.1
 ·intro p z
  rcases List.mem_or_eq_of_mem_set z with d|d
  ·exact h.2.2.2.2 p d
  ·rw[d];exact h.2.2.2.2 (a,u) (List.mem_of_getElem? x)
theorem jD.push(h:jD ok enc ev es clock l){a:α}(m:ok a)(q:∀p∈l,p.1≠a)(v:β):jD ok enc ev (es.push ⟨enc a,ev v,clock⟩) (clock+1) (l++[(a,v)]):=by
 refine⟨by simp[h.1],?_,?_,?_,?_⟩
 ·simp only[Array.toList_push,List.map_append,List.map_cons,List.map_nil]
  refine List.nodup_append.2 ⟨h.2.1,by simp,fun p d c g i=>?_⟩;simp only[List.mem_singleton] at g;obtain⟨y,f,rfl⟩:=List.mem_map.1 d;have:=h.2.2.1 y f;omega
 ·intro y f
  simp only[Array.toList_push,List.mem_append,List.mem_singleton] at f;rcases f with f|rfl
  ·have:=h.2.2.1 y f;omega
  ·exact Nat.lt_succ_self _
 ·rw[List.map_append]
  refine List.nodup_append.2 ⟨h.2.2.2.1,by simp,fun p d c g i=>?_⟩;obtain⟨y,f,rfl⟩:=List.mem_map.1 d;simp at g;subst g;exact q y f i
 ·intro p d
  rcases List.mem_append.1 d with d|d
  ·exact h.2.2.2.2 p d
  ·simp at d;subst d;exact m
theorem cG.update[DecidableEq α](h:cG ok enc ev w b l)(K:mV P k ok enc)(z:P.underlying t=some (.map k e))(a:α)(m:ok a)(v:β) :
 ∃q,(Instr.mapUpdate t (.map (some b)) (enc a) (ev v)).run P w=.ok () q/\cG ok enc ev q b (eI l a v)/\aA (fun i=>i=b) w q:=by
 obtain⟨es,clock,c,f⟩:=h;obtain⟨x,p⟩:=K.key a m;rcases f.find K w a m with⟨g,d⟩|⟨j,u,A,g,d,s,y,C⟩
 ·rw[zJ d]
  refine⟨setBlock w b (.map (es.push ⟨enc a,ev v,clock⟩) (clock+1)),?_,⟨_,_,iU c,f.push m d v⟩,iE _ _ _⟩;simp[Instr.mapUpdate,run_underlying z,MapKept.run_getObj_map c,K.law.check w false p,g,MapKept.run_setObj_map _ c,Result.andThen,setBlock]
 ·rw[Cx f.2.2.2.1 d]
  have B:es[j]?=some A:=by simpa using s
  refine⟨setBlock w b (.map (es.modify j fun x=>{ x with key:=enc a,val:=ev v }) clock),?_,⟨_,_,iU c,f.setVal d s y v⟩,iE _ _ _⟩;simp[Instr.mapUpdate,run_underlying z,MapKept.run_getObj_map c,K.law.check w false p,g,B,y,K.law.stays w p,MapKept.run_setObj_map _ c,Result.andThen,setBlock]
def cP(ok:α->Prop)(enc:α->Value)(ev:β->Value)(w:World)(b r:Nat)(l left:List (α×β)):Prop:=
 ∃es clock since c c0,w.heap[b]?=some (.map es clock)/\jD ok enc ev es clock l/\w.heap[r]?=some (.mapIter (some b) since c c0)/\(∀x∈es.toList,x.born<since)/\since≤c0/\since≤clock /\
  (leftOf es c).toList.map (fun e=>(e.key,e.val))=left.map (fun p=>(enc p.1,ev p.2))/\(∀p∈left,p∈l)
theorem cP.keep{m:World}{S:Nat->Prop}{left:List (α×β)}(h:cP ok enc ev w b r l left)(k:aA S w m)(p:¬S b)(s:¬S r):cP ok enc ev m b r l left:=by
 obtain⟨es,clock,since,c,c0,g,q,i,h⟩:=h;have f:b<w.heap.size:=(Array.getElem?_eq_some_iff.1 g).1;have d:r<w.heap.size:=(Array.getElem?_eq_some_iff.1 i).1;exact⟨es,clock,since,c,c0,by rw[k.block b f p];exact g,q,by rw[k.block r d s];exact i,h⟩
theorem cP.map{left:List (α×β)}(h:cP ok enc ev w b r l left):cG ok enc ev w b l:=by
 obtain⟨es,clock,since,c,c0,d,f,-⟩:=h;exact⟨es,clock,d,f⟩
theorem cP.ne{left:List (α×β)}(h:cP ok enc ev w b r l left):r≠b:=by
 obtain⟨es,clock,since,d,c0,f,g,c,-⟩:=h;intro e;rw[e,f] at c;cases c
theorem cG.range(h:cG ok enc ev w b l)(m:P.underlying t=some (.map k e)) :
 ∃c,(Instr.range t (.map (some b))).run P w=.ok (.pointer (w.heap.size)) c/\cP ok enc ev c b w.heap.size l l/\aA aB w c/\c.heap.size=w.heap.size+1:=by
 obtain⟨es,clock,d,f⟩:=h;have g:b<w.heap.size:=(Array.getElem?_eq_some_iff.1 d).1;have K:=(aA.refl aB w).alloc (.mapIter (some b) clock #[] clock);refine⟨w.alloc (.mapIter (some b) clock #[] clock),?_,⟨es,clock,clock,#[],clock,?_,f,heap_alloc_new _ _,f.2.2.1,Nat.le_refl _,Nat.le_refl _,?_,fun p i=>i⟩,K,World.size_alloc _ _⟩
 ·simp[Instr.range,run_underlying m,MapKept.run_getObj_map d,Result.andThen]
 ·rw[K.block b g id];exact d
 ·have:leftOf es #[]=es:=by unfold leftOf;exact Array.filter_eq_self.2 (fun x q=>by simp)
  rw[this];exact f.1
def tF(enc:α->Value)(ev:β->Value)(w:World)(b r:Nat)(a:α)(v:β):Prop:=(∀P:Program,(Instr.entry (.pointer r)).run P w=.ok (.tuple #[enc a,ev v]) w)
theorem cP.next{left:List (α×β)}(h:cP ok enc ev w b r l left)(W:TypeId) :
 (left=[]/\(Instr.next (.pointer r) false W).run P w=.ok (.tuple #[.bool false]) w) \/
 ∃i a v G,left[i]?=some (a,v)/\ok a/\(Instr.next (.pointer r) false W).run P w=.ok (.tuple #[.bool true,enc a,ev v]) G/\cP ok enc ev G b r l (left.eraseIdx i)/\aA (fun k=>k=r) w G/\G.heap.size=w.heap.size/\tF enc ev G b r a v:=by
 have U:=h.ne;obtain⟨es,clock,since,c,c0,M,K,Y,m,V,z,d,s⟩:=h
 have qa:(leftOf es c).size=left.length:=by
  have:=congrArg List.length d
  simpa using this
 rcases run_next_at (P:=P) w W r b since c0 c es clock Y M m V with⟨h0,f⟩|⟨e,I,H,E,f⟩
 ·exact .inl ⟨List.eq_nil_of_length_eq_zero (by omega),f⟩
 ·right
  obtain⟨i,C⟩:=List.getElem?_of_mem I;have g:=congrArg (fun x=>x[i]?) d;simp only[List.getElem?_map,C,Option.map_some] at g;rcases J:left[i]? with _|⟨a,v⟩
  ·rw[J] at g;simp at g
  rw[J] at g;simp only[Option.map_some,Option.some.injEq,Prod.mk.injEq] at g;have R:aA aB w H:=by rcases E with rfl|rfl;exact aA.refl _ _;exact(aA.refl _ _).drew
  have D:H.heap=w.heap:=by rcases E with rfl|rfl<;>rfl
  have Z:aA (fun k=>k=r) w (setBlock H r (.mapIter (some b) since (c.push e.born) clock)):=R.trans' (iE _ _ _) (fun _ _ h=>h.elim) (fun _ _ h=>h);have N:b<w.heap.size:=(Array.getElem?_eq_some_iff.1 M).1;have y:(setBlock H r (.mapIter (some b) since (c.push e.born) clock)).heap[b]?=some (.map es clock):=by rw[Z.block b N (fun e=>U e.symm)];exact M
  have B:(setBlock H r (.mapIter (some b) since (c.push e.born) clock)).heap[r]?=some (.mapIter (some b) since (c.push e.born) clock):=iU (o':=.mapIter (some b) since c c0) (by rw[D];exact Y);have A:e∈es.toList:=by unfold leftOf at I;simp at I;simpa using I.1
  refine⟨i,a,v,_,J,K.2.2.2.2 _ (s _ (List.mem_of_getElem? J)),by rw[←g.1,←g.2];exact f,⟨es,clock,since,c.push e.born,clock,y,K,B,m,z,z,?_,?_⟩,Z,by simp[setBlock,D],fun P=>?_⟩
  ·have hf:(leftOf es (c.push e.born)).toList=(leftOf es c).toList.eraseIdx i:=by
    have X:(leftOf es c).toList=es.toList.filter fun x=>!c.contains x.born:=by simp[leftOf]
    have L:(leftOf es (c.push e.born)).toList=(leftOf es c).toList.filter fun x=>!(x.born == e.born):=by
     rw[X,List.filter_filter];simp only[leftOf,Array.toList_filter];apply List.filter_congr;intro x _;simp only[Array.contains_push];cases x.born == e.born<;>simp
    rw[L];refine filter_eq_eraseIdx (fun x:MapEntry=>x.born == e.born) _ i e C (by simp) ?_;have S:((leftOf es c).toList.map (·.born)).Nodup:=by rw[X];exact(List.filter_sublist.map _).nodup K.2.1
    refine(List.pairwise_map.1 S).imp fun {p q} T u=>?_
    simp only[beq_iff_eq] at u;exact T (u.1.trans u.2.symm)
   rw[hf,map_eraseIdx,map_eraseIdx,d]
  ·exact fun p hp=>s p ((List.eraseIdx_sublist left i).subset hp)
  ·rw[←g.1,←g.2]
   exact run_entry_at _ r b since c es clock e B y A K.2.1
end
open Go.RowKit Go.Maps Go.ChangeMaps
set_option linter.unusedVariables false
section
variable {α β:Type}{F:Fence}{n:Nat}{P:Program}{k:TypeId}{ok:α->Prop}{enc:α->Value}{ev:β->Value}{w:World}{b:Nat}{l:List (α×β)}
variable {ops:Array Oper}{xT:List Oper}{o:Oper}{a:Act}{Q:Exit->Act->World->Prop}
variable{e:TypeId}{r:Nat}
theorem zA(s:o.guard=none)(m:Operand)(t:TypeId)(d:o.op=Op.range t m){k:TypeId}(v:P.underlying t=some (.map k e))(u:a.eval m=.map (some b))(h:cG ok enc ev w b l)
 (q:∀f,cP ok enc ev f b w.heap.size l l->aA aB w f->f.heap.size=w.heap.size+1->wpListIn F n P ops Q xT (a.put o.dst (.pointer (w.heap.size))) f) :
 wpListIn F n P ops Q (o::xT) a w:=by
 refine wpListIn_plain s fun A i=>?_
 obtain⟨f,g,x,y,z⟩:=h.range v;unfold Oper.wpIn;refine⟨by simp[Oper.about,d],?_⟩;rw[Oper.semAt_plain F _ _ (by rw[d];intro c p;cases p)];simp[execOp,d,u,g,Result.andThen];exact i _ _ (q f x y z)
theorem Ab(E:o.guard=none)(y:Operand)(f:o.op=Op.next y false){left:List (α×β)}(s:a.eval y=.pointer r)(h:cP ok enc ev w b r l left)
 (g:left=[]->wpListIn F n P ops Q xT (a.put o.dst (.tuple #[.bool false])) w)
 (m:∀i x v p,left[i]?=some (x,v)->ok x->cP ok enc ev p b r l (left.eraseIdx i)->aA (fun k=>k=r) w p->p.heap.size=w.heap.size->tF enc ev p b r x v->wpListIn F n P ops Q xT (a.put o.dst (.tuple #[.bool true,enc x,ev v])) p) :
 wpListIn F n P ops Q (o::xT) a w:=by
 refine wpListIn_plain E fun G q=>?_
 unfold Oper.wpIn;refine⟨by simp[Oper.about,f],?_⟩;rw[Oper.semAt_plain F _ _ (by rw[f];intro c u;cases u)];rcases h.next (P:=P) o.type with⟨h0,d⟩|⟨i,x,v,p,z,A,d,B,C,D,h6⟩
 ·simp[execOp,f,s,d,Result.andThen]
  exact q _ _ (g h0)
 ·simp[execOp,f,s,d,Result.andThen]
  exact q _ _ (m i x v p z A B C D h6)
theorem zC(q:o.guard=none)(m:Operand)(d:o.op=Op.entry m){x:α}{v:β}(i:a.eval m=.pointer r)(h:tF enc ev w b r x v)
 (p:wpListIn F n P ops Q xT (a.put o.dst (.tuple #[enc x,ev v])) w):wpListIn F n P ops Q (o::xT) a w:=by
 refine wpListIn_plain q fun s f=>?_
 unfold Oper.wpIn;refine⟨by simp[Oper.about,d],?_⟩;rw[Oper.semAt_plain F _ _ (by rw[d];intro c g;cases g)];simp[execOp,d,i,h P,Result.andThen];exact f _ _ p
theorem wG[DecidableEq α](q:o.guard=none)(m x:Operand)(t:TypeId)(g:o.op=Op.lookup t m x true)(K:mV P k ok enc)(u:P.underlying t=some (.map k e)){z:β}(y:(zeroValue e).run P w=.ok (ev z) w)
 (c:α) (p:ok c) (s:a.eval m=.map (some b)) (v:a.eval x=enc c) (h:cG ok enc ev w b l) (i:wpList P ops Q xT (a.put o.dst (.tuple #[ev ((mW l c).getD z),.bool (mW l c).isSome])) w):wpList P ops Q (o::xT) a w:=by
 refine wpList_plain q fun A f=>?_
 have d:=h.lookup K u y c p true;unfold Oper.wp;simp[execOp,g,s,v,d,Result.andThen];exact f _ _ i
theorem nL[DecidableEq α](B:o.guard=none)(A:o.dst=none)(m x v:Operand)(t:TypeId)(p:o.op=Op.mapUpdate t m x v)(K:mV P k ok enc)(D:P.underlying t=some (.map k e))
 (c:α) (z:ok c) (u:β) (C:a.eval m=.map (some b)) (G:a.eval x=enc c) (E:a.eval v=ev u) (h:cG ok enc ev w b l)
 (y:∀f:World,cG ok enc ev f b (eI l c u)->aA (fun i=>i=b) w f->wpList P ops Q xT a f):wpList P ops Q (o::xT) a w:=by
 refine wpList_plain B fun H g=>?_
 obtain⟨f,d,q,s⟩:=h.update K D c z u;unfold Oper.wp;simp[execOp,p,C,G,E,d,Result.andThen];exact g _ _ (by simpa [A,Act.put] using y f q s)
end
end
end Go.Proofs.YtiinnfhjpaeffaaGreat
