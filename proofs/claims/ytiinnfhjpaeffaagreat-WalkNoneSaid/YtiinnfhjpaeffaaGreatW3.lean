import Derived.Test.YtiinnfhjpaeffaaGreatW1
import Derived.Maps.Keyed
import Derived.Maps.RangeRun
import Derived.Maps.RangeWalk
import Derived.WideKeyEntry
import Derived.DeepKeys5
import Derived.Sort.MapsRangeIn
namespace Go.Proofs.YtiinnfhjpaeffaaGreat
set_option maxHeartbeats 64000000
set_option maxRecDepth 100000
set_option linter.unusedVariables false
section
open Go.RowKit Go.Maps Go.ChangeMaps
section
variable {α β:Type}{P:Program}{k:TypeId}{ok:α->Prop}{enc:α->Value}{ev:β->Value}{w:World}{b:Nat}{l:List (α×β)}
structure tK(P:Program)(k:TypeId)(ok:α->Prop)(enc:α->Value):Prop where
 law:Keyed P k
 key:∀a,ok a->∃x,keyOf P k (enc a)=some x
 inj:∀a c,ok a->ok c->enc a=enc c->a=c
def iD(ok:α->Prop)(enc:α->Value)(ev:β->Value)(es:Array MapEntry)(clock:Nat)(l:List (α×β)):Prop:=
 es.toList.map (fun e=>(e.key,e.val))=l.map (fun p=>(enc p.1,ev p.2))/\(es.toList.map (·.born)).Nodup/\(∀e∈es.toList,e.born<clock)/\(l.map (·.1)).Nodup/\∀p∈l,ok p.1
def cN(ok:α->Prop)(enc:α->Value)(ev:β->Value)(w:World)(b:Nat)(l:List (α×β)):Prop:=
 ∃es clock,w.heap[b]?=some (.map es clock)/\iD ok enc ev es clock l
theorem cN.keep{w':World}{S:Nat->Prop}(h:cN ok enc ev w b l)(k:aA S w w')(hS:¬S b):cN ok enc ev w' b l:=by
 obtain⟨es,clock,hb,hm⟩:=h;have hlt:b<w.heap.size:=(Array.getElem?_eq_some_iff.1 hb).1;exact⟨es,clock,by rw[k.block b hlt hS];exact hb,hm⟩
theorem cN.made(w:World):cN ok enc ev (w.alloc (.map #[] 0)) w.heap.size ([]:List (α×β)):=
 ⟨#[],0,heap_alloc_new _ _,by simp[iD]⟩
theorem iD.get{es:Array MapEntry}{clock:Nat}(h:iD ok enc ev es clock l){j:Nat}{e:MapEntry}(he:es.toList[j]?=some e):∃a v,l[j]?=some (a,v)/\e.key=enc a/\e.val=ev v/\ok a:=by
 have h1:=congrArg (fun x=>x[j]?) h.1;simp only[List.getElem?_map,he,Option.map_some] at h1;rcases hl:l[j]? with _|⟨a,v⟩
 ·rw[hl] at h1;simp at h1
 ·rw[hl] at h1
  simp only[Option.map_some,Option.some.injEq,Prod.mk.injEq] at h1;exact⟨a,v,rfl,h1.1,h1.2,h.2.2.2.2 _ (List.mem_of_getElem? hl)⟩
theorem iD.len{es:Array MapEntry}{clock:Nat}(h:iD ok enc ev es clock l):es.toList.length=l.length:=by
 have:=congrArg List.length h.1
 simpa using this
theorem iD.find(K:tK P k ok enc){es:Array MapEntry}{clock:Nat}(h:iD ok enc ev es clock l)(w:World)(a:α)(ha:ok a) :
 ((Instr.findKey k (enc a) es.toList).run P w=.ok none w/\∀p∈l,p.1≠a) \/
 ∃j v e,(Instr.findKey k (enc a) es.toList).run P w=.ok (some (j,ev v)) w/\l[j]?=some (a,v)/\es.toList[j]?=some e/\e.key=enc a/\e.val=ev v:=by
 obtain⟨x,hx⟩:=K.key a ha
 have hall:∀e∈es.toList,∃y,keyOf P k e.key=some y:=fun e he=>by
  obtain⟨j,hj⟩:=List.getElem?_of_mem he;obtain⟨a',v,-,h2,-,h4⟩:=h.get hj;rw[h2];exact K.key a' h4
 rcases K.law.find w hx es.toList hall with⟨h1,h2⟩|⟨j,e,h1,h2,h3⟩
 ·refine .inl ⟨h1,fun p hp hpa=>?_⟩
  obtain⟨j,hj⟩:=List.getElem?_of_mem hp;have hjl:=(List.getElem?_eq_some_iff.1 hj).1;have hje:j<es.toList.length:=by rw[h.len];exact hjl
  obtain⟨a',v,g1,g2,-,-⟩:=h.get (List.getElem?_eq_getElem hje);rw[g1] at hj;cases hj
  exact h2 _ (List.getElem_mem hje) (by rw[g2,←hpa])
 ·obtain⟨a',v,g1,g2,g3,g4⟩:=h.get h2
  have:a'=a:=K.inj a' a g4 ha (by rw[←g2,h3]);subst this;exact .inr ⟨j,v,e,by rw[h1,g3],g1,h2,h3,g3⟩
def wS[DecidableEq α](l:List (α×β))(a:α):Option β:=(l.find? fun p=>decide (p.1=a)).map (·.2)
theorem GX[DecidableEq α]{a:α}(h:∀p∈l,p.1≠a):wS l a=none:=by
 unfold wS;rw[List.find?_eq_none.2 (fun p hp=>by simpa using h p hp)];rfl
theorem LE[DecidableEq α]{a:α}{v:β}(hn:(l.map (·.1)).Nodup){j:Nat}(h:l[j]?=some (a,v)):wS l a=some v:=by
 induction l generalizing j with
 | nil=>simp at h
 | cons p l ih =>
   rw[List.map_cons,List.nodup_cons] at hn;cases j with
   | zero =>
     simp only[List.getElem?_cons_zero,Option.some.injEq] at h;subst h;simp[wS]
   | succ j =>
     rw[List.getElem?_cons_succ] at h;have hm:a∈l.map (·.1):=List.mem_map.2 ⟨_,List.mem_of_getElem? h,rfl⟩;have hne:p.1≠a:=fun e=>hn.1 (e▸hm)
     have:=ih hn.2 h
     simpa [wS,hne] using this
def dX[DecidableEq α](l:List (α×β))(a:α)(v:β):List (α×β):=
 if l.any (fun p=>decide (p.1=a)) then l.map (fun p=>if p.1=a then (a,v) else p) else l++[(a,v)]
theorem vY[DecidableEq α]{a:α}(h:∀p∈l,p.1≠a)(v:β):dX l a v=l++[(a,v)]:=by
 unfold dX;rw[if_neg];simp only[List.any_eq_true,not_exists,not_and];intro p hp
 simpa using h p hp
theorem AH[DecidableEq α]{a:α}{u:β}(hn:(l.map (·.1)).Nodup){j:Nat}(h:l[j]?=some (a,u))(v:β):dX l a v=l.set j (a,v):=by
 unfold dX;rw[if_pos (by simp only[List.any_eq_true];exact⟨_,List.mem_of_getElem? h,by simp⟩)];apply List.ext_getElem?;intro i;rw[List.getElem?_map,List.getElem?_set];have hj:=(List.getElem?_eq_some_iff.1 h).1
 by_cases hij:j=i
 ·subst hij
  rw[if_pos rfl,if_pos hj,h];simp
 ·rw[if_neg hij]
  rcases hi:l[i]? with _|p
  ·rfl
  ·have hne:p.1≠a:=by
    intro e;apply hij;have h1:(l.map (·.1))[j]?=some a:=by rw[List.getElem?_map,h];rfl
    have h2:(l.map (·.1))[i]?=some a:=by rw[List.getElem?_map,hi,Option.map_some,e]
    obtain⟨hjl,e1⟩:=List.getElem?_eq_some_iff.1 h1;obtain⟨hil,e2⟩:=List.getElem?_eq_some_iff.1 h2;have hp:=List.pairwise_iff_getElem.1 hn;rcases Nat.lt_trichotomy j i with g|g|g
    ·exact absurd (e1.trans e2.symm) (hp j i hjl hil g)
    ·exact g
    ·exact absurd (e2.trans e1.symm) (hp i j hil hjl g)
   simp[hne]
theorem kP(w:World)(b:Nat)(o:Obj):aA (fun i=>i=b) w (setBlock w b o):=by
 refine⟨rfl,rfl,rfl,by simp[setBlock],fun i hi hne=>?_⟩;simp only[setBlock];rw[Array.getElem?_setIfInBounds_ne (fun e=>hne e.symm)]
theorem jE{w:World}{b:Nat}{o o':Obj}(h:w.heap[b]?=some o'):(setBlock w b o).heap[b]?=some o:=by
 have:=(Array.getElem?_eq_some_iff.1 h).1;simp only[setBlock];rw[Array.getElem?_setIfInBounds_self_of_lt this]
theorem BB{w:World}{b:Nat}{o:Obj}(h:w.heap[b]?=some o):setBlock w b o=w:=by
 have hlt:=(Array.getElem?_eq_some_iff.1 h).1
 have:w.heap.setIfInBounds b o=w.heap:=by
  apply Array.ext_getElem?;intro i
  by_cases hi:i=b
  ·subst hi;rw[Array.getElem?_setIfInBounds_self_of_lt hlt,h]
  ·rw[Array.getElem?_setIfInBounds_ne (fun e=>hi e.symm)]
 unfold setBlock;rw[this]
def NP(enc:α->Value)(w:World)(b:Nat)(a:α)(st:Nat):Prop:=∃es clock e,w.heap[b]?=some (.map es clock)/\e∈es.toList/\e.key=enc a/\e.born=st
theorem cN.entry[DecidableEq α](h:cN ok enc ev w b l)(K:tK P k ok enc){t e:TypeId}(ht:P.underlying t=some (.map k e)){z:β}(hz:(zeroValue e).run P w=.ok (ev z) w)(a:α)(ha:ok a) :
 ∃(st:Nat) (w':World),(Instr.mapEntry t (.map (some b)) (enc a)).run P w=.ok (.tuple #[ev ((wS l a).getD z),goInt st]) w'/\cN ok enc ev w' b (dX l a ((wS l a).getD z))/\aA (fun i=>i=b) w w'/\NP enc w' b a st:=by
 obtain⟨es,clock,hb,hm⟩:=h;obtain⟨x,hx⟩:=K.key a ha;rcases hm.find K w a ha with⟨h1,h2⟩|⟨j,v,e0,h1,h2,h3,h4,h5⟩
 ·rw[GX h2,vY h2]
  refine⟨clock,setBlock w b (.map (es.push ⟨enc a,ev z,clock⟩) (clock+1)),?_,⟨_,_,jE hb,?_,?_,?_,?_,?_⟩,kP _ _ _,⟨_,_,⟨enc a,ev z,clock⟩,jE hb,by simp,rfl,rfl⟩⟩
  ·simp[Instr.mapEntry,run_underlying ht,MapKept.run_getObj_map hb,K.law.check w false hx,h1,hz,MapKept.run_setObj_map _ hb,Result.andThen,setBlock]
  ·simp[hm.1]
  ·simp only[Array.toList_push,List.map_append,List.map_cons,List.map_nil]
   refine List.nodup_append.2 ⟨hm.2.1,by simp,fun p hp c hc e1=>?_⟩;simp only[List.mem_singleton] at hc;obtain⟨y,hy,rfl⟩:=List.mem_map.1 hp;have:=hm.2.2.1 y hy;omega
  ·intro y hy
   simp only[Array.toList_push,List.mem_append,List.mem_singleton] at hy;rcases hy with hy|rfl
   ·have:=hm.2.2.1 y hy;omega
   ·exact Nat.lt_succ_self _
  ·rw[List.map_append]
   refine List.nodup_append.2 ⟨hm.2.2.2.1,by simp,fun p hp c hc e1=>?_⟩;obtain⟨y,hy,rfl⟩:=List.mem_map.1 hp;simp at hc;subst hc;exact h2 y hy e1
  ·intro p hp
   rcases List.mem_append.1 hp with hp|hp
   ·exact hm.2.2.2.2 p hp
   ·simp at hp;subst hp;exact ha
 ·rw[LE hm.2.2.2.1 h2,Option.getD_some,AH hm.2.2.2.1 h2]
  have hset:l.set j (a,v)=l:=by
   apply List.ext_getElem?;intro i;rw[List.getElem?_set]
   by_cases hij:j=i
   ·subst hij;rw[if_pos rfl,if_pos (List.getElem?_eq_some_iff.1 h2).1,h2]
   ·rw[if_neg hij]
  have hj:es[j]?=some e0:=by simpa using h3
  have hsame:es.modify j (fun e=>{ e with key:=enc a })=es:=by
   apply Array.ext';rw[Array.toList_modify,modify_eq_set _ _ _ _ h3];have:({ e0 with key:=enc a }:MapEntry)=e0:=by rw[←h4]
   rw[this];apply List.ext_getElem?;intro i;rw[List.getElem?_set]
   by_cases hij:j=i
   ·subst hij;rw[if_pos rfl,if_pos (List.getElem?_eq_some_iff.1 h3).1,h3]
   ·rw[if_neg hij]
  rw[hset];refine⟨e0.born,w,?_,⟨es,clock,hb,hm⟩,aA.refl _ _,⟨es,clock,e0,hb,List.mem_of_getElem? h3,h4,rfl⟩⟩;have hs:=BB hb;unfold setBlock at hs;simp[Instr.mapEntry,run_underlying ht,MapKept.run_getObj_map hb,K.law.check w false hx,h1,hj,h4,K.law.stays w hx,hsame,MapKept.run_setObj_map _ hb,Result.andThen,hs]
end
open Go.RowKit Go.Maps Go.ChangeMaps
set_option linter.unusedVariables false
section
variable {α β:Type}{P:Program}{k:TypeId}{ok:α->Prop}{enc:α->Value}{ev:β->Value}{w:World}{b:Nat}{l:List (α×β)}
theorem iD.setVal{es:Array MapEntry}{clock:Nat}(h:iD ok enc ev es clock l){j:Nat}{a:α}{u:β}(hl:l[j]?=some (a,u)){e0:MapEntry}(he:es.toList[j]?=some e0)(hk:e0.key=enc a)(v:β) :
 iD ok enc ev (es.modify j fun e=>{ e with key:=enc a,val:=ev v }) clock (l.set j (a,v)):=by
 have hm:(es.modify j fun e=>{ e with key:=enc a,val:=ev v }).toList=es.toList.set j { e0 with key:=enc a,val:=ev v }:=by
  rw[Array.toList_modify,modify_eq_set _ _ _ _ he]
 have hjl:=(List.getElem?_eq_some_iff.1 hl).1;have hje:=(List.getElem?_eq_some_iff.1 he).1;refine⟨?_,?_,?_,?_,?_⟩
 ·rw[hm,List.map_set,List.map_set,h.1]
 ·rw[hm,List.map_set]
  have:(es.toList.map (·.born)).set j e0.born=es.toList.map (·.born):=by
   apply List.ext_getElem?;intro i;rw[List.getElem?_set]
   by_cases hij:j=i
   ·subst hij;rw[if_pos rfl,if_pos (by simpa using hje),List.getElem?_map,he];rfl
   ·rw[if_neg hij]
  rw[this];exact h.2.1
 ·intro e hem
  rw[hm] at hem;rcases List.mem_or_eq_of_mem_set hem with h1|h1
  ·exact h.2.2.1 e h1
  ·rw[h1];exact h.2.2.1 e0 (List.mem_of_getElem? he)
 ·rw[List.map_set]
  have:(l.map (·.1)).set j a=l.map (·.1):=by
   apply List.ext_getElem?;intro i;rw[List.getElem?_set]
   by_cases hij:j=i
   ·subst hij;rw[if_pos rfl,if_pos (by simpa using hjl),List.getElem?_map,hl];rfl
   ·rw[if_neg hij]
  rw[this];exact h.2.2.2.1
 ·intro p hp
  rcases List.mem_or_eq_of_mem_set hp with h1|h1
  ·exact h.2.2.2.2 p h1
  ·rw[h1];exact h.2.2.2.2 (a,u) (List.mem_of_getElem? hl)
theorem iD.push{es:Array MapEntry}{clock:Nat}(h:iD ok enc ev es clock l){a:α}(ha:ok a)(hn:∀p∈l,p.1≠a)(v:β):iD ok enc ev (es.push ⟨enc a,ev v,clock⟩) (clock+1) (l++[(a,v)]):=by
 refine⟨by simp[h.1],?_,?_,?_,?_⟩
 ·simp only[Array.toList_push,List.map_append,List.map_cons,List.map_nil]
  refine List.nodup_append.2 ⟨h.2.1,by simp,fun p hp c hc e1=>?_⟩;simp only[List.mem_singleton] at hc;obtain⟨y,hy,rfl⟩:=List.mem_map.1 hp;have:=h.2.2.1 y hy;omega
 ·intro y hy
  simp only[Array.toList_push,List.mem_append,List.mem_singleton] at hy;rcases hy with hy|rfl
  ·have:=h.2.2.1 y hy;omega
  ·exact Nat.lt_succ_self _
 ·rw[List.map_append]
  refine List.nodup_append.2 ⟨h.2.2.2.1,by simp,fun p hp c hc e1=>?_⟩;obtain⟨y,hy,rfl⟩:=List.mem_map.1 hp;simp at hc;subst hc;exact hn y hy e1
 ·intro p hp
  rcases List.mem_append.1 hp with hp|hp
  ·exact h.2.2.2.2 p hp
  ·simp at hp;subst hp;exact ha
theorem cN.update[DecidableEq α](h:cN ok enc ev w b l)(K:tK P k ok enc){t e:TypeId}(ht:P.underlying t=some (.map k e))(a:α)(ha:ok a)(v:β) :
 ∃w',(Instr.mapUpdate t (.map (some b)) (enc a) (ev v)).run P w=.ok () w'/\cN ok enc ev w' b (dX l a v)/\aA (fun i=>i=b) w w':=by
 obtain⟨es,clock,hb,hm⟩:=h;obtain⟨x,hx⟩:=K.key a ha;rcases hm.find K w a ha with⟨h1,h2⟩|⟨j,u,e0,h1,h2,h3,h4,h5⟩
 ·rw[vY h2]
  refine⟨setBlock w b (.map (es.push ⟨enc a,ev v,clock⟩) (clock+1)),?_,⟨_,_,jE hb,hm.push ha h2 v⟩,kP _ _ _⟩;simp[Instr.mapUpdate,run_underlying ht,MapKept.run_getObj_map hb,K.law.check w false hx,h1,MapKept.run_setObj_map _ hb,Result.andThen,setBlock]
 ·rw[AH hm.2.2.2.1 h2]
  have hj:es[j]?=some e0:=by simpa using h3
  refine⟨setBlock w b (.map (es.modify j fun x=>{ x with key:=enc a,val:=ev v }) clock),?_,⟨_,_,jE hb,hm.setVal h2 h3 h4 v⟩,kP _ _ _⟩;simp[Instr.mapUpdate,run_underlying ht,MapKept.run_getObj_map hb,K.law.check w false hx,h1,hj,h4,K.law.stays w hx,MapKept.run_setObj_map _ hb,Result.andThen,setBlock]
def dK(ok:α->Prop)(enc:α->Value)(ev:β->Value)(w:World)(b r:Nat)(l left:List (α×β)):Prop:=
 ∃es clock since seen c0,w.heap[b]?=some (.map es clock)/\iD ok enc ev es clock l/\w.heap[r]?=some (.mapIter (some b) since seen c0)/\(∀x∈es.toList,x.born<since)/\since≤c0/\since≤clock /\
  (leftOf es seen).toList.map (fun e=>(e.key,e.val))=left.map (fun p=>(enc p.1,ev p.2))/\(∀p∈left,p∈l)
theorem dK.keep{w':World}{S:Nat->Prop}{r:Nat}{left:List (α×β)}(h:dK ok enc ev w b r l left)(k:aA S w w')(hS:¬S b)(hr:¬S r):dK ok enc ev w' b r l left:=by
 obtain⟨es,clock,since,seen,c0,hb,hm,hi,h⟩:=h;have hlt:b<w.heap.size:=(Array.getElem?_eq_some_iff.1 hb).1;have hlr:r<w.heap.size:=(Array.getElem?_eq_some_iff.1 hi).1;exact⟨es,clock,since,seen,c0,by rw[k.block b hlt hS];exact hb,hm,by rw[k.block r hlr hr];exact hi,h⟩
theorem dK.ne{r:Nat}{left:List (α×β)}(h:dK ok enc ev w b r l left):r≠b:=by
 obtain⟨es,clock,since,seen,c0,hb,hm,hi,-⟩:=h;intro e;rw[e,hb] at hi;cases hi
theorem cN.range(h:cN ok enc ev w b l){t e:TypeId}(ht:P.underlying t=some (.map k e)) :
 ∃w',(Instr.range t (.map (some b))).run P w=.ok (.pointer (some ⟨w.heap.size,0,none⟩)) w'/\dK ok enc ev w' b w.heap.size l l/\aA aB w w'/\w'.heap.size=w.heap.size+1:=by
 obtain⟨es,clock,hb,hm⟩:=h;have hne:b<w.heap.size:=(Array.getElem?_eq_some_iff.1 hb).1;have K:=(aA.refl aB w).alloc (.mapIter (some b) clock #[] clock);refine⟨w.alloc (.mapIter (some b) clock #[] clock),?_,⟨es,clock,clock,#[],clock,?_,hm,heap_alloc_new _ _,hm.2.2.1,Nat.le_refl _,Nat.le_refl _,?_,fun p hp=>hp⟩,K,World.size_alloc _ _⟩
 ·simp[Instr.range,run_underlying ht,MapKept.run_getObj_map hb,Result.andThen]
 ·rw[K.block b hne id];exact hb
 ·have:leftOf es #[]=es:=by unfold leftOf;exact Array.filter_eq_self.2 (fun x hx=>by simp)
  rw[this];exact hm.1
def rB(enc:α->Value)(ev:β->Value)(w:World)(b r:Nat)(a:α)(v:β):Prop:=(∀P:Program,(Instr.entry (.pointer (some ⟨r,0,none⟩))).run P w=.ok (.tuple #[enc a,ev v]) w)
theorem dK.next{r:Nat}{left:List (α×β)}(h:dK ok enc ev w b r l left)(ty:TypeId) :
 (left=[]/\(Instr.next (.pointer (some ⟨r,0,none⟩)) false ty).run P w=.ok (.tuple #[.bool false]) w) \/
 ∃i a v w',left[i]?=some (a,v)/\ok a/\(Instr.next (.pointer (some ⟨r,0,none⟩)) false ty).run P w=.ok (.tuple #[.bool true,enc a,ev v]) w'/\dK ok enc ev w' b r l (left.eraseIdx i)/\aA (fun k=>k=r) w w'/\w'.heap.size=w.heap.size/\rB enc ev w' b r a v:=by
 have hrb:=h.ne;obtain⟨es,clock,since,seen,c0,hb,hm,hi,hold,hsc,hcl,hleft,hsub⟩:=h
 have hlen:(leftOf es seen).size=left.length:=by
  have:=congrArg List.length hleft
  simpa using this
 rcases run_next_at (P:=P) w ty r b since c0 seen es clock hi hb hold hsc with⟨h0,hrun⟩|⟨e,he,w1,hw1,hrun⟩
 ·exact .inl ⟨List.eq_nil_of_length_eq_zero (by omega),hrun⟩
 ·right
  obtain⟨i,hi2⟩:=List.getElem?_of_mem he;have g:=congrArg (fun x=>x[i]?) hleft;simp only[List.getElem?_map,hi2,Option.map_some] at g;rcases hl:left[i]? with _|⟨a,v⟩
  ·rw[hl] at g;simp at g
  rw[hl] at g;simp only[Option.map_some,Option.some.injEq,Prod.mk.injEq] at g;have hk1:aA aB w w1:=by rcases hw1 with rfl|rfl;exact aA.refl _ _;exact(aA.refl _ _).drew
  have hs1:w1.heap=w.heap:=by rcases hw1 with rfl|rfl<;>rfl
  have hk:aA (fun k=>k=r) w (setBlock w1 r (.mapIter (some b) since (seen.push e.born) clock)):=hk1.trans' (kP _ _ _) (fun _ _ h=>h.elim) (fun _ _ h=>h);have hbl:b<w.heap.size:=(Array.getElem?_eq_some_iff.1 hb).1;have hb':(setBlock w1 r (.mapIter (some b) since (seen.push e.born) clock)).heap[b]?=some (.map es clock):=by rw[hk.block b hbl (fun e=>hrb e.symm)];exact hb
  have hi':(setBlock w1 r (.mapIter (some b) since (seen.push e.born) clock)).heap[r]?=some (.mapIter (some b) since (seen.push e.born) clock):=jE (o':=.mapIter (some b) since seen c0) (by rw[hs1];exact hi);have hees:e∈es.toList:=by unfold leftOf at he;simp at he;simpa using he.1
  refine⟨i,a,v,_,hl,hm.2.2.2.2 _ (hsub _ (List.mem_of_getElem? hl)),by rw[←g.1,←g.2];exact hrun,⟨es,clock,since,seen.push e.born,clock,hb',hm,hi',hold,hcl,hcl,?_,?_⟩,hk,by simp[setBlock,hs1],fun P=>?_⟩
  ·have hf:(leftOf es (seen.push e.born)).toList=(leftOf es seen).toList.eraseIdx i:=by
    have hL:(leftOf es seen).toList=es.toList.filter fun x=>!seen.contains x.born:=by simp[leftOf]
    have hL2:(leftOf es (seen.push e.born)).toList=(leftOf es seen).toList.filter fun x=>!(x.born == e.born):=by
     rw[hL,List.filter_filter];simp only[leftOf,Array.toList_filter];apply List.filter_congr;intro x _;simp only[Array.contains_push];cases x.born == e.born<;>simp
    rw[hL2];refine filter_eq_eraseIdx (fun x:MapEntry=>x.born == e.born) _ i e hi2 (by simp) ?_;have hnd:((leftOf es seen).toList.map (·.born)).Nodup:=by rw[hL];exact(List.filter_sublist.map _).nodup hm.2.1
    refine(List.pairwise_map.1 hnd).imp fun {p q} hne hpq=>?_
    simp only[beq_iff_eq] at hpq;exact hne (hpq.1.trans hpq.2.symm)
   rw[hf,map_eraseIdx,map_eraseIdx,hleft]
  ·exact fun p hp=>hsub p ((List.eraseIdx_sublist left i).subset hp)
  ·rw[←g.1,←g.2]
   exact run_entry_at _ r b since seen es clock e hi' hb' hees hm.2.1
end
open Go.RowKit Go.Maps Go.ChangeMaps
set_option linter.unusedVariables false
section
variable {α β:Type}{F:Fence}{n:Nat}{P:Program}{k:TypeId}{ok:α->Prop}{enc:α->Value}{ev:β->Value}{w:World}{b:Nat}{l:List (α×β)}
variable {ops:Array Oper}{rest:List Oper}{o:Oper}{a:Act}{Q:Exit->Act->World->Prop}
theorem vR(hg:o.guard=none)(m:Operand)(t:TypeId)(hop:o.op=Op.range t m){k e:TypeId}(ht:P.underlying t=some (.map k e))(hm:a.eval m=.map (some b))(h:cN ok enc ev w b l)
 (hK:∀w',dK ok enc ev w' b w.heap.size l l->aA aB w w'->w'.heap.size=w.heap.size+1->wpListIn F n P ops Q rest (a.put o.dst (.pointer (some ⟨w.heap.size,0,none⟩))) w') :
 wpListIn F n P ops Q (o::rest) a w:=by
 refine wpListIn_plain hg fun K' hK'=>?_
 obtain⟨w',hrun,r1,r2,r3⟩:=h.range ht;unfold Oper.wpIn;refine⟨by simp[Oper.about,hop],?_⟩;rw[Oper.semAt_plain F _ _ (by rw[hop];intro c hc';cases hc')];simp[execOp,hop,hm,hrun,Result.andThen];exact hK' _ _ (hK w' r1 r2 r3)
theorem wT(hg:o.guard=none)(it:Operand)(hop:o.op=Op.next it false){r:Nat}{left:List (α×β)}(hit:a.eval it=.pointer (some ⟨r,0,none⟩))(h:dK ok enc ev w b r l left)
 (hDone:left=[]->wpListIn F n P ops Q rest (a.put o.dst (.tuple #[.bool false])) w)
 (hMore:∀i x v w',left[i]?=some (x,v)->ok x->dK ok enc ev w' b r l (left.eraseIdx i)->aA (fun k=>k=r) w w'->w'.heap.size=w.heap.size->rB enc ev w' b r x v->wpListIn F n P ops Q rest (a.put o.dst (.tuple #[.bool true,enc x,ev v])) w') :
 wpListIn F n P ops Q (o::rest) a w:=by
 refine wpListIn_plain hg fun K' hK'=>?_
 unfold Oper.wpIn;refine⟨by simp[Oper.about,hop],?_⟩;rw[Oper.semAt_plain F _ _ (by rw[hop];intro c hc';cases hc')];rcases h.next (P:=P) o.type with⟨h0,hrun⟩|⟨i,x,v,w',h1,h2,hrun,h3,h4,h5,h6⟩
 ·simp[execOp,hop,hit,hrun,Result.andThen]
  exact hK' _ _ (hDone h0)
 ·simp[execOp,hop,hit,hrun,Result.andThen]
  exact hK' _ _ (hMore i x v w' h1 h2 h3 h4 h5 h6)
theorem vS(hg:o.guard=none)(it:Operand)(hop:o.op=Op.entry it){r:Nat}{x:α}{v:β}(hit:a.eval it=.pointer (some ⟨r,0,none⟩))(h:rB enc ev w b r x v)
 (hK:wpListIn F n P ops Q rest (a.put o.dst (.tuple #[enc x,ev v])) w):wpListIn F n P ops Q (o::rest) a w:=by
 refine wpListIn_plain hg fun K' hK'=>?_
 unfold Oper.wpIn;refine⟨by simp[Oper.about,hop],?_⟩;rw[Oper.semAt_plain F _ _ (by rw[hop];intro c hc';cases hc')];simp[execOp,hop,hit,h P,Result.andThen];exact hK' _ _ hK
theorem lY[DecidableEq α](hg:o.guard=none)(hd:o.dst=none)(m x v:Operand)(t:TypeId)(hop:o.op=Op.mapUpdate t m x v)(K:tK P k ok enc){e:TypeId}(ht:P.underlying t=some (.map k e))
 (c:α) (hc:ok c) (u:β) (hm:a.eval m=.map (some b)) (hx:a.eval x=enc c) (hv:a.eval v=ev u) (h:cN ok enc ev w b l)
 (hK:∀w':World,cN ok enc ev w' b (dX l c u)->aA (fun i=>i=b) w w'->wpList P ops Q rest a w'):wpList P ops Q (o::rest) a w:=by
 refine wpList_plain hg fun K' hK'=>?_
 obtain⟨w',hrun,h1,h2⟩:=h.update K ht c hc u;unfold Oper.wp;simp[execOp,hop,hm,hx,hv,hrun,Result.andThen];exact hK' _ _ (by simpa [hd,Act.put] using hK w' h1 h2)
end
end
end Go.Proofs.YtiinnfhjpaeffaaGreat
