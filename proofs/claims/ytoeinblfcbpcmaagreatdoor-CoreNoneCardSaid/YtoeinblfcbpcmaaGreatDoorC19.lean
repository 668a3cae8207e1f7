import Derived.Test.YtoeinblfcbpcmaaGreatDoorC18
namespace Go.Proofs.YtoeinblfcbpcmaaGreatDoor
open Tryz
set_option maxHeartbeats 0
set_option maxRecDepth 100000
set_option linter.unusedVariables false
section
open Go.RowKit Go.Maps Go.ChangeMaps
variable{k B b n:Nat}{w w':World}{ps qs:List (Value×Ub)}{p:Value×Ub}{v:Value}{ys:List Value}
theorem qM{α:Type}{f:α->List Value}:∀{l:List α},(∀y∈l,(f y).length=k)->(l.flatMap f).length=l.length*k
 | [],_=>by simp
 | x::l,h=>by
   rw[List.flatMap_cons,List.length_append,h x (by simp),qM (fun y a=>h y (by simp[a])),List.length_cons,Nat.succ_mul];omega
theorem nK{α:Type}{f:α->List Value}:∀{l:List α},(∀y∈l,(f y).length=k)->∀{i:Nat}{y:α},l[i]?=some y->∀{j:Nat},j<k->(l.flatMap f)[i*k+j]?=(f y)[j]?
 | [],_,i,y,a,_,_=>by simp at a
 | x::l,h,0,y,a,j,c=>by
   simp only[List.getElem?_cons_zero,Option.some.injEq] at a;subst a;rw[List.flatMap_cons,Nat.zero_mul,Nat.zero_add,List.getElem?_append_left (by rw[h x (by simp)];exact c)]
 | x::l,h,i+1,y,a,j,c=>by
   rw[List.getElem?_cons_succ] at a;rw[List.flatMap_cons,Nat.succ_mul,List.getElem?_append_right (by rw[h x (by simp)];omega),h x (by simp),show i*k+k+j-k=i*k+j by omega];exact nK (fun y d=>h y (by simp[d])) a c
def dS(ps:List (Value×Ub)):List Value:=ps.flatMap fun p=>aV p.1 p.2
def gU(ps:List (Value×Ub)):Prop:=∀p∈ps,p.2.root.sum.length=32/\p.2.pool.length=32
def yL(w:World)(ps:List (Value×Ub)):Prop:=∀p∈ps,UbV w p.1 p.2
theorem yL.lens(h:yL w ps):gU ps:=fun p a=>⟨(h p a).root.sum,(h p a).pool⟩
theorem yL.keep(h:yL w ps)(k:aA aB w w'):yL w' ps:=fun p a=>(h p a).keep k fun _ _=>id
theorem LF(h:gU ps):(dS ps).length=ps.length*69:=qM fun p a=>bZ (h p a).1 (h p a).2
theorem NS(h:gU ps)(d:ps[k]?=some p){j:Nat}(c:j<69):(dS ps)[k*69+j]?=(aV p.1 p.2)[j]?:=
 nK (fun p a=>bZ (h p a).1 (h p a).2) d c
theorem OE(e:gU ps)(h:Rd w 69 v ps.length (dS ps))(d:ps[k]?=some p) :
 ∃g o c,v=.slice (some ⟨g,o,none⟩) ps.length c/\w.rangeAt g (o+k*69) (aV p.1 p.2):=by
 obtain⟨h0,a,c,rfl,r,s,t,l⟩:=h;have q:=(List.getElem?_eq_some_iff.1 d).1;obtain⟨g,o,rfl,m⟩:=l (by rw[LF e];omega);refine⟨g,o,c,rfl,fun j u i=>?_⟩;have f:j<69:=by have:=(List.getElem?_eq_some_iff.1 i).1;rwa [bZ (e p (List.mem_of_getElem? d)).1 (e p (List.mem_of_getElem? d)).2] at this
 have:=m (k*69+j) u (by rw[NS e d f];exact i)
 rwa [←Nat.add_assoc] at this
theorem yM(a b:List (Value×Ub)):dS (a++b)=dS a++dS b:=by simp[dS]
theorem Dm(p:Value×Ub):dS [p]=aV p.1 p.2:=by simp[dS]
theorem uB:(prog.info? 71).map (fun i=>(i.zero,i.size,i.bytes))=some (some (.agg (aV (.slice none 0 0) ⟨0,⟨[],0,0,dM⟩,0,dM⟩).toArray),69,120):=by kernel_rfl
def fD(w:World)(B:Nat)(qs:List (Value×Ub)):Prop:=∀q∈qs,q.2.pool.length=32/\q.2.root.sum.length=32/\jF q.2.root.addrs/\w.ownsRow B 93 2 q.1 q.2.root.addrs.length (aJ q.2.root.addrs)
theorem fD.V(h:fD w B qs):yL w qs:=fun q f =>
 let ⟨a,c,d,e⟩:=h q f
 ⟨⟨Rd.of_owns e,d,c⟩,a⟩
theorem fD.keep(h:fD w B qs)(k:aA aB w w'):fD w' B qs:=fun q f =>
 let ⟨a,c,d,e⟩:=h q f
 ⟨a,c,d,k.owns e fun _ _=>id⟩
theorem Ai{o e i s x m:Nat}{u:Value}{y:List Value}(h:w.ownsRow b e s u n y)(r:w.ownsRow o i x v m ys)(c:e≠i)(j:u.ownBlock=some k):v.ownBlock≠some k:=by
 intro l;rcases h.2 with⟨rfl,-⟩|⟨g,q,cur,rfl,-,t,-⟩
 ·cases j
 ·rcases r.2 with⟨rfl,-⟩|⟨z,d,f,rfl,-,a,-⟩
  ·cases l
  ·cases j
   cases l
   rw[t] at a;cases a
   exact c rfl
theorem fD.far{S:Nat->Prop}(h:fD w B qs)(k:aA S w w')(g:∀q∈qs,∀i,q.1.ownBlock=some i->¬S i):fD w' B qs:=fun q a =>
 let ⟨c,d,e,f⟩:=h q a
 ⟨c,d,e,k.owns f (g q a)⟩
theorem fD.grow(h:fD w B qs)(c:w.ownsRow b 71 69 v n ys)(k:aA (fun j=>v.ownBlock=some j) w w'):fD w' B qs:=
 h.far k fun q d i a=>Ai (h q d).2.2.2 c (by decide) a
theorem fD.snoc(h:fD w B qs){u:Ub}(c:u.pool.length=32)(d:u.root.sum.length=32)(e:jF u.root.addrs)
 (f:w.ownsRow B 93 2 v u.root.addrs.length (aJ u.root.addrs)):fD w B (qs++[(v,u)]):=fun q a=>by
 rcases List.mem_append.1 a with a|a
 ·exact h q a
 ·obtain rfl:q=(v,u):=by simpa using a
  exact⟨c,d,e,f⟩
end
end Go.Proofs.YtoeinblfcbpcmaaGreatDoor
