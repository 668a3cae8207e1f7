import Derived.Test.YtiinnfhjpaeffaaGreatU10
import Derived.Test.YtiinnfhjpaeffaaGreatU21
namespace Go.Proofs.YtiinnfhjpaeffaaGreat
open Tryz
set_option maxHeartbeats 0
set_option maxRecDepth 100000
set_option linter.unusedVariables false
section
open Go.RowKit Go.Maps Go.ChangeMaps
structure Kor where
 D:Nat
 Z:Nat
 cp:Nat
 L:List Ad
 M:Nat->Nat->List UInt8
 txg:Int
structure Kor.Bd(S:Kor):Prop where
 d2:2≤S.D
 d8:S.D≤8
 z8:8≤S.Z
 z4:S.Z≤4096
 c1:1≤S.cp
 c3:S.cp≤3
 cD:S.cp≤S.D
 t0:0≤S.txg
 t1:S.txg<2147483648
def mF(b:List UInt8):List Ad->(Nat->Nat->List UInt8)->Nat->Nat->List UInt8
 | [],M=>M
 | a::l,M=>mF b l (gO M a.dev.toNat a.sec.toNat b)
variable{p q:Pt}{lv s l i N m a D Z nw d:Nat}{b:List UInt8}{W f g x:Int}{w:World}{B:Nat->Prop}{M Mm:Nat->Nat->List UInt8}
theorem CR(b:List UInt8)(a:Ad):∀(l:List Ad) (M:Nat->Nat->List UInt8),mF b (l++[a]) M=gO (mF b l M) a.dev.toNat a.sec.toNat b
 | [],M=>rfl
 | x::l,M=>CR b a l _
theorem GN(b:List UInt8):∀(l:List Ad) (M:Nat->Nat->List UInt8) (d s:Nat),((∃a∈l,d=a.dev.toNat/\s=a.sec.toNat)\/M d s=b)->mF b l M d s=b
 | [],M,d,s,h=>by
   rcases h with⟨a,c,-⟩|h
   ·cases c
   ·exact h
 | x::l,M,d,s,h=>by
   refine GN b l _ d s ?_;rcases h with⟨a,c,e,j⟩|h
   ·rcases List.mem_cons.1 c with rfl|c
    ·right;unfold gO;rw[if_pos ⟨e,j⟩]
    ·exact .inl ⟨a,c,e,j⟩
   ·right;unfold gO;split
    ·rfl
    ·exact h
theorem Au(b:List UInt8):∀(l:List Ad) (M:Nat->Nat->List UInt8) (d s:Nat),(∀a∈l,¬(d=a.dev.toNat/\s=a.sec.toNat))->mF b l M d s=M d s
 | [],M,d,s,h=>rfl
 | x::l,M,d,s,h=>by
   rw[mF,Au b l _ d s fun a c=>h a (List.mem_cons_of_mem _ c)];unfold gO;rw[if_neg (h x (List.mem_cons_self ..))]
def Kor.allUp(S:Kor):List Bool:=List.replicate S.D true
def Kor.put(S:Kor)(lv:Nat)(b:List UInt8):Option (Pt×Kor):=
 match cI (cJ S.L S.D S.Z) S.allUp S.cp with
 | none=>none
 | some l=>some (⟨bF S.L S.Z l,S.txg+1,(lv:Int),dD b⟩,⟨S.D,S.Z,S.cp,S.L++bF S.L S.Z l,mF b (bF S.L S.Z l) S.M,S.txg⟩)
structure Ext(S T:Kor):Prop where
 D:T.D=S.D
 Z:T.Z=S.Z
 cp:T.cp=S.cp
 txg:S.txg≤T.txg
 L:∀a∈S.L,a∈T.L
 M:∀a∈S.L,eN a S.D S.Z->T.M a.dev.toNat a.sec.toNat=S.M a.dev.toNat a.sec.toNat
theorem Ext.refl(S:Kor):Ext S S:=⟨rfl,rfl,rfl,Int.le_refl _,fun _ h=>h,fun _ _ _=>rfl⟩
theorem Ext.trans{S T U:Kor}(h:Ext S T)(k:Ext T U):Ext S U:=
 ⟨k.D.trans h.D,k.Z.trans h.Z,k.cp.trans h.cp,Int.le_trans h.txg k.txg,fun a c=>k.L a (h.L a c),fun a c e=>(k.M a (h.L a c) (by rw[h.D,h.Z];exact e)).trans (h.M a c e)⟩
structure gP(S:Kor)(p:Pt)(lv:Nat)(b:List UInt8):Prop where
 may:p.may=true
 ne:p.addrs≠[]
 lev:p.level=(lv:Int)
 sum:p.sum=dD b
 len:b.length=256
 born:1≤p.birth/\p.birth≤S.txg+1
 lies:∀a∈p.addrs,eN a S.D S.Z/\a∈S.L/\S.M a.dev.toNat a.sec.toNat=b
theorem gP.ext{S T:Kor}(h:gP S p lv b)(e:Ext S T):gP T p lv b:=
 ⟨h.may,h.ne,h.lev,h.sum,h.len,⟨h.born.1,Int.le_trans h.born.2 (Int.add_le_add_right e.txg 1)⟩,fun a n=>by
  obtain⟨c,j,k⟩:=h.lies a n;exact⟨by rw[e.D,e.Z];exact c,e.L a j,(e.M a j c).trans k⟩⟩
theorem gP.sl{S:Kor}(h:gP S p lv b):p.sum.length=32:=by rw[h.sum,dC]
theorem gP.ne_hole{S:Kor}(h:gP S p lv b):p.hole=false:=by
 unfold Pt.hole
 have:((p.addrs.length:Int) == 0)=false:=by
  rw[beq_eq_false_iff_ne];intro e;exact h.ne (List.eq_nil_of_length_eq_zero (by omega))
 rw[this,Bool.false_and]
theorem gP.ne_z{S:Kor}(h:gP S p lv b):p≠zPt:=fun e=>h.ne (by rw[e];rfl)
theorem jM:zPt.hole=true:=by decide
theorem rD{S:Kor}(c:S.Bd)(Q:lv≤3)(P:b.length=256){T:Kor}(h:S.put lv b=some (p,T)) :
 gP T p lv b/\Ext S T/\T.Bd/\T.txg=S.txg/\p.birth=S.txg+1/\(∀a∈p.addrs,a ∉ S.L)/\p.addrs.Nodup/\∃l,cI (cJ S.L S.D S.Z) S.allUp S.cp=some l/\T.L=S.L++bF S.L S.Z l/\p.addrs=bF S.L S.Z l:=by
 unfold Kor.put at h;cases u:cI (cJ S.L S.D S.Z) S.allUp S.cp with
 | none=>rw[u] at h;cases h
 | some l =>
   rw[u] at h;have h:=Option.some.inj h;injection h with E G
   subst E G;have t:2≤S.D/\S.D≤8/\8≤S.Z/\S.Z≤4096:=⟨c.d2,c.d8,c.z8,c.z4⟩
   have k:=fun x A=>CG t u (x:=x) A
   obtain⟨-,v,U,F,H⟩:=fX u;have r:∀a∈bF S.L S.Z l,eN a S.D S.Z:=fun a j=>(BS t).1 (k a j).1
   have z:upN S.allUp=S.D:=by
    unfold upN Kor.allUp;rw[List.countP_replicate];rfl
   have n:l.length=S.cp:=by
    rw[v];unfold lX;rw[z];exact Nat.min_eq_left c.cD
   have y:=FU u
   have o:((bF S.L S.Z l).map (·.dev)).Nodup:=by
    unfold bF;rw[List.map_map];have:((fun(x:Ad)=>x.dev) ∘ fun(d:Nat)=>(⟨(d:Int),(bD S.L d S.Z).headD 0⟩:Ad))=fun(d:Nat)=>(d:Int):=rfl
    rw[this];show List.Pairwise _ _;rw[List.pairwise_map];exact F.imp fun h e=>h (by exact_mod_cast e)
   refine⟨⟨?_,?_,rfl,rfl,P,⟨?_,Int.le_refl _⟩,?_⟩,⟨rfl,rfl,rfl,Int.le_refl _,fun a j=>List.mem_append_left _ j,?_⟩,⟨c.d2,c.d8,c.z8,c.z4,c.c1,c.c3,c.cD,c.t0,c.t1⟩,rfl,rfl,fun a j=>(k a j).2.1,y,l,rfl,rfl,rfl⟩
   ·unfold Pt.may sS Pt.numsB
    rw[Bool.or_eq_true];right;have t0:=c.t0;have t1:=c.t1;have c1:=c.c1;have c3:=c.c3;simp only[Bool.and_eq_true,decide_eq_true_eq,List.all_eq_true,mX];refine⟨⟨⟨⟨fun a j=>?_,o⟩,by omega⟩,by omega⟩,⟨⟨by omega,by omega⟩,by omega⟩,by omega⟩;obtain⟨E,G,L,h4⟩:=r a j;unfold lO;have d8:=c.d8;have z4:=c.z4;simp only[Bool.and_eq_true,decide_eq_true_eq];exact⟨⟨⟨E,by show a.1<8;omega⟩,L⟩,by show a.2<4096;omega⟩
   ·intro e
    have:=congrArg List.length e;rw[mX] at this;have c1:=c.c1;simp at this;rw[this] at n;simp at n;omega
   ·have t0:=c.t0
    show 1≤S.txg+1;omega
   ·exact fun a j=>⟨r a j,List.mem_append_right _ j,GN b _ _ _ _ (.inl ⟨a,j,rfl,rfl⟩)⟩
   ·intro a j R
    refine Au b _ _ _ _ fun x A e=>(k x A).2.1 ?_
    obtain⟨x1,x2,x3,x4⟩:=r x A;obtain⟨Y,a2,a3,a4⟩:=R
    have:x=a:=by
     obtain⟨V,X⟩:=x;obtain⟨I,C⟩:=a;simp only[] at *;have J:V=I:=by have:=e.1;omega
     have K:X=C:=by have:=e.2;omega
     rw[J,K]
    rw[this];exact j
def cL(lv:Nat)(c:List Pt):List UInt8:=UInt8.ofNat lv::c.flatMap bR++List.replicate 67 0
theorem PB{r s:Pt}(h0:p.sum.length=32)(c:q.sum.length=32)(e:r.sum.length=32)(h:s.sum.length=32):(cL lv [p,q,r,s]).length=256:=by
 unfold cL;simp[eM h0,eM c,eM e,eM h]
inductive Tr where
 | hole:Tr
 | leaf:Pt->List UInt8->Tr
 | node:Pt->(Nat->Tr)->Tr
def Tr.ptr:Tr->Pt
 | .hole=>zPt
 | .leaf p _=>p
 | .node p _=>p
def Tr.isHole:Tr->Bool
 | .hole=>true
 | _=>false
def Tr.kid:Tr->Nat->Tr
 | .node _ k,i=>k i
 | _,_=>.hole
def eX(k:Nat->Tr):List Pt:=[(k 0).ptr,(k 1).ptr,(k 2).ptr,(k 3).ptr]
def gM(k:Nat->Tr):Bool:=(k 0).isHole && (k 1).isHole && (k 2).isHole && (k 3).isHole
def Tr.Ok(S:Kor):Nat->Tr->Prop
 | _,.hole=>True
 | 0,.leaf p b=>gP S p 0 b/\b≠zB
 | 0,.node _ _=>False
 | _+1,.leaf _ _=>False
 | l+1,.node p k=>gP S p (l+1) (cL (l+1) (eX k))/\(∀i,i<4->Tr.Ok S l (k i))/\gM k=false
def Tr.many:Nat->Tr->Nat
 | _,.hole=>0
 | _,.leaf _ _=>1
 | 0,.node _ _=>0
 | l+1,.node _ k=>(k 0).many l+(k 1).many l+(k 2).many l+(k 3).many l
def eV(k:Nat->Tr)(i:Nat)(t:Tr):Nat->Tr:=fun j=>if j=i then t else k j
def Kor.leaf(S:Kor)(b:List UInt8):Option Tr×Kor:=if b=zB then (some .hole,S) else match S.put 0 b with
 | none=>(none,S)
 | some (p,T)=>(some (.leaf p b),T)
def Kor.lay(S:Kor)(l:Nat)(k:Nat->Tr):Option Tr×Kor:=if gM k then (some .hole,S) else match S.put l (cL l (eX k)) with
 | none=>(none,S)
 | some (p,T)=>(some (.node p k),T)
def eK:Nat->Kor->Tr->Nat->List UInt8->Option Tr×Kor
 | 0,S,_,_,b=>S.leaf b
 | l+1,S,t,n,b=>match eK l S (t.kid (n / 4 ^ l % 4)) n b with
   | (none,T)=>(none,T)
   | (some u,T)=>T.lay (l+1) (eV t.kid (n / 4 ^ l % 4) u)
def gI(cut:Kor->Tr->Int->Int->Option Tr×Kor)(W:Int)(S:Kor)(t:Tr)(f g:Int):Nat->Option ((Nat->Tr)×Bool)×Kor
 | 0=>(some (t.kid,false),S)
 | i+1=>match gI cut W S t f g i with
   | (none,T)=>(none,T)
   | (some (k,c),T)=>match cut T (t.kid i) (f-i*W) (g-i*W) with
     | (none,U)=>(none,U)
     | (some u,U)=>(some (eV k i u,c || !(t.kid i).ptr.eqB u.ptr),U)
def cF:Nat->Kor->Tr->Int->Int->Option Tr×Kor
 | 0,S,t,f,g=>if t.isHole || decide (min g 1≤max f 0) then (some t,S) else (some .hole,S)
 | l+1,S,t,f,g=>if t.isHole || decide (min g (4 ^ (l+1))≤max f 0) then (some t,S) else
   if min g (4 ^ (l+1))-max f 0=4 ^ (l+1) then (some .hole,S) else
   match gI (cF l) (4 ^ l) S t (max f 0) (min g (4 ^ (l+1))) 4 with
   | (none,T)=>(none,T)
   | (some (k,c),T)=>if c then T.lay (l+1) k else (some t,T)
def Tr.blk:Nat->Tr->Nat->List UInt8
 | 0,.leaf _ b,_=>b
 | 0,.hole,_=>zB
 | 0,.node _ _,_=>zB
 | l+1,.node _ k,i=>(k (i / 4 ^ l % 4)).blk l i
 | _+1,.hole,_=>zB
 | _+1,.leaf _ _,_=>zB
theorem Tr.blk_hole(l i:Nat):Tr.blk l .hole i=zB:=by cases l<;>rfl
theorem Tr.ok_hole(S:Kor)(l:Nat):Tr.Ok S l .hole:=by cases l<;>exact trivial
theorem Tr.Ok.kid{S:Kor}{t:Tr}(h:Tr.Ok S (l+1) t)(c:i<4):Tr.Ok S l (t.kid i):=by
 cases t with
 | hole=>exact Tr.ok_hole S l
 | leaf p b=>exact h.elim
 | node p k=>exact h.2.1 i c
theorem Tr.Ok.blk_succ{S:Kor}{t:Tr}(h:Tr.Ok S (l+1) t)(i:Nat):t.blk (l+1) i=(t.kid (i / 4 ^ l % 4)).blk l i:=by
 cases t with
 | hole=>exact(Tr.blk_hole l i).symm
 | leaf p b=>exact h.elim
 | node p k=>rfl
theorem Tr.Ok.ext{S T:Kor}(e:Ext S T):∀{l:Nat}{t:Tr},Tr.Ok S l t->Tr.Ok T l t
 | l,.hole,_=>Tr.ok_hole T l
 | 0,.leaf p b,h=>⟨h.1.ext e,h.2⟩
 | 0,.node p k,h=>h
 | l+1,.leaf p b,h=>h
 | l+1,.node p k,h=>⟨h.1.ext e,fun i c=>Tr.Ok.ext e (h.2.1 i c),h.2.2⟩
theorem Tr.Ok.sl{S:Kor}{t:Tr}(h:Tr.Ok S l t):t.ptr.sum.length=32:=by
 cases t with
 | hole=>rfl
 | leaf p b=>cases l with
   | zero=>exact h.1.sl
   | succ l=>exact h.elim
 | node p k=>cases l with
   | zero=>exact h.elim
   | succ l=>exact h.1.sl
theorem Tr.Ok.hole_eq{S:Kor}{t:Tr}(h:Tr.Ok S l t):t.ptr.hole=t.isHole:=by
 cases t with
 | hole=>exact jM
 | leaf p b=>cases l with
   | zero=>exact h.1.ne_hole
   | succ l=>exact h.elim
 | node p k=>cases l with
   | zero=>exact h.elim
   | succ l=>exact h.1.ne_hole
theorem Tr.Ok.lies{S:Kor}{t:Tr}(h:Tr.Ok S l t)(e:t.isHole=false):t.ptr.addrs≠[]/\∀a∈t.ptr.addrs,a∈S.L:=by
 cases t with
 | hole=>cases e
 | leaf p b=>cases l with
   | zero=>exact⟨h.1.ne,fun a c=>(h.1.lies a c).2.1⟩
   | succ l=>exact h.elim
 | node p k=>cases l with
   | zero=>exact h.elim
   | succ l=>exact⟨h.1.ne,fun a c=>(h.1.lies a c).2.1⟩
theorem fD{t:Tr}(h:t.isHole=true):t=.hole:=by cases t<;>first|rfl|cases h
theorem vB{k:Nat->Tr}(h:gM k=true)(n:i<4):k i=.hole:=by
 unfold gM at h;simp only[Bool.and_eq_true] at h;obtain⟨⟨⟨h0,c⟩,e⟩,j⟩:=h;rcases i with _|_|_|_|i
 ·exact fD h0
 ·exact fD c
 ·exact fD e
 ·exact fD j
 ·omega
theorem cR(i l:Nat):i / 4 ^ l % 4<4:=Nat.mod_lt _ (by omega)
theorem pO(i l:Nat):i % 4 ^ (l+1)=i / 4 ^ l % 4*4 ^ l+i % 4 ^ l:=by
 rw[Nat.pow_succ,Nat.mod_mul,Nat.add_comm,Nat.mul_comm]
theorem tN(i n l:Nat):i % 4 ^ (l+1)=n % 4 ^ (l+1)↔i / 4 ^ l % 4=n / 4 ^ l % 4/\i % 4 ^ l=n % 4 ^ l:=by
 have e:0<4 ^ l:=Nat.pos_of_ne_zero (by simp);have k:=Nat.mod_lt i e;have o:=Nat.mod_lt n e;rw[pO i l,pO n l];constructor
 ·intro h
  have c:(i / 4 ^ l % 4*4 ^ l+i % 4 ^ l) / 4 ^ l=(n / 4 ^ l % 4*4 ^ l+n % 4 ^ l) / 4 ^ l:=by rw[h]
  rw[Nat.mul_comm _ (4 ^ l),Nat.mul_comm _ (4 ^ l),Nat.mul_add_div e,Nat.mul_add_div e,Nat.div_eq_of_lt k,Nat.div_eq_of_lt o,Nat.add_zero,Nat.add_zero] at c;refine⟨c,?_⟩;rw[c] at h;omega
 ·rintro⟨c,j⟩
  rw[c,j]
theorem Tr.Ok.blk_mod{S:Kor}:∀{l:Nat}{t:Tr},Tr.Ok S l t->∀{i n:Nat},i % 4 ^ l=n % 4 ^ l->t.blk l i=t.blk l n
 | 0,t,h,i,n,e=>by cases t<;>rfl
 | l+1,t,h,i,n,e=>by
   obtain⟨c,j⟩:=(tN i n l).1 e;rw[h.blk_succ,h.blk_succ,c];exact(h.kid (cR n l)).blk_mod j
def Fr(S:Kor)(u:Tr):Prop:=∀a∈u.ptr.addrs,a ∉ S.L
theorem Fr.hole(S:Kor):Fr S .hole:=fun a c=>by cases c
theorem Fr.ext{S T:Kor}{u:Tr}(h:Fr T u)(e:Ext S T):Fr S u:=fun a c j=>h a c (e.L a j)
theorem mG(p:Pt):p.eqB p=true:=by unfold Pt.eqB;simp
theorem pP(h:p.eqB q=true):p=q:=by
 obtain⟨a,b,c,d⟩:=p;obtain⟨e,j,k,n⟩:=q;unfold Pt.eqB at h;simp only[Bool.and_eq_true,beq_iff_eq,decide_eq_true_eq] at h;obtain⟨⟨⟨rfl,rfl⟩,rfl⟩,rfl⟩:=h;rfl
theorem Fr.ne{S:Kor}{t u:Tr}(h:Tr.Ok S l t)(o:t.isHole=false)(j:Fr S u):u.ptr.eqB t.ptr=false:=by
 cases e:u.ptr.eqB t.ptr with
 | false=>rfl
 | true =>
   have:=pP e;obtain⟨k,n⟩:=h.lies o;unfold Fr at j;rw[this] at j;cases c:t.ptr.addrs with
   | nil=>exact absurd c k
   | cons a r=>exact absurd (n a (by rw[c];exact List.mem_cons_self ..)) (j a (by rw[c];exact List.mem_cons_self ..))
theorem Fr.ne_hole{S T:Kor}{u:Tr}(h:Tr.Ok T l u)(j:u.isHole=false):u.ptr.eqB zPt=false:=by
 cases e:u.ptr.eqB zPt with
 | false=>rfl
 | true =>
   have:=pP e;have c:=h.hole_eq;rw[this,jM,j] at c;cases c
structure Beh(S T:Kor):Prop where
 ext:Ext S T
 bd:T.Bd
 txg:T.txg=S.txg
theorem Beh.refl{S:Kor}(h:S.Bd):Beh S S:=⟨Ext.refl S,h,rfl⟩
theorem Beh.trans{S T U:Kor}(h:Beh S T)(k:Beh T U):Beh S U:=⟨h.ext.trans k.ext,k.bd,k.txg.trans h.txg⟩
theorem GO{S:Kor}(n:S.Bd)(C:b.length=256){r:Option Tr}{T:Kor}(h:S.leaf b=(r,T)):Beh S T/\∀u,r=some u->Tr.Ok T 0 u/\(∀i,u.blk 0 i=b)/\Fr S u:=by
 unfold Kor.leaf at h
 by_cases k:b=zB
 ·rw[if_pos k] at h
  injection h with c e
  subst c e;refine⟨Beh.refl n,fun u j=>?_⟩;cases j
  exact⟨trivial,fun i=>k.symm,Fr.hole S⟩
 ·rw[if_neg k] at h
  cases o:S.put 0 b with
  | none =>
    rw[o] at h;injection h with c e
    subst c e;exact⟨Beh.refl n,fun u j=>by cases j⟩
  | some x =>
    obtain⟨p,U⟩:=x;rw[o] at h;injection h with c e
    subst c e;obtain⟨t,v,y,z,-,A,-⟩:=rD n (by omega) C o;refine⟨⟨v,y,z⟩,fun u j=>?_⟩;cases j
    exact⟨⟨t,k⟩,fun i=>rfl,A⟩
theorem B6{S:Kor}{k:Nat->Tr}(c:∀i,i<4->Tr.Ok S l (k i)):(cL lv (eX k)).length=256:=
 PB (c 0 (by omega)).sl (c 1 (by omega)).sl (c 2 (by omega)).sl (c 3 (by omega)).sl
theorem EI{S:Kor}(o:S.Bd)(G:l≤2){k:Nat->Tr}(y:∀i,i<4->Tr.Ok S l (k i)){r:Option Tr}{T:Kor}(h:S.lay (l+1) k=(r,T)):Beh S T/\∀u,r=some u->Tr.Ok T (l+1) u/\(∀i,u.blk (l+1) i=(k (i / 4 ^ l % 4)).blk l i)/\Fr S u:=by
 unfold Kor.lay at h
 by_cases n:gM k=true
 ·rw[if_pos n] at h
  injection h with c e
  subst c e;refine⟨Beh.refl o,fun u j=>?_⟩;cases j
  exact⟨trivial,fun i=>by rw[vB n (cR i l),Tr.blk_hole,Tr.blk_hole],Fr.hole S⟩
 ·rw[if_neg n] at h
  cases t:S.put (l+1) (cL (l+1) (eX k)) with
  | none =>
    rw[t] at h;injection h with c e
    subst c e;exact⟨Beh.refl o,fun u j=>by cases j⟩
  | some x =>
    obtain⟨p,U⟩:=x;rw[t] at h;injection h with c e
    subst c e;obtain⟨z,v,A,C,-,E,-⟩:=rD o (by omega) (B6 y) t;refine⟨⟨v,A,C⟩,fun u j=>?_⟩;cases j
    exact⟨⟨z,fun i F=>(y i F).ext v,by simpa using n⟩,fun i=>rfl,E⟩
theorem fE(k:Nat->Tr)(i:Nat)(t:Tr):eV k i t i=t:=by unfold eV;rw[if_pos rfl]
theorem eF(k:Nat->Tr){j:Nat}(t:Tr)(h:j≠i):eV k i t j=k j:=by unfold eV;rw[if_neg h]
theorem qP(j:b.length=256)(n:Nat):∀{l:Nat},l≤3->∀{S:Kor}{t:Tr},S.Bd->Tr.Ok S l t->∀{r:Option Tr}{T:Kor},eK l S t n b=(r,T) ->
 Beh S T/\∀u,r=some u->Tr.Ok T l u/\(∀i,u.blk l i=if i % 4 ^ l=n % 4 ^ l then b else t.blk l i)/\Fr S u
 | 0,_,S,t,A,k,r,T,h=>by
   obtain⟨y,z⟩:=GO A j h;refine⟨y,fun u o=>?_⟩;obtain⟨H,I,J⟩:=z u o;exact⟨H,fun i=>by rw[I,if_pos (by rw[Nat.pow_zero,Nat.mod_one,Nat.mod_one])],J⟩
 | l+1,hl,S,t,A,k,r,T,h=>by
   unfold eK at h;cases C:eK l S (t.kid (n / 4 ^ l % 4)) n b with
   | mk Y F =>
     rw[C] at h;obtain⟨c,G⟩:=qP j n (by omega) A (k.kid (cR n l)) C;cases Y with
     | none =>
       injection h with y z
       subst y z;exact⟨c,fun u o=>by cases o⟩
     | some E =>
       obtain⟨Q,R,o3⟩:=G E rfl
       have L:∀i,i<4->Tr.Ok F l (eV t.kid (n / 4 ^ l % 4) E i):=fun i K=>by
        by_cases e:i=n / 4 ^ l % 4
        ·rw[e,fE];exact Q
        ·rw[eF _ _ e];exact(k.kid K).ext c.ext
       obtain⟨P,l2⟩:=EI c.bd (by omega) L h;refine⟨c.trans P,fun u o=>?_⟩;obtain⟨U,V,X⟩:=l2 u o;refine⟨U,fun i=>?_,X.ext c.ext⟩;rw[V]
       by_cases e:i / 4 ^ l % 4=n / 4 ^ l % 4
       ·rw[e,fE,R]
        by_cases v:i % 4 ^ l=n % 4 ^ l
        ·rw[if_pos v,if_pos ((tN i n l).2 ⟨e,v⟩)]
        ·rw[if_neg v,if_neg fun h=>v ((tN i n l).1 h).2,k.blk_succ,e]
       ·rw[eF _ _ e,if_neg fun h=>e ((tN i n l).1 h).1,k.blk_succ]
def Kor.room(S:Kor)(N:Nat):Prop:=qC S.allUp S.cp (cJ S.L S.D S.Z) N
theorem EJ{S:Kor}(h:S.room (N+1))(lv:Nat)(b:List UInt8):∃p T,S.put lv b=some (p,T)/\T.room N:=by
 obtain⟨l,c,e⟩:=H9 h;refine⟨⟨bF S.L S.Z l,S.txg+1,(lv:Int),dD b⟩,⟨S.D,S.Z,S.cp,S.L++bF S.L S.Z l,mF b (bF S.L S.Z l) S.M,S.txg⟩,?_,?_⟩
 ·unfold Kor.put;rw[c]
 ·unfold Kor.room
  show qC S.allUp S.cp (cJ (S.L++bF S.L S.Z l) S.D S.Z) N;rw[zP c];exact e
theorem Kf{S:Kor}(h:S.room (N+1))(j:b≠zB):∃u T,S.leaf b=(some u,T)/\T.room N/\u.isHole=false:=by
 obtain⟨p,T,c,e⟩:=EJ h 0 b;refine⟨.leaf p b,T,?_,e,rfl⟩;unfold Kor.leaf;rw[if_neg j,c]
theorem MD{S:Kor}(h:S.room (N+1)){k:Nat->Tr}(j:gM k=false):∃u T,S.lay l k=(some u,T)/\T.room N/\u.isHole=false:=by
 obtain⟨p,T,c,e⟩:=EJ h l (cL l (eX k));refine⟨.node p k,T,?_,e,rfl⟩;unfold Kor.lay;rw[j,c];rfl
theorem Iw{k:Nat->Tr}(e:i<4){u:Tr}(c:u.isHole=false):gM (eV k i u)=false:=by
 cases h:gM (eV k i u) with
 | false=>rfl
 | true =>
   have:=vB h e;rw[fE] at this;rw[this] at c;cases c
theorem CS(c:b≠zB)(n:Nat):∀(l:Nat){S:Kor}(t:Tr){N:Nat},S.room (N+(l+1))->∃u T,eK l S t n b=(some u,T)/\T.room N/\u.isHole=false
 | 0,S,t,N,h=>Kf h c
 | l+1,S,t,N,h=>by
   have z:S.room (N+1+(l+1)):=by
    have e:N+1+(l+1)=N+(l+1+1):=by omega
    rw[e];exact h
   obtain⟨C,A,j,o,r⟩:=CS c n l (S:=S) (t.kid (n / 4 ^ l % 4)) (N:=N+1) z;obtain⟨u,T,v,y,h6⟩:=MD (l:=l+1) o (Iw (k:=t.kid) (cR n l) r);refine⟨u,T,?_,y,h6⟩;unfold eK;rw[j];exact v
theorem B7{cut:Kor->Tr->Int->Int->Option Tr×Kor}{t:Tr}{S:Kor}(L:S.Bd)(H:Tr.Ok S (l+1) t){C:Nat->Int->Int->Prop}
 (hcut:∀{S:Kor}{t:Tr}{f g:Int}{r:Option Tr}{T:Kor},S.Bd->Tr.Ok S l t->cut S t f g=(r,T)->Beh S T/\∀u,r=some u->Tr.Ok T l u/\(∀i,u.blk l i=if f≤((i % 4 ^ l:Nat):Int)/\((i % 4 ^ l:Nat):Int)<g then zB else t.blk l i)/\(u=t\/(t.isHole=false/\Fr S u))) :
 ∀(j:Nat),j≤4->∀{r:Option ((Nat->Tr)×Bool)}{T:Kor},gI cut W S t f g j=(r,T) ->
  Beh S T/\∀k y,r=some (k,y)->(∀i,i<4->Tr.Ok T l (k i))/\(∀i,j≤i->k i=t.kid i) /\
   (∀i,i<j->∀n,(k i).blk l n=if f-i*W≤((n % 4 ^ l:Nat):Int)/\((n % 4 ^ l:Nat):Int)<g-i*W then zB else (t.kid i).blk l n)/\(y=false->∀i,i<4->k i=t.kid i)/\(y=true->t.isHole=false)
 | 0,_,r,T,h=>by
   unfold gI at h;injection h with G E
   subst G E;refine⟨Beh.refl L,fun k y o=>?_⟩;injection o with o
   injection o with z F
   subst z F;exact⟨fun i v=>H.kid v,fun i _=>rfl,fun i v=>by omega,fun _ i _=>rfl,fun h=>by cases h⟩
 | j+1,hj,r,T,h=>by
   unfold gI at h;cases G:gI cut W S t f g j with
   | mk r1 Q =>
     rw[G] at h;obtain⟨A,e2⟩:=B7 L H hcut (C:=C) j (by omega) G;cases r1 with
     | none =>
       injection h with E z
       subst E z;exact⟨A,fun k y o=>by cases o⟩
     | some x =>
       obtain⟨k1,c1⟩:=x;obtain⟨R,U,V,X,Y⟩:=e2 k1 c1 rfl;simp only[] at h;cases E:cut Q (t.kid j) (f-j*W) (g-j*W) with
       | mk r2 T2 =>
         rw[E] at h;obtain⟨b1,b2⟩:=hcut A.bd ((H.kid (by omega)).ext A.ext) E;cases r2 with
         | none =>
           injection h with z F
           subst z F;exact⟨A.trans b1,fun k y o=>by cases o⟩
         | some u =>
           injection h with z F
           subst z F;obtain⟨d1,d2,I⟩:=b2 u rfl;refine⟨A.trans b1,fun k y o=>?_⟩;injection o with o
           injection o with h5 h6
           subst h5 h6;refine⟨fun i v=>?_,fun i v=>?_,fun i v m=>?_,fun c i v=>?_,fun c=>?_⟩
           ·by_cases e:i=j
            ·rw[e,fE];exact d1
            ·rw[eF _ _ e];exact(R i v).ext b1.ext
           ·rw[eF _ _ (by omega)];exact U i (by omega)
           ·by_cases e:i=j
            ·subst e;rw[fE];exact d2 m
            ·rw[eF _ _ e];exact V i (by omega) m
           ·rw[Bool.or_eq_false_iff] at c
            by_cases e:i=j
            ·subst e
             rw[fE];rcases I with h|⟨h,P⟩
             ·exact h
             ·have K:=c.2
              rw[show (t.kid i).ptr.eqB u.ptr=false from by
               cases e9:(t.kid i).ptr.eqB u.ptr with
               | false=>rfl
               | true =>
                 have J:=Fr.ne ((H.kid (by omega)).ext A.ext) h P;rw[pP e9,mG] at J;cases J] at K
              cases K
            ·rw[eF _ _ e];exact X c.1 i v
           ·cases t with
            | hole =>
              rw[Bool.or_eq_true] at c;rcases c with c|c
              ·exact Y c
              ·rcases I with h|⟨h,P⟩
               ·rw[h,mG] at c;cases c
               ·cases h
            | leaf p b=>rfl
            | node p k=>rfl
theorem tO:∀{l:Nat},l≤3->∀{S:Kor}{t:Tr}{f g:Int}{r:Option Tr}{T:Kor},S.Bd->Tr.Ok S l t->cF l S t f g=(r,T) ->
 Beh S T/\∀u,r=some u->Tr.Ok T l u/\(∀i,u.blk l i=if f≤((i % 4 ^ l:Nat):Int)/\((i % 4 ^ l:Nat):Int)<g then zB else t.blk l i)/\(u=t\/(t.isHole=false/\Fr S u))
 | 0,_,S,t,f,g,r,T,v,o,h=>by
   unfold cF at h
   by_cases c:(t.isHole || decide (min g 1≤max f 0))=true
   ·rw[if_pos c] at h
    injection h with j n
    subst j n;refine⟨Beh.refl v,fun u e=>?_⟩;cases e
    refine⟨o,fun i=>?_,.inl rfl⟩;rw[Bool.or_eq_true,decide_eq_true_eq] at c
    by_cases E:f≤((i % 4 ^ 0:Nat):Int)/\((i % 4 ^ 0:Nat):Int)<g
    ·rw[if_pos E]
     rcases c with c|c
     ·rw[fD c,Tr.blk_hole]
     ·rw[Nat.pow_zero,Nat.mod_one] at E;omega
    ·rw[if_neg E]
   ·rw[if_neg c] at h
    injection h with j n
    subst j n;refine⟨Beh.refl v,fun u e=>?_⟩;cases e
    rw[Bool.or_eq_true,not_or,decide_eq_true_eq] at c;refine⟨trivial,fun i=>?_,.inr ⟨by simpa using c.1,Fr.hole S⟩⟩;rw[if_pos (by rw[Nat.pow_zero,Nat.mod_one];omega),Tr.blk_hole]
 | l+1,hl,S,t,f,g,r,T,v,o,h=>by
   have V:0<4 ^ l:=Nat.pos_of_ne_zero (by simp);obtain⟨W,F⟩:=zX9 (4 ^ l)
   have G:4 ^ (l+1)=4*W:=by rw[Nat.pow_succ,F,Nat.mul_comm]
   unfold cF at h;have e4:(4:Int) ^ (l+1)=((4*W:Nat):Int):=by rw[←G];norm_cast
   have e5:(4:Int) ^ l=(W:Int):=by rw[←F];norm_cast
   rw[e4,e5] at h;rw[F] at V
   by_cases c:(t.isHole || decide (min g ((4*W:Nat):Int)≤max f 0))=true
   ·rw[if_pos c] at h
    injection h with j n
    subst j n;refine⟨Beh.refl v,fun u e=>?_⟩;cases e
    refine⟨o,fun i=>?_,.inl rfl⟩;rw[Bool.or_eq_true,decide_eq_true_eq] at c
    by_cases E:f≤((i % 4 ^ (l+1):Nat):Int)/\((i % 4 ^ (l+1):Nat):Int)<g
    ·rw[if_pos E]
     rcases c with c|c
     ·rw[fD c,Tr.blk_hole]
     ·have:=Nat.mod_lt i (y:=4 ^ (l+1)) (by omega)
      omega
    ·rw[if_neg E]
   ·rw[if_neg c] at h
    rw[Bool.or_eq_true,not_or,decide_eq_true_eq] at c;have R:t.isHole=false:=by simpa using c.1
    by_cases X:min g ((4*W:Nat):Int)-max f 0=((4*W:Nat):Int)
    ·rw[if_pos X] at h
     injection h with j n
     subst j n;refine⟨Beh.refl v,fun u e=>?_⟩;cases e
     refine⟨trivial,fun i=>?_,.inr ⟨R,Fr.hole S⟩⟩;have:=Nat.mod_lt i (y:=4 ^ (l+1)) (by omega);rw[if_pos (by omega),Tr.blk_hole]
    ·rw[if_neg X] at h
     cases U:gI (cF l) (W:Int) S t (max f 0) (min g ((4*W:Nat):Int)) 4 with
     | mk r1 T1 =>
       rw[U] at h;obtain⟨A,e2⟩:=B7 v o (C:=fun _ _ _=>True) (fun {S t f g r T} v o h=>tO (by omega) v o h) 4 (by omega) U;cases r1 with
       | none =>
         injection h with j n
         subst j n;exact⟨A,fun u e=>by cases e⟩
       | some x =>
         obtain⟨k,P⟩:=x;obtain⟨Y,a2,a3,a4,a5⟩:=e2 k P rfl;simp only[] at h
         have z:∀i,(k (i / 4 ^ l % 4)).blk l i=if f≤((i % 4 ^ (l+1):Nat):Int)/\((i % 4 ^ (l+1):Nat):Int)<g then zB else t.blk (l+1) i:=fun i=>by
          have I:=cR i l;rw[a3 _ I,o.blk_succ,pO i l,F];have hm:=Nat.mod_lt i V;obtain⟨d,J⟩:=zX9 (i / W % 4)
          rw[F] at I;rw[J] at I ⊢;obtain⟨m,L⟩:=zX9 (i % W)
          rw[L] at hm ⊢;have K:d*W≤3*W:=Nat.mul_le_mul_right _ (by omega);have H:((d:Int)*(W:Int))=((d*W:Nat):Int):=by norm_cast
          rw[H];obtain⟨q,hq⟩:=zX9 (d*W)
          rw[hq] at K ⊢
          by_cases Q:f≤((q+m:Nat):Int)/\((q+m:Nat):Int)<g
          ·rw[if_pos Q,if_pos (by omega)]
          ·rw[if_neg Q,if_neg (by omega)]
         cases P with
         | true =>
           rw[if_pos rfl] at h;obtain⟨l1,l2⟩:=EI A.bd (by omega) Y h;refine⟨A.trans l1,fun u e=>?_⟩;obtain⟨q1,q2,q3⟩:=l2 u e;exact⟨q1,fun i=>by rw[q2];exact z i,.inr ⟨R,q3.ext A.ext⟩⟩
         | false =>
           rw[if_neg (by decide)] at h;injection h with j n
           subst j n;refine⟨A,fun u e=>?_⟩;cases e
           exact⟨o.ext A.ext,fun i=>by rw[←z i,a4 rfl _ (cR i l),o.blk_succ],.inl rfl⟩
theorem NG(h:0<x):dE [x,x] [true,true] 2=[0,1]:=by
 have h0:fA [x,x] [true,true] 0=true:=by simp[fA,h]
 have c:fA [x,x] [true,true] 1=true:=by simp[fA,h]
 rw[sN,sN,if_pos h0,if_pos c];rfl
theorem Oq(h:0<x):cI [x,x] [true,true] 2=some [0,1]:=by
 have e:kD [x,x] [true,true]=[0,1]:=(zH (by show [0,1].Perm (dE [x,x] [true,true] 2);rw[NG h]) (by
  show List.Pairwise _ [0,1];simp[dG])).symm
 unfold cI;rw[e];show (if dE [x,x] [true,true] 2=[]\/(dE [x,x] [true,true] 2).length<lX [true,true] 2 then none else some (List.take (lX [true,true] 2) [0,1]))=_;rw[NG h];rfl
theorem CT:∀n:Nat,qC [true,true] 2 [(n:Int),(n:Int)] n
 | 0=>.none (by decide)
 | n+1=>.more (Oq (by omega)) (by
    have:nP [((n+1:Nat):Int),((n+1:Nat):Int)] [0,1]=[(n:Int),(n:Int)]:=by simp[nP]
    rw[this];exact CT n)
theorem sY(d:Nat):∀Z,(bD [] d Z).length=Z-5
 | 0=>rfl
 | Z+1=>by
   rw[sQ,List.length_append,sY d Z]
   by_cases h:5≤Z
   ·rw[if_pos (by simp[gX,eB,h])]
    show Z-5+1=_;omega
   ·rw[if_neg (by simp[gX,h])]
    show Z-5+0=_;omega
theorem Kor.room_new(Z:Nat)(M:Nat->Nat->List UInt8)(t:Int):Kor.room ⟨2,Z,2,[],M,t⟩ (Z-5):=by
 show qC [true,true] 2 (cJ [] 2 Z) (Z-5)
 have:cJ [] 2 Z=[((Z-5:Nat):Int),((Z-5:Nat):Int)]:=by
  show [((bD [] 0 Z).length:Int),((bD [] 1 Z).length:Int)]=_;rw[sY,sY]
 rw[this];exact CT _
theorem Tr.Ok.top{S:Kor}{t:Tr}(h:Tr.Ok S 3 t)(c:t.isHole=false):t.ptr.level=3/\1≤t.ptr.birth/\t.ptr.birth≤S.txg+1:=by
 cases t with
 | hole=>cases c
 | leaf p b=>exact h.elim
 | node p k=>exact⟨h.1.lev,h.1.born⟩
theorem EN:Hid (∀w,(zeroValue 293).run prog w=.ok (.agg #[.int .i64 0,.slice none 0 0]) w):=O fun w=>by kernel_rfl
def DS(a:Nat):List Value:=.pointer a::List.replicate 24 (.int .i64 0)
def fF(w:World)(m a:Nat):Prop:=w.heap[m]?=some (.cells (DS a).toArray 243 (0,0))
theorem fF.c0(h:fF w m a):w.cell? ⟨m,0,none⟩=some (.pointer a):=aD h rfl
theorem lS(h:bP w a B D Z M nw):Calls prog 76 #[.pointer a] w (aK w (.int .i64 (D:Int))):=by
 obtain⟨j,e,lv,st,f,F,W,c,-⟩:=h;exact Qe c
theorem xN(h:bP w a B D Z M nw):Calls prog 120 #[.pointer a] w (aK w (.int .i64 (Z:Int))):=by
 obtain⟨j,e,lv,st,f,F,W,c,-⟩:=h;exact DO c
theorem QB(h:bP w a B D Z M nw)(d:Int):Calls prog 82 #[.pointer a,.int .i64 d] w (aK w (.bool (decide (0≤d) && decide (d<(D:Int))))):=by
 obtain⟨j,e,lv,st,f,F,W,c,-⟩:=h;exact aup c d
theorem Qi(h:bP w a B D Z M nw)(c:d<D)(e:s<Z):Calls prog 115 #[.pointer a,.int .i64 (d:Int),.int .i64 (s:Int)] w (uZ w (M d s) (.int .i64 0)):=by
 obtain⟨o,n,lv,st,f,F,W,j,-,-,k⟩:=h;rw[k d s c e];exact Oj j c e
theorem Qj(h:bP w a B D Z M nw)(c:d<D)(e:s<Z):Calls prog 185 #[.pointer a,.int .i64 (d:Int),.int .i64 (s:Int)] w (uZ w (M d s) (.bool true)):=by
 obtain⟨o,n,lv,st,f,F,W,j,-,-,k⟩:=h;rw[k d s c e];exact Mv j c e
theorem Ou(h:bP w a B D Z M nw):Calls prog 115 #[.pointer a,.int .i64 (-1),.int .i64 0] w (aK w (.tuple #[.slice none 0 0,.int .i64 5])):=by
 obtain⟨j,e,lv,st,f,F,W,c,-⟩:=h;exact Om c
theorem bP.len(h:bP w a B D Z M nw)(e:d<D)(j:s<Z):(M d s).length=256:=by
 obtain⟨o,n,lv,st,f,F,W,c,-,-,k⟩:=h;rw[k d s e j];exact uY c.wok (c.fok d s e j)
theorem CU(w:World)(m a:Nat)(c:fF w m a):Calls prog 208 #[.pointer m] w (aK w (.bool false)):=by
 have c0:=c.c0;clear c;go_in;go_wp2;go_ret;exact aK.of (aA.refl _ _)
theorem ME(w:World)(n:Nat)(c:0<n):Calls prog 223 #[.int .i64 (n:Int)] w (aK w (.tuple #[.int .i64 (n:Int),.int .i64 0])):=by
 have e:((n:Int) == 0)=false:=by rw[beq_eq_false_iff_ne];omega
 go_in;go_wp2
 go_ret2
 exact aK.of (aA.refl _ _)
theorem MF(h:bP w a B D Z M nw):Calls prog 116 #[.pointer a] w fun e t=>∃m,e=.returned (.tuple #[.pointer (some ⟨m,0,none⟩),.int .i64 0])/\w.heap.size≤m/\fF t m a/\aA aB w t:=by
 have o:=O (lS h);have k:=h.bd;have e:((D:Int) == 0)=false:=by rw[beq_eq_false_iff_ne];omega
 have j:∀w,(Instr.build 243 #[(0,.pointer a)]).run prog w=.ok (.agg (DS a).toArray) w:=fun w=>by kernel_rfl
 clear h k;go_in;go_wp2_with fail;refine o.mono ?_;rintro e C ⟨rfl,n⟩;have v:=O n;have A:=n.size;clear n o
 go_wp2_with ((with_reducible show WL _ _);first
  | refine bld 243 #[(0,.tmp 7)] [(0,.pointer a)] (.agg (DS a).toArray) j ?_
  | refine bx 243 (.tmp 8) (DS a).toArray ?_)
 intro b u z c r;have y:Hid (∃m,Ending.returned (.tuple #[.pointer b,.int .i64 0])=.returned (.tuple #[.pointer (some ⟨m,0,none⟩),.int .i64 0])/\w.heap.size≤m/\fF u m a/\aA aB w u):=O ⟨b,rfl,by omega,r,v.trans c⟩;clear z c r;go_wp2
 go_ret2
 exact y.out
theorem nA{x:Ad}(h:eN x D Z):∃d s:Nat,x=⟨(d:Int),(s:Int)⟩/\d<D/\5≤s/\s<Z:=by
 obtain⟨e,j⟩:=x;obtain⟨c,k,n,o⟩:=h;replace c:0≤e:=c;replace k:e<(D:Int):=k;replace n:5≤j:=n;replace o:j<(Z:Int):=o;exact⟨e.toNat,j.toNat,by rw[Int.toNat_of_nonneg c,Int.toNat_of_nonneg (by omega)],by omega,by omega,by omega⟩
theorem xO(h:bP w a B D Z Mm nw)(hm:fF w m a)(v:Value)(l:List Ad)(X:Rd w 2 v l.length (aR l))(hl:∀x∈l,eN x D Z):Calls prog 209 #[.pointer m,v] w (aK w (.bool true)):=by
 obtain⟨oa,ca,rfl,-,-⟩:=X.form;obtain⟨n,hn⟩:=zX9 l.length
 have HN:=O hn;rw[hn] at X ⊢;have qe:n≤maxLen:=by obtain⟨_,a',c',h1,h2,h3,-⟩:=X;omega
 unfold maxLen at qe;have HR:=O X;have HA:=O h;have qc:=O hm;have qb:=O hl;clear X h hm hl hn;go_in;go_wp2_with fail
 go_loopw [9] (fun i wr=>∃k:Nat,k≤n/\i=.int .i64 k/\Hid (aA aB w wr)) (fun i _=>n-(intOf i).toNat)
 case atStart=>exact⟨0,by omega,rfl,O (aA.refl _ _)⟩
 case round =>
  obtain⟨k,y,rfl,T⟩:=hrel
  by_cases qd:k<n
  ·obtain⟨x,hx⟩:∃x,l[k]?=some x:=⟨l[k]'(by rw[HN.out];exact qd),List.getElem?_eq_getElem _⟩
   obtain⟨d,s,rfl,hd,qh,qi⟩:=nA (qb x (List.mem_of_getElem? hx));have Q:=HR.out;rw[←HN.out] at Q;obtain⟨g,o,qf,hv,U⟩:=kF Q hx;obtain rfl:oa=some ⟨g,o,none⟩:=by cases hv;rfl
   have Y:=O (T.rangeAt U);have E:=lN wr;have r:=O (HA.keep0 T.out);have u:Hid (fF wr m a):=O (T.blk qc.out id);have P:(0:Int)≤(k:Int):=by omega
   have qg:(k:Int)<(n:Int):=by omega
   have e1:¬((d:Int)<0):=by omega
   have e2:¬((D:Int)≤(d:Int)):=by omega
   have e3:¬((s:Int)<5):=by omega
   have e4:¬((Z:Int)≤(s:Int)):=by omega
   clear hx Q U hv
   go_wp2_with ((with_reducible show WL _ _);first
    | refine wpList_load_mid rfl 82 (.tmp 11) rfl g (o+k*2) rfl (aO ⟨(d:Int),(s:Int)⟩) _ Y.out bQ rfl (by rw[bG];exact jS) ?_
    | refine al 82 (.agg kO.toArray) (kO.toArray) xH ?_)
   intro H w1 V P K
   go_wp2_with ((with_reducible show WL _ _);refine sta 82 (.tmp 6) (.tmp 12) H 0 (aO ⟨(d:Int),(s:Int)⟩) K (by first|decide|(rw[List.size_toArray,bG];exact Nat.le_refl _)|simp[bG]) (by rw[bG];exact jS) (bN _) ?_)
   intro w2 y hb;rw[aI _ _ (by first|rfl|(rw[List.size_toArray,bG];rfl)|simp[bG])] at hb;replace y:=tX P y (fun i hi e=>by omega);replace E:=lW E V y hb;replace Y:=O (y.rangeAt Y.out);replace r:=O (r.keep0 y);replace u:=O (y.blk u.out id);clear V y hb P K;clear Y;go_wp2_with fail;refine dwA aB (by kernel_rfl) ?_;intro w3 S z L C J;replace E:=kL E J;replace r:=O (r.keep0 J);replace u:=O (J.blk u.out id);clear J;have F:=E;have R:=r;have G:=u;refine tnb 0 (.pointer H) rfl C ?_;refine tnd 1 (.int .i64 (d:Int)) rfl (.inl ⟨by rfl,fun A t=>by have c:World.cell? A ⟨H,0,none⟩=some (.int .i64 (d:Int)):=(aD (i:=0) ((z A t).blk (F.b 0) id) rfl);go_simp⟩) C ?_;refine tnd 2 (.bool false) rfl (.inl ⟨by rfl,fun _ _=>by go_simp<;>first|omega|(simp;omega)⟩) C ?_;refine tna 3 (.bool false) rfl C ?_;refine tnb 4 (.pointer H) rfl C ?_;refine tnd 5 (.int .i64 (d:Int)) rfl (.inl ⟨by rfl,fun A t=>by have c:World.cell? A ⟨H,0,none⟩=some (.int .i64 (d:Int)):=(aD (i:=0) ((z A t).blk (F.b 0) id) rfl);go_simp⟩) C ?_;refine tna 6 (.pointer m) rfl C ?_;refine tnb 7 (.pointer m) rfl C ?_;refine tnb 8 (.pointer m) rfl C ?_;refine tnd 9 (.pointer a) rfl (.inl ⟨by rfl,fun A t=>by have c:World.cell? A ⟨m,0,none⟩=some (.pointer a):=(z A t).cell (fF.c0 G.out) id;go_simp⟩) C ?_;refine wA9 10 ?_;go_wp2_with fail;refine(lS r.out).mono ?_;rintro e w4 ⟨rfl,y⟩;have j:=L.out _ ((z _ C).trans y);replace E:=kL E y;replace r:=O (r.keep0 y);replace u:=O (y.blk u.out id);clear C y;go_wp2_with fail;refine⟨j,?_⟩;refine tnd 11 (.bool false) rfl (.inl ⟨by rfl,fun _ _=>by go_simp<;>first|omega|(simp;omega)⟩) j ?_;refine tna 12 (.bool false) rfl j ?_;refine tna 13 (.bool false) rfl j ?_;refine tnb 14 (.pointer (some ⟨H,1,none⟩)) rfl j ?_;refine tnd 15 (.int .i64 (s:Int)) rfl (.inl ⟨by rfl,fun A t=>by have c:World.cell? A ⟨H,1,none⟩=some (.int .i64 (s:Int)):=(aD (i:=1) ((z A t).blk (F.b 0) id) rfl);go_simp⟩) j ?_;refine tnd 16 (.bool false) rfl (.inl ⟨by rfl,fun _ _=>by go_simp<;>first|omega|(simp;omega)⟩) j ?_;refine tna 17 (.bool false) rfl j ?_;refine tna 18 (.bool false) rfl j ?_;refine tnb 19 (.pointer (some ⟨H,1,none⟩)) rfl j ?_;refine tnd 20 (.int .i64 (s:Int)) rfl (.inl ⟨by rfl,fun A t=>by have c:World.cell? A ⟨H,1,none⟩=some (.int .i64 (s:Int)):=(aD (i:=1) ((z A t).blk (F.b 0) id) rfl);go_simp⟩) j ?_;refine tna 21 (.pointer m) rfl j ?_;refine tnb 22 (.pointer m) rfl j ?_;refine tnb 23 (.pointer m) rfl j ?_;refine tnd 24 (.pointer a) rfl (.inl ⟨by rfl,fun A t=>by have c:World.cell? A ⟨m,0,none⟩=some (.pointer a):=(z A t).cell (fF.c0 G.out) id;go_simp⟩) j ?_;refine wA9 25 ?_;go_wp2_with fail;refine(xN r.out).mono ?_;rintro e w5 ⟨rfl,y⟩;have I:=L.out _ ((z _ j).trans y);replace E:=kL E y;replace r:=O (r.keep0 y);replace u:=O (y.blk u.out id);clear j y;go_wp2_with fail;refine⟨I,?_⟩;refine tnd 26 (.bool false) rfl (.inl ⟨by rfl,fun _ _=>by go_simp<;>first|omega|(simp;omega)⟩) I ?_;refine tna 27 (.bool false) rfl I ?_;refine wpAnyH_done (by kernel_rfl) ?_ _;clear I z L F R G;have qa:=O (T.trans E.keep);clear E r u;go_wp2
   go_roundw
   case rel=>exact⟨k+1,by omega,by go_num,qa⟩
   case measure=>simp[intOf];omega
  ·obtain rfl:n=k:=by omega
   go_wp2;go_ret;exact aK.of T.out
theorem Iy(w:World)(v:Value)(l:List Ad)(I:Rd w 2 v l.length (aR l))(hl:(l.map (·.dev)).Nodup)(P:jE l):Calls prog 222 #[v] w (aK w (.bool true)):=by
 obtain⟨oa,ca,rfl,-,-⟩:=I.form;obtain⟨n,hn⟩:=zX9 l.length
 have R:=O hn;rw[hn] at I ⊢;have ql:n≤ca:=by obtain⟨_,a',c',L,S,h3,-⟩:=I;cases L;exact S
 have qb:n≤maxLen:=by obtain⟨_,a',c',L,S,h3,-⟩:=I;omega
 unfold maxLen at qb;have HR:=O I;have X:=O hl;have qd:=O P;clear I hl P hn;go_in;go_wp2_with fail
 go_loopw [9] (fun i wr=>∃k:Nat,k≤n/\i=.int .i64 k/\Hid (aA aB w wr)) (fun i _=>n-(intOf i).toNat)
 case atStart=>exact⟨0,by omega,rfl,O (aA.refl _ _)⟩
 case round =>
  obtain⟨k,r,rfl,V⟩:=hrel
  by_cases qa:k<n
  ·obtain⟨x,hx⟩:∃x,l[k]?=some x:=⟨l[k]'(by rw[R.out];exact qa),List.getElem?_eq_getElem _⟩
   have h:=HR.out;rw[←R.out] at h;obtain⟨g,o,K,T,u⟩:=kF h hx;obtain rfl:oa=some ⟨g,o,none⟩:=by cases T;rfl
   have E:=O (V.rangeAt u);have Y:=O hx;have C:=lN wr;have t:(0:Int)≤(k:Int):=by omega
   have qj:(k:Int)<(n:Int):=by omega
   have qk:(k:Int)≤(ca:Int):=by omega
   clear hx h u T
   go_wp2_with ((with_reducible show WL _ _);first
    | refine wpList_load_mid rfl 82 (.tmp 12) rfl g (o+k*2) rfl (aO x) _ E.out bQ rfl (by rw[bG];exact jS) ?_
    | refine al 82 (.agg kO.toArray) (kO.toArray) xH ?_)
   intro b4 w1 z t c
   go_wp2_with ((with_reducible show WL _ _);refine sta 82 (.tmp 4) (.tmp 13) b4 0 (aO x) c (by first|decide|(rw[List.size_toArray,bG];exact Nat.le_refl _)|simp[bG]) (by rw[bG];exact jS) (bN _) ?_)
   intro w2 r H;rw[aI _ _ (by first|rfl|(rw[List.size_toArray,bG];rfl)|simp[bG])] at H;replace r:=tX t r (fun i hi e=>by omega);replace C:=lW C z r H;replace E:=O (r.rangeAt E.out);clear z r H t c;clear E;go_wp2_with fail;have U:=O (C.b 0);have J:=O (V.trans C.keep)
   go_loopw [18] (fun i qc=>∃j:Nat,j≤k/\i=.int .i64 j/\Hid (aA aB w2 qc)) (fun i _=>k-(intOf i).toNat)
   case atStart=>exact⟨0,by omega,rfl,O (aA.refl _ _)⟩
   case round =>
    rename_i wo;obtain⟨j,hj,rfl,A⟩:=hrel
    by_cases qi:j<k
    ·obtain⟨y,hy⟩:∃y,l[j]?=some y:=⟨l[j]'(by rw[R.out];omega),List.getElem?_eq_getElem _⟩
     have h:=HR.out;rw[←R.out] at h;obtain⟨g',o',K,T,u⟩:=kF h hy;cases T
     have E:=O ((J.trans A.out).rangeAt u)
     have Q:x.dev≠y.dev:=by
      intro e;have L:(l.map (·.dev))[k]?=some x.dev:=by rw[List.getElem?_map,Y.out];rfl
      have S:(l.map (·.dev))[j]?=some x.dev:=by rw[List.getElem?_map,hy,e];rfl
      have:=((List.getElem?_inj (List.getElem?_eq_some_iff.1 L).1 X.out).1 (L.trans S.symm))
      omega
     have qe:(x.dev == y.dev)=false:=by rw[beq_eq_false_iff_ne];exact Q
     have F:=O (A.blk U.out id);have qf:(0:Int)≤(j:Int):=by omega
     have qg:(j:Int)<(k:Int):=by omega
     have qh:(j:Int)<(n:Int):=by omega
     have C:=lN wr;clear hy h u Q
     go_wp2_with ((with_reducible show WL _ _);first
      | refine wpList_load_mid rfl 82 (.tmp 20) rfl g (o+j*2) rfl (aO y) _ E.out bQ rfl (by rw[bG];exact jS) ?_
      | refine al 82 (.agg kO.toArray) (kO.toArray) xH ?_)
     intro b6 w3 z t c
     go_wp2_with ((with_reducible show WL _ _);refine sta 82 (.tmp 6) (.tmp 21) b6 0 (aO y) c (by first|decide|(rw[List.size_toArray,bG];exact Nat.le_refl _)|simp[bG]) (by rw[bG];exact jS) (bN _) ?_)
     intro w4 r H;rw[aI _ _ (by first|rfl|(rw[List.size_toArray,bG];rfl)|simp[bG])] at H;replace r:=tX t r (fun i hi e=>by omega);replace C:=lW C z r H;replace E:=O (r.rangeAt E.out);replace F:=O (r.blk F.out id);clear z r H t c;have c1:w4.cell? ⟨b4,0,none⟩=some (.int .i64 x.dev):=aD (i:=0) F.out rfl;have c2:w4.cell? ⟨b6,0,none⟩=some (.int .i64 y.dev):=aD (i:=0) (C.b 0) rfl;have G:=O (A.trans C.keep);go_wp2
     go_roundw
     case rel=>exact⟨j+1,by omega,by go_num,G⟩
     case measure=>simp[intOf];omega
    ·obtain rfl:k=j:=by omega
     have G:=O (J.trans A.out);go_wp2
     go_roundw
     case rel=>exact⟨k+1,by omega,by go_num,G⟩
     case measure=>simp[intOf];omega
  ·obtain rfl:n=k:=by omega
   go_wp2;go_ret;exact aK.of V.out
def rF(w:World)(a:Nat)(B:Nat->Prop)(D Z:Nat)(Mm:Nat->Nat->List UInt8)(nw:Nat)(l:List Ad)(b:List UInt8)(e:Ending)(h:World):Prop:=
 e=.returned (.tuple #[.int .i64 (l.length:Int),.int .i64 0])/\∃c,bP h a c D Z (mF b l Mm) (nw+l.length)/\(∀k,c k->B k\/w.heap.size≤k)/\aA B w h
theorem rF.keep{c j:World}{l:List Ad}{e:Ending}(h:rF w a B D Z Mm nw l b e c)(k:aA aB c j):rF w a B D Z Mm nw l b e j:=by
 obtain⟨o,n,r,t,u⟩:=h;exact⟨o,n,r.keep0 k,t,u.trans k.any⟩
structure MPI(w wr:World)(a:Nat)(B Bk:Nat->Prop)(D Z:Nat)(Mm:Nat->Nat->List UInt8)(nw k:Nat)(l:List Ad)(b:List UInt8):Prop where
 arr:bP wr a Bk D Z (mF b (l.take k) Mm) (nw+k)
 grow:∀i,Bk i->B i\/w.heap.size≤i
 keep:aA B w wr
theorem MG(h:bP w a B D Z Mm nw)(hm:fF w m a)(qw:¬B m)(v:Value)(l:List Ad)(hr:Rd w 2 v l.length (aR l))(hl:∀x∈l,eN x D Z)(qu:(l.map (·.dev)).Nodup)(qv:jE l)(h1:1≤l.length)(h3:l.length≤3)
 (hv:∀i,v.ownBlock=some i->¬B i) (X:Value) (b:List UInt8) (za:b.length=256) (hb:Rd w 1 X 256 (b.map vb)) (qx:∀i,X.ownBlock=some i->¬B i) (hn:nw<90000000000) :
 Calls prog 183 #[.pointer m,v,X] w (rF w a B D Z Mm nw l b):=by
 obtain⟨oa,ca,rfl,-,-⟩:=hr.form
 obtain⟨g2,o2,c2,rfl⟩:∃g o c,X=.slice (some ⟨g,o,none⟩) 256 c:=by
  obtain⟨h1,a',c',rfl,-,-,-,h4⟩:=hb;obtain⟨g,o,rfl,hc⟩:=h4 (by rw[h1];decide);exact⟨g,o,c',rfl⟩
 obtain⟨n,V⟩:=zX9 l.length
 have HN:=O V
 have qr:oa=none\/∃g o,oa=some ⟨g,o,none⟩/\g<w.heap.size:=by
  obtain⟨L,a',c',he,-,-,-,h4⟩:=hr;obtain⟨g,o,rfl,hc⟩:=h4 (by rw[L];omega);cases he
  obtain⟨u,hu⟩:∃u,(aR l)[0]?=some u:=⟨_,List.getElem?_eq_getElem (by rw[L];omega)⟩
  exact .inr ⟨g,o,rfl,World.block_lt_of_cell? w _ (hc 0 u hu)⟩
 have zi:m<w.heap.size:=lt_of_block hm
 have qe:g2<w.heap.size:=by
  obtain⟨L,a',c',he,-,-,-,h4⟩:=hb;obtain⟨g,o,e,hc⟩:=h4 (by rw[L];decide);cases he;cases e
  obtain⟨u,hu⟩:∃u,(b.map vb)[0]?=some u:=⟨_,List.getElem?_eq_getElem (by rw[L];decide)⟩
  exact World.block_lt_of_cell? w _ (hc 0 u hu)
 rw[V] at hr h1 h3 hv ⊢;have e1:¬((n:Int)<1):=by omega
 have e3:¬(3<(n:Int)):=by omega
 have R:=O h;have t:=O hm;have T:=O hr;have C:=O hb;have qi:=O hl;have qz:=O qu;have q0:=O qv;have HV:=O hv;have qm:=O qx;have zk:=O qr;have HS:=O (by have:=xO h hm _ l (by rw[V];exact hr) hl;exact this);have qb:=O (aA.refl aB w);clear h hm hr hb hl qu qv hv qx V qr;have z:=lN w;go_in;clear HS qb;go_wp2_with fail;refine(CU w m a t.out).mono ?_;rintro e w1 ⟨rfl,j⟩;replace z:=kL z j;replace R:=O (R.keep0 j);replace t:=O (j.blk t.out id);replace T:=O (T.keep j fun _ _=>id);replace C:=O (C.keep j fun _ _=>id);clear j;go_wp2_with fail;refine(xO R.out t.out _ l (by rw[HN.out];exact T.out) qi.out).mono ?_;rintro e w2 ⟨rfl,j⟩;replace z:=kL z j;replace R:=O (R.keep0 j);replace t:=O (j.blk t.out id);replace T:=O (T.keep j fun _ _=>id);replace C:=O (C.keep j fun _ _=>id);clear j;go_wp2_with fail;refine(Iy w2 _ l (by rw[HN.out];exact T.out) qz.out q0.out).mono ?_;rintro e w3 ⟨rfl,j⟩;replace z:=kL z j;replace R:=O (R.keep0 j);replace t:=O (j.blk t.out id);replace T:=O (T.keep j fun _ _=>id);replace C:=O (C.keep j fun _ _=>id);clear j;go_wp2_with fail;have H0:Hid (MPI w3 w3 a B B D Z Mm nw 0 l b):=O ⟨by rw[List.take_zero];exact R.out,fun i h=>.inl h,aA.refl _ _⟩;have zm:m<w3.heap.size:=lt_of_block t.out;have q1:Hid (w.heap.size≤w3.heap.size):=O z.keep.size;have qb:=O z.keep;have zj:w.heap.size≤w3.heap.size:=q1.out;have q5:=O T.out;have qk:=O C.out;have qj:=O t.out
 go_loopw [8,41] (fun c i wr=>∃(k:Nat) (Y:Nat->Prop),k≤n/\i=.int .i64 k/\c=.int .i64 k/\Hid (MPI w3 wr a B Y D Z Mm nw k l b)) (fun _ i _=>n-(intOf i).toNat)
 case atStart=>exact⟨0,B,by omega,rfl,rfl,H0⟩
 case round =>
  clear H0 z R;obtain⟨k,Y,j,rfl,rfl,Q⟩:=hrel
  by_cases zb:k<n
  ·obtain⟨x,hx⟩:∃x,l[k]?=some x:=⟨l[k]'(by rw[HN.out];exact zb),List.getElem?_eq_getElem _⟩
   obtain⟨d,s,rfl,hd,zn,zg⟩:=nA (qi x (List.mem_of_getElem? hx));have qc:=O Q.keep;have qg:=q5.keep qc.out HV.out;rw[←HN.out] at qg;obtain⟨g,o,zh,hv,qp⟩:=kF qg hx;obtain rfl:oa=some ⟨g,o,none⟩:=by cases hv;rfl
   have HX:=O qp;have q9:=O hx;have zd:¬Y g2:=fun e=>(Q.grow g2 e).elim (qm g2 rfl) (by omega)
   have zf:¬Y m:=fun e=>(Q.grow m e).elim qw (by omega)
   have r:=O (qk.keep qc.out qm.out);have y:Hid (fF wr m a):=O (qc.blk qj.out qw);have A:=O Q.arr;have z:=O (Loc.nil Y Y wr);have qf:(0:Int)≤(k:Int):=by omega
   have zl:(k:Int)<(n:Int):=by omega
   have ze:nw+k<100000000000:=by omega
   clear hx qg qp hv
   go_wp2_with ((with_reducible show WL _ _);first
    | refine wpList_load_mid rfl 82 (.tmp 43) rfl g (o+k*2) rfl (aO ⟨(d:Int),(s:Int)⟩) _ HX.out bQ rfl (by rw[bG];exact jS) ?_
    | refine al 82 (.agg kO.toArray) (kO.toArray) xH ?_)
   intro I w4 qq qf qa
   go_wp2_with ((with_reducible show WL _ _);refine sta 82 (.tmp 10) (.tmp 44) I 0 (aO ⟨(d:Int),(s:Int)⟩) qa (by first|decide|(rw[List.size_toArray,bG];exact Nat.le_refl _)|simp[bG]) (by rw[bG];exact jS) (bN _) ?_)
   intro w5 j hb;rw[aI _ _ (by first|rfl|(rw[List.size_toArray,bG];rfl)|simp[bG])] at hb;replace j:=tX qf j (fun i hi e=>by omega);replace z:=O (z.new (fun _ j=>A.lt j) qq j hb);replace HX:=O (j.rangeAt HX.out);replace A:=O (A.keep0 j);replace y:=O (j.blk y.out id);replace r:=O (r.keep j fun _ _=>id);clear qq j hb qf qa;clear HX;go_wp2_with fail;refine dwA Y (by kernel_rfl) ?_;intro w6 S H ql J K;replace z:=kL z K;replace A:=O (A.keep0 K);replace y:=O (K.blk y.out id);replace r:=O (r.keep K fun _ _=>id);clear K;have F:=z;have qh:=A;have G:=y;have qd:=r;refine tna 0 (.pointer m) rfl J ?_;refine tnb 1 (.pointer m) rfl J ?_;refine tnb 2 (.pointer m) rfl J ?_;refine tnd 3 (.pointer a) rfl (.inl ⟨by rfl,fun w' P=>by have c:World.cell? w' ⟨m,0,none⟩=some (.pointer a):=(H w' P).cell (fF.c0 G.out) zf;go_simp⟩) J ?_;refine tnb 4 (.pointer I) rfl J ?_;refine tnd 5 (.int .i64 (d:Int)) rfl (.inl ⟨by rfl,fun w' P=>by have c:World.cell? w' ⟨I,0,none⟩=some (.int .i64 (d:Int)):=(aD (i:=0) ((H w' P).blk (F.b 0) ((F.aq 0))) rfl);go_simp⟩) J ?_;refine tnb 6 (.pointer (some ⟨I,1,none⟩)) rfl J ?_;refine tnd 7 (.int .i64 (s:Int)) rfl (.inl ⟨by rfl,fun w' P=>by have c:World.cell? w' ⟨I,1,none⟩=some (.int .i64 (s:Int)):=(aD (i:=1) ((H w' P).blk (F.b 0) ((F.aq 0))) rfl);go_simp⟩) J ?_;refine tna 8 (.slice (some ⟨g2,o2,none⟩) 256 c2) rfl J ?_;refine wA9 9 ?_;go_wp2_with fail;refine(qK A.out hd zg b za _ r.out (fun i hi=>by cases hi;exact zd) ze).mono ?_;rintro e w7 ⟨rfl,B2,qo,qe,E⟩;have qn:=ql.out _ ((H _ J).trans E);have qt:=Q.keep.trans' ((z.keep).trans E) (U:=B) (fun _ _ h=>h) (fun i hi e=>(Q.grow i e).elim id (fun h=>absurd hi (by omega)));have qy:Hid (MPI w3 w7 a B B2 D Z Mm nw (k+1) l b):=O ⟨by rw[List.take_add_one,q9.out];show bP _ _ _ _ _ (mF b (l.take k++[⟨(d:Int),(s:Int)⟩]) Mm) _;rw[CR];exact qo,fun i hi=>(qe i hi).elim (fun h=>Q.grow i h) (fun h=>.inr (Nat.le_trans (Nat.le_trans Q.keep.size z.keep.size) h)),qt⟩;clear qo qe E qt J;go_wp2_with fail;refine⟨qn,?_⟩;refine wpAnyH_done (by kernel_rfl) ?_ _;clear qn H ql F qh G qd;clear z A y r;go_wp2
   go_roundw
   case rel=>exact⟨k+1,_,by omega,by go_num,by go_num,qy⟩
   case measure=>simp[intOf];omega
  ·obtain rfl:n=k:=by omega
   have HP:Hid (rF w a B D Z Mm nw l b (.returned (.tuple #[.int .i64 (n:Int),.int .i64 0])) wr):=O (by
    have h:=Q.out;refine⟨by rw[HN.out],Y,?_,fun i hi=>(h.grow i hi).imp id fun h=>by omega,qb.any.trans h.keep⟩;have ha:=h.arr;rw[List.take_of_length_le (by rw[HN.out];exact Nat.le_refl _)] at ha;rw[HN.out];exact ha)
   clear Q;go_wp2_with fail;refine(ME wr n (by omega)).mono ?_;rintro e w2 ⟨rfl,E⟩;have q3:=O (HP.keep E);clear E HP;go_wp2
   go_ret2
   exact q3.out
theorem iA{α β:Type}{l:List α}{f g:α->List β}(h:∀a∈l,f a=g a):l.flatMap f=l.flatMap g:=by
 induction l with
 | nil=>rfl
 | cons a l e=>rw[List.flatMap_cons,List.flatMap_cons,h a (List.mem_cons_self ..),e fun x c=>h x (List.mem_cons_of_mem _ c)]
def thr(f:Pt->Bool):Nat->Tr->Nat->List (Pt×Nat)
 | 0,t,a=>if t.isHole || !f t.ptr then [] else [(t.ptr,a)]
 | l+1,t,a=>if t.isHole || !f t.ptr then [] else (t.ptr,a)::(List.range 4).flatMap fun i=>thr f l (t.kid i) (a+i*4 ^ l)
def gR:Pt->Bool:=fun _=>true
def aZ(x:Int):Pt->Bool:=fun p=>decide (x<p.birth)
theorem vQ(f:Pt->Bool)(l a:Nat):thr f l .hole a=[]:=by cases l<;>rfl
theorem fU(f:Pt->Bool)(t:Tr)(a:Nat):thr f 0 t a=if t.isHole || !f t.ptr then [] else [(t.ptr,a)]:=rfl
theorem fN(f:Pt->Bool)(l:Nat)(t:Tr)(a:Nat):thr f (l+1) t a=if t.isHole || !f t.ptr then [] else (t.ptr,a)::(List.range 4).flatMap fun i=>thr f l (t.kid i) (a+i*4 ^ l):=rfl
def pY:Nat->Tr->Prop
 | 0,_=>True
 | l+1,t=>∀i,i<4->((t.kid i).isHole=true\/(t.kid i).ptr.birth≤t.ptr.birth)/\pY l (t.kid i)
theorem Dd:∀l,pY l .hole
 | 0=>trivial
 | l+1=>fun i _=>⟨.inl rfl,Dd l⟩
theorem Tr.Ok.born{S:Kor}{t:Tr}(h:Tr.Ok S l t)(c:t.isHole=false):1≤t.ptr.birth/\t.ptr.birth≤S.txg+1/\t.ptr.level=(l:Int):=by
 cases t with
 | hole=>cases c
 | leaf p b=>cases l with
   | zero=>exact⟨h.1.born.1,h.1.born.2,h.1.lev⟩
   | succ l=>exact h.elim
 | node p k=>cases l with
   | zero=>exact h.elim
   | succ l=>exact⟨h.1.born.1,h.1.born.2,h.1.lev⟩
theorem GY{S:Kor}:∀{l:Nat}{t:Tr},Tr.Ok S l t->∀{f:Pt->Bool}{a:Nat}{x:Pt×Nat},x∈thr f l t a->f x.1=true/\1≤x.1.birth/\0≤x.1.level/\x.1.level≤(l:Int)/\a≤x.2/\x.2<a+4 ^ l/\x.1.addrs≠[]/\∀y∈x.1.addrs,y∈S.L
 | 0,t,h,f,a,x,c=>by
   rw[fU] at c
   by_cases e:(t.isHole || !f t.ptr)=true
   ·rw[if_pos e] at c;cases c
   ·rw[if_neg e] at c
    simp only[Bool.or_eq_true,not_or,Bool.not_eq_true,Bool.not_eq_false'] at e;obtain rfl:=List.mem_singleton.1 c;obtain⟨k,C,E⟩:=h.born e.1;obtain⟨n,o⟩:=h.lies e.1;exact⟨e.2,k,by show 0≤t.ptr.level;omega,by show t.ptr.level≤_;omega,Nat.le_refl _,by show a<a+4 ^ 0;rw[Nat.pow_zero];omega,n,o⟩
 | l+1,t,h,f,a,x,c=>by
   have J:0<4 ^ l:=Nat.pos_of_ne_zero (by simp);have F:4 ^ (l+1)=4*4 ^ l:=by rw[Nat.pow_succ,Nat.mul_comm]
   rw[fN] at c
   by_cases e:(t.isHole || !f t.ptr)=true
   ·rw[if_pos e] at c;cases c
   ·rw[if_neg e] at c
    simp only[Bool.or_eq_true,not_or,Bool.not_eq_true,Bool.not_eq_false'] at e;rcases List.mem_cons.1 c with rfl|c
    ·obtain⟨k,C,E⟩:=h.born e.1
     obtain⟨n,o⟩:=h.lies e.1;exact⟨e.2,k,by show 0≤t.ptr.level;omega,by show t.ptr.level≤_;omega,Nat.le_refl _,by show a<a+4 ^ (l+1);omega,n,o⟩
    ·obtain⟨i,j,c⟩:=List.mem_flatMap.1 c
     have j:=List.mem_range.1 j;obtain⟨r,u,v,G,H,I,z,A⟩:=GY (h.kid j) c
     have:i*4 ^ l+4 ^ l≤4*4 ^ l:=by
      have:=Nat.mul_le_mul_right (4 ^ l) (Nat.succ_le_of_lt j);rw[Nat.succ_mul] at this;exact this
     exact⟨r,u,v,by omega,by omega,by omega,z,A⟩
theorem pY.le{S:Kor}:∀{l:Nat}{t:Tr},Tr.Ok S l t->pY l t->∀{f:Pt->Bool}{a:Nat}{x:Pt×Nat},x∈thr f l t a->x.1.birth≤t.ptr.birth
 | 0,t,h,k,f,a,x,c=>by
   rw[fU] at c;split at c
   ·cases c
   ·obtain rfl:=List.mem_singleton.1 c
    exact Int.le_refl _
 | l+1,t,h,k,f,a,x,c=>by
   rw[fN] at c;split at c
   ·cases c
   ·rcases List.mem_cons.1 c with rfl|c
    ·exact Int.le_refl _
    ·obtain⟨i,j,c⟩:=List.mem_flatMap.1 c
     have j:=List.mem_range.1 j;obtain⟨e,n⟩:=k i j;have o:=pY.le (h.kid j) n c;rcases e with e|e
     ·rw[fD e,vQ] at c;cases c
     ·exact Int.le_trans o e
theorem yA{S:Kor}(x:Int):∀{l:Nat}{t:Tr},Tr.Ok S l t->pY l t->∀(a:Nat),thr (aZ x) l t a=(thr gR l t a).filter fun p=>aZ x p.1
 | 0,t,h,e,a=>by
   rw[fU,fU];cases k:t.isHole with
   | true=>rfl
   | false =>
     cases c:aZ x t.ptr with
     | true=>simp[gR,c]
     | false=>simp[gR,c]
 | l+1,t,h,e,a=>by
   rw[fN,fN];cases k:t.isHole with
   | true=>rfl
   | false =>
     cases c:aZ x t.ptr with
     | true =>
       simp only[gR,Bool.not_true,Bool.false_eq_true,if_false,List.filter_cons,c,if_true,List.filter_flatMap,Bool.or_self]
       congr 1
       have:∀i∈List.range 4,thr (aZ x) l (t.kid i) (a+i*4 ^ l)=(thr gR l (t.kid i) (a+i*4 ^ l)).filter fun p=>aZ x p.1:=fun i n=>yA x (h.kid (List.mem_range.1 n)) (e i (List.mem_range.1 n)).2 _
       rw[iA this]
     | false =>
       simp only[gR,Bool.not_true,Bool.not_false,Bool.or_true,Bool.or_false,Bool.false_eq_true,if_false,if_true];symm;rw[List.filter_eq_nil_iff];intro y o;have j:y∈thr gR (l+1) t a:=by rw[fN,k];exact o
       have:=pY.le h e j;unfold aZ at c ⊢;simp only[decide_eq_false_iff_not,decide_eq_true_eq] at c ⊢;omega
def eP(l:Nat)(t:Tr):List Pt:=(thr gR l t 0).map fun x=>x.1
def eT(l:Nat)(t:Tr):List Ad:=(thr gR l t 0).flatMap fun x=>x.1.addrs
theorem Fc(f:Pt->Bool):∀(l:Nat) (t:Tr) (a b:Nat),(thr f l t (a+b))=(thr f l t a).map fun x=>(x.1,x.2+b)
 | 0,t,a,b=>by rw[fU,fU];split<;>rfl
 | l+1,t,a,b=>by
   rw[fN,fN];split
   ·rfl
   ·rw[List.map_cons,List.map_flatMap]
    congr 1
    refine iA fun i _=>?_
    rw[show a+b+i*4 ^ l=a+i*4 ^ l+b by omega,Fc f l (t.kid i) _ b]
theorem OV(l:Nat)(t:Tr)(a:Nat):((thr gR l t a).flatMap fun x=>x.1.addrs)=eT l t:=by
 unfold eT;have:=Fc gR l t 0 a;rw[Nat.zero_add] at this;rw[this,List.flatMap_map]
theorem De(l:Nat):eT l .hole=[]:=by unfold eT;rw[vQ];rfl
theorem K8(t:Tr):eT 0 t=if t.isHole then [] else t.ptr.addrs:=by
 unfold eT;rw[fU];cases t.isHole<;>simp[gR]
theorem Df(l:Nat)(t:Tr):eT (l+1) t=if t.isHole then [] else t.ptr.addrs++(List.range 4).flatMap fun i=>eT l (t.kid i):=by
 unfold eT;rw[fN];cases t.isHole with
 | true=>rfl
 | false =>
   simp only[gR,Bool.not_true,Bool.false_eq_true,if_false,List.flatMap_cons,List.flatMap_assoc,Bool.or_self]
   congr 1
   exact iA fun i _=>OV l (t.kid i) _
theorem GZ(l:Nat)(t:Tr)(a:Nat):((thr gR l t a).map fun x=>x.1)=eP l t:=by
 unfold eP;have:=Fc gR l t 0 a;rw[Nat.zero_add] at this;rw[this,List.map_map];rfl
theorem yB(l:Nat):eP l .hole=[]:=by unfold eP;rw[vQ];rfl
theorem K9(t:Tr):eP 0 t=if t.isHole then [] else [t.ptr]:=by
 unfold eP;rw[fU];cases t.isHole<;>simp[gR]
theorem Dg(l:Nat)(t:Tr):eP (l+1) t=if t.isHole then [] else t.ptr::(List.range 4).flatMap fun i=>eP l (t.kid i):=by
 unfold eP;rw[fN];cases t.isHole with
 | true=>rfl
 | false =>
   simp only[gR,Bool.not_true,Bool.false_eq_true,if_false,List.map_cons,List.map_flatMap,Bool.or_self]
   congr 1
   exact iA fun i _=>GZ l (t.kid i) _
theorem Fd{t:Tr}{a:Ad}:a∈eT l t↔∃x∈eP l t,a∈x.addrs:=by
 unfold eT eP;rw[List.mem_flatMap];constructor
 ·rintro⟨x,c,e⟩;exact⟨x.1,List.mem_map.2 ⟨x,c,rfl⟩,e⟩
 ·rintro⟨x,c,e⟩
  obtain⟨y,h,rfl⟩:=List.mem_map.1 c;exact⟨y,h,e⟩
theorem Bz{S:Kor}(k:S.Bd){T:Kor}(h:S.put lv b=some (p,T)):p.addrs.length=S.cp/\p.birth=S.txg+1/\p.level=(lv:Int):=by
 unfold Kor.put at h;cases e:cI (cJ S.L S.D S.Z) S.allUp S.cp with
 | none=>rw[e] at h;cases h
 | some l =>
   rw[e] at h;have h:=Option.some.inj h;injection h with j n
   subst j;refine⟨?_,rfl,rfl⟩;show (bF S.L S.Z l).length=S.cp
   have c:upN S.allUp=S.D:=by
    unfold upN Kor.allUp;rw[List.countP_replicate];rfl
   rw[mX,(fX e).2.1];unfold lX;rw[c];exact Nat.min_eq_left k.cD
def dW(S:Kor)(l:Nat)(t u:Tr):Prop:=∀x∈eP l u,x∈eP l t\/(x.addrs.length=S.cp/\∀a∈x.addrs,a ∉ S.L)
theorem dW.ads{S:Kor}{t u:Tr}(h:dW S l t u):∀a∈eT l u,a∈eT l t\/a ∉ S.L:=fun a j=>by
 obtain⟨x,e,c⟩:=Fd.1 j;exact(h x e).imp (fun h=>Fd.2 ⟨x,h,c⟩) fun h=>h.2 a c
theorem dW.refl(S:Kor)(l:Nat)(t:Tr):dW S l t t:=fun x c=>.inl c
theorem dW.hole(S:Kor)(l:Nat)(t:Tr):dW S l t .hole:=fun x c=>by rw[yB] at c;cases c
theorem dW.trans{S T:Kor}{t u v:Tr}(h:dW S l t u)(e:Ext S T)(k:dW T l u v):dW S l t v:=fun x o=>(k x o).elim (h x) fun c=>.inr ⟨c.1.trans e.cp,fun a j n=>c.2 a j (e.L a n)⟩
theorem Ni{t:Tr}(i:Nat)(h:i<4):∀a∈eP l (t.kid i),a∈eP (l+1) t:=fun a c=>by
 rw[Dg];cases e:t.isHole with
 | true =>
   rw[fD e] at c;rw[show Tr.kid .hole i=.hole from rfl,yB] at c;cases c
 | false=>exact List.mem_cons_of_mem _ (List.mem_flatMap.2 ⟨i,List.mem_range.2 h,c⟩)
theorem Cn{S:Kor}{t:Tr}(h:Tr.Ok S l t):∀a∈eT l t,a∈S.L:=fun a c=>by
 unfold eT at c;obtain⟨x,j,e⟩:=List.mem_flatMap.1 c;exact(GY h j).2.2.2.2.2.2.2 a e
theorem BB{A:Nat->List Ad}:((List.range 4).flatMap A).Nodup↔(∀i,i<4->(A i).Nodup)/\∀i j,i<4->j<4->i≠j->∀x∈A i,∀y∈A j,x≠y:=by
 unfold List.Nodup;rw[List.pairwise_flatMap];constructor
 ·rintro⟨t,e⟩
  refine⟨fun i c=>t i (List.mem_range.2 c),fun i j c k u x o y r=>?_⟩;rw[List.pairwise_iff_getElem] at e;rcases Nat.lt_or_gt_of_ne u with h|h
  ·have:=e i j (by simpa using c) (by simpa using k) h
   simp only[List.getElem_range] at this;exact this x o y r
  ·have:=e j i (by simpa using k) (by simpa using c) h
   simp only[List.getElem_range] at this;exact(this y r x o).symm
 ·rintro⟨t,e⟩
  refine⟨fun i c=>t i (List.mem_range.1 c),List.Pairwise.imp_of_mem ?_ (List.nodup_range (n:=4))⟩;intro i j c k u x o y r;exact e i j (List.mem_range.1 c) (List.mem_range.1 k) u x o y r
structure eZ(S:Kor)(l:Nat)(t:Tr):Prop where
 ok:Tr.Ok S l t
 aged:pY l t
 apart:(eT l t).Nodup
theorem eZ.hole(S:Kor)(l:Nat):eZ S l .hole:=⟨Tr.ok_hole S l,Dd l,by rw[De];exact List.nodup_nil⟩
theorem eZ.ext{S T:Kor}{t:Tr}(h:eZ S l t)(e:Ext S T):eZ T l t:=⟨h.ok.ext e,h.aged,h.apart⟩
structure rM(S T:Kor)(l:Nat)(t:Tr)(k:Nat->Tr):Prop where
 ext:Ext S T
 ok:∀i,i<4->Tr.Ok T l (k i)
 aged:∀i,i<4->pY l (k i)
 nd:∀i,i<4->(eT l (k i)).Nodup
 old:∀i,i<4->dW S l (t.kid i) (k i)
 ap:∀i j,i<4->j<4->i≠j->∀x∈eT l (k i),∀y∈eT l (k j),x≠y
theorem eZ.kids{S:Kor}{t:Tr}(h:eZ S (l+1) t):(∀i,i<4->(eT l (t.kid i)).Nodup)/\∀i j,i<4->j<4->i≠j->∀x∈eT l (t.kid i),∀y∈eT l (t.kid j),x≠y:=by
 have:=h.apart;rw[Df] at this;cases c:t.isHole with
 | true =>
   have e:∀i,eT l (t.kid i)=[]:=fun i=>by rw[fD c];exact De l
   exact⟨fun i _=>by rw[e];exact List.nodup_nil,fun i j _ _ _ x k=>by rw[e] at k;cases k⟩
 | false =>
   rw[c] at this;exact BB.1 (List.nodup_append.1 this).2.1
theorem eZ.parts{S:Kor}{t:Tr}(h:eZ S (l+1) t):rM S S l t t.kid:=
 ⟨Ext.refl S,fun i c=>h.ok.kid c,fun i c=>(h.aged i c).2,h.kids.1,fun i c=>dW.refl S l _,h.kids.2⟩
theorem eZ.kid{S:Kor}{t:Tr}(h:eZ S (l+1) t)(c:i<4):eZ S l (t.kid i):=⟨h.ok.kid c,(h.aged i c).2,h.kids.1 i c⟩
theorem rM.put{S T U:Kor}{t:Tr}{k:Nat->Tr}(h:rM S T l t k)(H:i<4)(I:k i=t.kid i){u:Tr}(e:Ext T U)(A:eZ U l u)(E:dW T l (t.kid i) u):rM S U l t (eV k i u):=by
 have v:∀j,j<4->j≠i->∀x∈eT l (k j),∀y∈eT l u,x≠y:=fun j n o x r y C=>by
  rcases E.ads y C with z|z
  ·exact h.ap j i n H o x r y (by rw[I];exact z)
  ·rintro rfl
   exact z (Cn (h.ok j n) x r)
 refine⟨h.ext.trans e,fun j n=>?_,fun j n=>?_,fun j n=>?_,fun j n=>?_,fun j q n F o=>?_⟩
 ·by_cases c:j=i
  ·rw[c,fE];exact A.ok
  ·rw[eF _ _ c];exact(h.ok j n).ext e
 ·by_cases c:j=i
  ·rw[c,fE];exact A.aged
  ·rw[eF _ _ c];exact h.aged j n
 ·by_cases c:j=i
  ·rw[c,fE];exact A.apart
  ·rw[eF _ _ c];exact h.nd j n
 ·by_cases c:j=i
  ·rw[c,fE];exact fun x r=>(E x r).imp id fun o=>⟨o.1.trans h.ext.cp,fun a G J=>o.2 a G (h.ext.L a J)⟩
  ·rw[eF _ _ c];exact h.old j n
 ·by_cases c:j=i
  ·subst c
   rw[fE,eF _ _ (Ne.symm o)];exact fun x r y C=>(v q F (Ne.symm o) y C x r).symm
  ·rw[eF _ _ c]
   by_cases d:q=i
   ·subst d
    rw[fE];exact v j n o
   ·rw[eF _ _ d]
    exact h.ap j q n F o
theorem La{S:Kor}(n:S.Bd)(o:b.length=256){u:Tr}{T:Kor}(h:S.leaf b=(some u,T))(t:Tr):eZ T 0 u/\dW S 0 t u:=by
 have h0:=GO n o h;unfold Kor.leaf at h
 by_cases v:b=zB
 ·rw[if_pos v] at h
  injection h with c j
  injection c with c
  subst c j;exact⟨eZ.hole S 0,dW.hole _ _ _⟩
 ·rw[if_neg v] at h
  cases k:S.put 0 b with
  | none=>rw[k] at h;injection h with c j;cases c
  | some x =>
    obtain⟨p,U⟩:=x;rw[k] at h;injection h with c j
    injection c with c
    subst c j;obtain⟨A,C,E,F,-,y,z,-⟩:=rD n (by omega) o k;have e:eT 0 (.leaf p b)=p.addrs:=by rw[K8];rfl
    refine⟨⟨(h0.2 _ rfl).1,trivial,by rw[e];exact z⟩,fun x r=>.inr ?_⟩;rw[K9] at r;obtain rfl:=List.mem_singleton.1 r;exact⟨(Bz n k).1,y⟩
theorem rM.lay{S T U:Kor}{t:Tr}{k:Nat->Tr}(h:rM S T l t k)(z:T.Bd)(K:l≤2){u:Tr}(n:T.lay (l+1) k=(some u,U)):eZ U (l+1) u/\dW S (l+1) t u:=by
 have h0:=EI z K h.ok n;unfold Kor.lay at n
 by_cases G:gM k=true
 ·rw[if_pos G] at n
  injection n with j r
  injection j with j
  subst j r;exact⟨eZ.hole _ _,dW.hole _ _ _⟩
 ·rw[if_neg G] at n
  cases v:T.put (l+1) (cL (l+1) (eX k)) with
  | none=>rw[v] at n;injection n with j r;cases j
  | some x =>
    obtain⟨p,V⟩:=x;rw[v] at n;injection n with j r
    injection j with j
    subst j r;obtain⟨P,Q,R,X,H,E,I,-⟩:=rD z (by omega) (B6 h.ok) v;have e:eT (l+1) (.node p k)=p.addrs++(List.range 4).flatMap fun i=>eT l (k i):=by rw[Df];rfl
    refine⟨⟨(h0.2 _ rfl).1,fun i o=>⟨?_,h.aged i o⟩,?_⟩,?_⟩
    ·cases F:(k i).isHole with
     | true=>exact .inl F
     | false =>
       right;show (k i).ptr.birth≤p.birth;rw[H];exact((h.ok i o).born F).2.1
    ·rw[e,List.nodup_append]
     refine⟨I,BB.2 ⟨h.nd,h.ap⟩,fun x c y C A=>?_⟩;obtain⟨i,o,C⟩:=List.mem_flatMap.1 C;rw[A] at c;exact E y c (Cn (h.ok i (List.mem_range.1 o)) y C)
    ·intro x c
     have c:x∈p::(List.range 4).flatMap fun i=>eP l (k i):=by rw[Dg] at c;exact c
     rcases List.mem_cons.1 c with rfl|c
     ·exact .inr ⟨(Bz z v).1.trans h.ext.cp,fun a J L=>E a J (h.ext.L a L)⟩
     ·obtain⟨i,o,c⟩:=List.mem_flatMap.1 c
      exact(h.old i (List.mem_range.1 o) x c).imp (Ni i (List.mem_range.1 o) x) id
theorem yC(c:b.length=256)(n:Nat):∀{l:Nat},l≤3->∀{S:Kor}{t:Tr},S.Bd->eZ S l t->∀{u:Tr}{T:Kor},eK l S t n b=(some u,T)->eZ T l u/\dW S l t u
 | 0,_,S,t,e,j,u,T,h=>by
   exact La e c h t
 | l+1,F,S,t,e,j,u,T,h=>by
   unfold eK at h;cases k:eK l S (t.kid (n / 4 ^ l % 4)) n b with
   | mk z A =>
     rw[k] at h;cases z with
     | none=>injection h with r E;cases r
     | some G =>
       obtain⟨o,C⟩:=qP c n (by omega) e (j.ok.kid (cR n l)) k;obtain⟨v,y⟩:=yC c n (by omega) e (j.kid (cR n l)) k;exact(j.parts.put (cR n l) rfl o.ext v y).lay o.bd (by omega) h
theorem Dh{t:Tr}{S:Kor}(G:l≤2)(C:S.Bd)(v:eZ S (l+1) t)
 (hcut:∀{S:Kor}{t:Tr}{f g:Int}{u:Tr}{T:Kor},S.Bd->eZ S l t->cF l S t f g=(some u,T)->eZ T l u/\dW S l t u) :
 ∀(j:Nat),j≤4->∀{k:Nat->Tr}{r:Bool}{T:Kor},gI (cF l) W S t f g j=(some (k,r),T)->rM S T l t k/\T.Bd/\∀i,j≤i->k i=t.kid i
 | 0,_,k,r,T,h=>by
   unfold gI at h;injection h with e n
   injection e with e
   injection e with e c
   subst e n;exact⟨v.parts,C,fun i _=>rfl⟩
 | j+1,P,k,r,T,h=>by
   unfold gI at h;cases e:gI (cF l) W S t f g j with
   | mk o y =>
     rw[e] at h;cases o with
     | none=>injection h with n c;cases n
     | some x =>
       obtain⟨Q,c1⟩:=x;obtain⟨F,b1,o⟩:=Dh G C v hcut j (by omega) e;simp only[] at h;cases n:cF l y (t.kid j) (f-j*W) (g-j*W) with
       | mk H I =>
         rw[n] at h;cases H with
         | none=>injection h with c A;cases c
         | some u =>
           have E:eZ y l (t.kid j):=(v.kid (by omega)).ext F.ext;obtain⟨z,J⟩:=tO (by omega) b1 E.ok n;obtain⟨c3,c4⟩:=hcut b1 E n;injection h with c A
           injection c with c
           injection c with c K
           subst c A;exact⟨F.put (by omega) (o j (Nat.le_refl _)) z.ext c3 c4,z.bd,fun i L=>by rw[eF _ _ (by omega)];exact o i (by omega)⟩
theorem Di:∀{l:Nat},l≤3->∀{S:Kor}{t:Tr}{f g:Int}{u:Tr}{T:Kor},S.Bd->eZ S l t->cF l S t f g=(some u,T)->eZ T l u/\dW S l t u
 | 0,_,S,t,f,g,u,T,k,j,h=>by
   unfold cF at h;split at h
   ·injection h with c e
    injection c with c
    subst c e;exact⟨j,dW.refl _ _ _⟩
   ·injection h with c e
    injection c with c
    subst c e;exact⟨eZ.hole _ _,dW.hole _ _ _⟩
 | l+1,y,S,t,f,g,u,T,k,j,h=>by
   unfold cF at h;split at h
   ·injection h with c e
    injection c with c
    subst c e;exact⟨j,dW.refl _ _ _⟩
   ·split at h
    ·injection h with c e
     injection c with c
     subst c e;exact⟨eZ.hole _ _,dW.hole _ _ _⟩
    ·cases c:gI (cF l) (4 ^ l) S t (max f 0) (min g (4 ^ (l+1))) 4 with
     | mk r v =>
       rw[c] at h;cases r with
       | none=>injection h with e n;cases e
       | some x =>
         obtain⟨z,c1⟩:=x;obtain⟨o,b1,-⟩:=Dh (by omega) k j (fun k j h=>Di (by omega) k j h) 4 (by omega) c;simp only[] at h;cases c1 with
         | true=>exact o.lay b1 (by omega) h
         | false =>
           injection h with e n
           injection e with e
           subst e n;exact⟨j.ext o.ext,dW.refl _ _ _⟩
def unl:Nat->Tr->Tr->Nat->List Nat
 | 0,s,t,a=>if s.ptr.eqB t.ptr then [] else [a]
 | l+1,s,t,a=>if s.ptr.eqB t.ptr then [] else (List.range 4).flatMap fun i=>unl l (s.kid i) (t.kid i) (a+i*4 ^ l)
theorem fV(s t:Tr)(a:Nat):unl 0 s t a=if s.ptr.eqB t.ptr then [] else [a]:=rfl
theorem eL(l:Nat)(s t:Tr)(a:Nat):unl (l+1) s t a=if s.ptr.eqB t.ptr then [] else (List.range 4).flatMap fun i=>unl l (s.kid i) (t.kid i) (a+i*4 ^ l):=rfl
theorem Fh(p q:Pt):p.eqB q=q.eqB p:=by
 cases h:p.eqB q with
 | true=>rw[pP h,mG]
 | false =>
   cases k:q.eqB p with
   | true=>rw[pP k,mG] at h;cases h
   | false=>rfl
theorem mK(l:Nat)(t:Tr)(a:Nat):unl l t t a=[]:=by
 cases l with
 | zero=>rw[fV,mG];rfl
 | succ l=>rw[eL,mG];rfl
theorem Fi:∀(l:Nat) (s t:Tr) (a:Nat),unl l s t a=unl l t s a
 | 0,s,t,a=>by rw[fV,fV,Fh]
 | l+1,s,t,a=>by
   rw[eL,eL,Fh]
   congr 1
   exact iA fun i _=>Fi l _ _ _
theorem BC:∀(l:Nat) (s t:Tr) (a b:Nat),unl l s t (a+b)=(unl l s t a).map fun x=>x+b
 | 0,s,t,a,b=>by rw[fV,fV];split<;>rfl
 | l+1,s,t,a,b=>by
   rw[eL,eL];split
   ·rfl
   ·rw[List.map_flatMap]
    refine iA fun i _=>?_
    rw[show a+b+i*4 ^ l=a+i*4 ^ l+b by omega,BC l _ _ _ b]
theorem BD:∀{l:Nat}{s t:Tr}{x:Nat},x∈unl l s t 0->x<4 ^ l
 | 0,s,t,x,h=>by
   rw[fV] at h;split at h
   ·cases h
   ·obtain rfl:=List.mem_singleton.1 h;simp
 | l+1,s,t,x,h=>by
   rw[eL] at h;split at h
   ·cases h
   ·obtain⟨i,c,h⟩:=List.mem_flatMap.1 h
    have c:=List.mem_range.1 c;rw[BC] at h;obtain⟨y,e,rfl⟩:=List.mem_map.1 h;have:=BD e
    have j:i*4 ^ l+4 ^ l≤4*4 ^ l:=by
     have:=Nat.mul_le_mul_right (4 ^ l) (Nat.succ_le_of_lt c);rw[Nat.succ_mul] at this;exact this
    rw[Nat.pow_succ];show y+(i*4 ^ l)<_;omega
theorem PQ{y:Nat}(e:i<4)(c:y<4 ^ l):(y+i*4 ^ l) / 4 ^ l % 4=i/\(y+i*4 ^ l) % 4 ^ l=y:=by
 have h:0<4 ^ l:=Nat.pos_of_ne_zero (by simp);rw[Nat.mul_comm,Nat.add_mul_div_left _ _ h,Nat.div_eq_of_lt c,Nat.zero_add,Nat.mod_eq_of_lt e,Nat.add_mul_mod_self_left,Nat.mod_eq_of_lt c];exact⟨rfl,rfl⟩
def eD:Nat->Tr->Nat->Pt
 | 0,t,_=>t.ptr
 | l+1,t,i=>eD l (t.kid (i / 4 ^ l % 4)) i
theorem vS:∀(l i:Nat),eD l .hole i=zPt
 | 0,_=>rfl
 | l+1,i=>vS l i
theorem yD:∀{l:Nat}{t:Tr}{i n:Nat},i % 4 ^ l=n % 4 ^ l->eD l t i=eD l t n
 | 0,t,i,n,e=>rfl
 | l+1,t,i,n,e=>by
   obtain⟨c,h⟩:=(tN i n l).1 e;show eD l (t.kid (i / 4 ^ l % 4)) i=eD l (t.kid (n / 4 ^ l % 4)) n;rw[c];exact yD h
theorem Fj:∀{l:Nat}{s t:Tr}{x:Nat},x∈unl l s t 0->eD l s x≠eD l t x
 | 0,s,t,x,h=>by
   rw[fV] at h
   by_cases c:s.ptr.eqB t.ptr=true
   ·rw[if_pos c] at h;cases h
   ·intro e
    have e:s.ptr=t.ptr:=e;rw[e,mG] at c;exact c rfl
 | l+1,s,t,x,h=>by
   rw[eL] at h;split at h
   ·cases h
   ·obtain⟨i,j,h⟩:=List.mem_flatMap.1 h
    have j:=List.mem_range.1 j;rw[BC] at h;obtain⟨y,k,rfl⟩:=List.mem_map.1 h;have r:=Fj k;obtain⟨o,d2⟩:=PQ j (BD k);have n:(y+i*4 ^ l) % 4 ^ l=y % 4 ^ l:=by rw[d2,Nat.mod_eq_of_lt (BD k)]
    show eD l (s.kid ((y+i*4 ^ l) / 4 ^ l % 4)) (y+i*4 ^ l)≠eD l (t.kid ((y+i*4 ^ l) / 4 ^ l % 4)) (y+i*4 ^ l);rw[o,yD n,yD n];exact r
theorem Tr.Ok.pmay{S:Kor}{t:Tr}(h:Tr.Ok S l t):t.ptr.may=true:=by
 cases t with
 | hole=>exact kN jM
 | leaf p b=>cases l with
   | zero=>exact h.1.may
   | succ l=>exact h.elim
 | node p k=>cases l with
   | zero=>exact h.elim
   | succ l=>exact h.1.may
theorem Gh(c:p.sum.length=32)(e:q.sum.length=32)(j:p.may=true)(k:q.may=true)(h:bR p=bR q):p=q:=by
 rw[←xW c j,h,xW e k]
theorem PR{k c:Nat->Tr}(u:∀i,i<4->(k i).ptr.sum.length=32)(n:∀i,i<4->(c i).ptr.sum.length=32)(h:cL lv (eX k)=cL lv (eX c)):∀i,i<4->bR (k i).ptr=bR (c i).ptr:=by
 unfold cL eX at h;simp only[List.flatMap_cons,List.flatMap_nil,List.append_nil,List.cons_append,List.cons.injEq,true_and,List.append_assoc] at h;have e:∀i,i<4->(bR (k i).ptr).length=(bR (c i).ptr).length:=fun i j=>by rw[eM (u i j),eM (n i j)]
 obtain⟨h0,h⟩:=List.append_inj h (e 0 (by omega));obtain⟨o,h⟩:=List.append_inj h (e 1 (by omega));obtain⟨r,h⟩:=List.append_inj h (e 2 (by omega));obtain⟨t,-⟩:=List.append_inj h (e 3 (by omega));intro i j;rcases i with _|_|_|_|i
 ·exact h0
 ·exact o
 ·exact r
 ·exact t
 ·omega
theorem gP.one{S:Kor}{c:Nat}{e:List UInt8}(h:gP S p lv b)(k:gP S p c e):b=e:=by
 obtain⟨a,j⟩:=List.exists_mem_of_ne_nil _ h.ne;rw[←(h.lies a j).2.2,(k.lies a j).2.2]
theorem AG{S:Kor}:∀{l:Nat}{s t:Tr},Tr.Ok S l s->Tr.Ok S l t->s.ptr=t.ptr->∀i,s.blk l i=t.blk l i
 | l,.hole,.hole,_,_,_,i=>rfl
 | 0,.hole,.leaf p b,_,h,e,i=>absurd e.symm h.1.ne_z
 | 0,.leaf p b,.hole,h,_,e,i=>absurd e h.1.ne_z
 | l+1,.hole,.node p k,_,h,e,i=>absurd e.symm h.1.ne_z
 | l+1,.node p k,.hole,h,_,e,i=>absurd e h.1.ne_z
 | 0,.leaf p b,.leaf q c,h,j,e,i=>by
   have e:p=q:=e;subst e;exact h.1.one j.1
 | l+1,.node p k,.node q r,h,j,e,i=>by
   have e:p=q:=e;subst e;have o:=PR (fun i n=>(h.2.1 i n).sl) (fun i n=>(j.2.1 i n).sl) (h.1.one j.1) (i / 4 ^ l % 4) (cR i l);exact AG (h.2.1 _ (cR i l)) (j.2.1 _ (cR i l)) (Gh (h.2.1 _ (cR i l)).sl (j.2.1 _ (cR i l)).sl (h.2.1 _ (cR i l)).pmay (j.2.1 _ (cR i l)).pmay o) i
 | 0,.hole,.node _ _,_,h,_,_=>h.elim
 | 0,.node _ _,_,h,_,_,_=>h.elim
 | 0,.leaf _ _,.node _ _,_,h,_,_=>h.elim
 | l+1,.hole,.leaf _ _,_,h,_,_=>h.elim
 | l+1,.leaf _ _,_,h,_,_,_=>h.elim
 | l+1,.node _ _,.leaf _ _,_,h,_,_=>h.elim
theorem Fk{S:Kor}:∀{l:Nat}{s t:Tr},Tr.Ok S l s->Tr.Ok S l t->∀{i:Nat},i<4 ^ l->s.blk l i≠t.blk l i->i∈unl l s t 0
 | 0,s,t,h,j,i,n,k=>by
   rw[fV]
   by_cases c:s.ptr.eqB t.ptr=true
   ·exact absurd (AG h j (pP c) i) k
   ·rw[if_neg c]
    obtain rfl:i=0:=by rw[Nat.pow_zero] at n;omega
    exact List.mem_singleton.2 rfl
 | l+1,s,t,h,j,i,n,k=>by
   rw[eL]
   by_cases c:s.ptr.eqB t.ptr=true
   ·exact absurd (AG h j (pP c) i) k
   ·rw[if_neg c]
    have r:0<4 ^ l:=Nat.pos_of_ne_zero (by simp);have u:i % 4 ^ l<4 ^ l:=Nat.mod_lt _ r;have e:=pO i l;rw[Nat.mod_eq_of_lt n] at e;rw[h.blk_succ,j.blk_succ] at k;have o:i % 4 ^ l=i % 4 ^ l % 4 ^ l:=(Nat.mod_mod _ _).symm;rw[(h.kid (cR i l)).blk_mod o,(j.kid (cR i l)).blk_mod o] at k;have:=Fk (h.kid (cR i l)) (j.kid (cR i l)) u k;refine List.mem_flatMap.2 ⟨i / 4 ^ l % 4,List.mem_range.2 (cR i l),?_⟩;rw[BC];refine List.mem_map.2 ⟨i % 4 ^ l,this,?_⟩;omega
theorem Dj{S T:Kor}{k:Nat->Tr}{u:Tr}(h:S.lay (l+1) k=(some u,T))(i:Nat):eD (l+1) u i=eD l (k (i / 4 ^ l % 4)) i:=by
 unfold Kor.lay at h
 by_cases e:gM k=true
 ·rw[if_pos e] at h
  injection h with c j
  injection c with c
  subst c;rw[vB e (cR i l),vS,vS]
 ·rw[if_neg e] at h
  cases n:S.put (l+1) (cL (l+1) (eX k)) with
  | none=>rw[n] at h;injection h with c j;cases c
  | some x =>
    rw[n] at h;injection h with c j
    injection c with c
    subst c;rfl
theorem BE{n:Nat}:∀{l:Nat}{S:Kor}{t u:Tr}{T:Kor},eK l S t n b=(some u,T)->i % 4 ^ l≠n % 4 ^ l->eD l u i=eD l t i
 | 0,S,t,u,T,h,c=>absurd (by rw[Nat.pow_zero,Nat.mod_one,Nat.mod_one]) c
 | l+1,S,t,u,T,h,c=>by
   unfold eK at h;cases j:eK l S (t.kid (n / 4 ^ l % 4)) n b with
   | mk r v =>
     rw[j] at h;cases r with
     | none=>injection h with o y;cases o
     | some z =>
       rw[Dj h];show _=eD l (t.kid (i / 4 ^ l % 4)) i
       by_cases e:i / 4 ^ l % 4=n / 4 ^ l % 4
       ·rw[e,fE]
        exact BE j fun k=>c ((tN i n l).2 ⟨e,k⟩)
       ·rw[eF _ _ e]
theorem BF{t:Tr}{S:Kor}
 (hcut:∀{S:Kor}{t:Tr}{f g:Int}{u:Tr}{T:Kor},cF l S t f g=(some u,T)->∀{i:Nat},¬(f≤((i % 4 ^ l:Nat):Int)/\((i % 4 ^ l:Nat):Int)<g)->eD l u i=eD l t i) :
 ∀(j:Nat),∀{k:Nat->Tr}{r:Bool}{T:Kor},gI (cF l) W S t f g j=(some (k,r),T)->(∀q,j≤q->k q=t.kid q)/\∀q,q<j->∀i:Nat,¬(f-q*W≤((i % 4 ^ l:Nat):Int)/\((i % 4 ^ l:Nat):Int)<g-q*W)->eD l (k q) i=eD l (t.kid q) i
 | 0,k,r,T,h=>by
   unfold gI at h;injection h with n o
   injection n with n
   injection n with n c
   subst n;exact⟨fun q _=>rfl,fun q y=>by omega⟩
 | j+1,k,r,T,h=>by
   unfold gI at h;cases n:gI (cF l) W S t f g j with
   | mk F z =>
     rw[n] at h;cases F with
     | none=>injection h with o c;cases o
     | some x =>
       obtain⟨J,c1⟩:=x;obtain⟨C,E⟩:=BF hcut j n;simp only[] at h;cases o:cF l z (t.kid j) (f-j*W) (g-j*W) with
       | mk G H =>
         rw[o] at h;cases G with
         | none=>injection h with c A;cases c
         | some u =>
           injection h with c A
           injection c with c
           injection c with c I
           subst c;refine⟨fun q y=>by rw[eF _ _ (by omega)];exact C q (by omega),fun q y i v=>?_⟩
           by_cases e:q=j
           ·subst e;rw[fE];exact hcut o v
           ·rw[eF _ _ e];exact E q (by omega) i v
theorem BG:∀{l:Nat}{S:Kor}{t:Tr}{f g:Int}{u:Tr}{T:Kor},cF l S t f g=(some u,T)->∀{i:Nat},¬(f≤((i % 4 ^ l:Nat):Int)/\((i % 4 ^ l:Nat):Int)<g)->eD l u i=eD l t i
 | 0,S,t,f,g,u,T,h,i,j=>by
   unfold cF at h
   by_cases k:(t.isHole || decide (min g 1≤max f 0))=true
   ·rw[if_pos k] at h
    injection h with c e
    injection c with c
    subst c;rfl
   ·rw[Bool.or_eq_true,not_or,decide_eq_true_eq] at k
    rw[Nat.pow_zero,Nat.mod_one] at j;omega
 | l+1,S,t,f,g,u,T,h,i,j=>by
   have v:0<4 ^ l:=Nat.pos_of_ne_zero (by simp);obtain⟨W,n⟩:=zX9 (4 ^ l)
   have o:4 ^ (l+1)=4*W:=by rw[Nat.pow_succ,n,Nat.mul_comm]
   unfold cF at h;have y:(4:Int) ^ (l+1)=((4*W:Nat):Int):=by rw[←o];norm_cast
   have z:(4:Int) ^ l=(W:Int):=by rw[←n];norm_cast
   rw[y,z] at h;have G:=pO i l;rw[G] at j;have r:=cR i l;have F:i % 4 ^ l<4 ^ l:=Nat.mod_lt _ v;rw[n] at j v r F
   by_cases k:(t.isHole || decide (min g ((4*W:Nat):Int)≤max f 0))=true
   ·rw[if_pos k] at h
    injection h with c e
    injection c with c
    subst c;rfl
   ·rw[if_neg k] at h
    have E:i / W % 4*W+W≤4*W:=by
     have:=Nat.mul_le_mul_right W (Nat.succ_le_of_lt r);rw[Nat.succ_mul] at this;exact this
    by_cases H:min g ((4*W:Nat):Int)-max f 0=((4*W:Nat):Int)
    ·exfalso
     apply j;omega
    ·rw[if_neg H] at h
     cases c:gI (cF l) (W:Int) S t (max f 0) (min g ((4*W:Nat):Int)) 4 with
     | mk K L =>
       rw[c] at h;cases K with
       | none=>injection h with e C;cases e
       | some x =>
         obtain⟨I,c1⟩:=x;obtain⟨-,J⟩:=BF (@fun _ _ _ _ _ _ h _ j=>BG h j) 4 c;simp only[] at h
         have key:eD l (I (i / 4 ^ l % 4)) i=eD l (t.kid (i / 4 ^ l % 4)) i:=by
          refine J _ (cR i l) i ?_;rw[n];have A:(((i / W % 4:Nat):Int)*(W:Int))=((i / W % 4*W:Nat):Int):=by norm_cast
          rw[A];omega
         cases c1 with
         | true =>
           rw[Dj h];exact key
         | false =>
           injection h with e C
           injection e with e
           subst e;rfl
theorem vT{S:Kor}:∀{l:Nat}{t:Tr},Tr.Ok S l t->∀(a:Nat),thr (aZ 0) l t a=thr gR l t a
 | 0,t,h,a=>by
   rw[fU,fU];cases c:t.isHole with
   | true=>rfl
   | false =>
     have e:aZ 0 t.ptr=true:=decide_eq_true (by have:=(h.born c).1;omega);rw[e];rfl
 | l+1,t,h,a=>by
   rw[fN,fN];cases c:t.isHole with
   | true=>rfl
   | false =>
     have e:aZ 0 t.ptr=true:=decide_eq_true (by have:=(h.born c).1;omega);rw[e]
     have g:((List.range 4).flatMap fun i=>thr (aZ 0) l (t.kid i) (a+i*4 ^ l))=(List.range 4).flatMap fun i=>thr gR l (t.kid i) (a+i*4 ^ l):=
      iA fun i j=>vT (h.kid (List.mem_range.1 j)) _
     rw[g];rfl
theorem Nl{S:Kor}{t:Tr}(h:Tr.Ok S l t)(a:Nat):(thr (aZ 0) l t a).length=(eP l t).length:=by
 rw[vT h,←GZ l t a,List.length_map]
end
end Go.Proofs.YtiinnfhjpaeffaaGreat
