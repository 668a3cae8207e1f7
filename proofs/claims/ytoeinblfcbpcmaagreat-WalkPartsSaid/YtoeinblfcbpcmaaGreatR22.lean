import Derived.Test.YtoeinblfcbpcmaaGreatR10
import Derived.Test.YtoeinblfcbpcmaaGreatR21
namespace Go.Proofs.YtoeinblfcbpcmaaGreat
open Tryz
set_option maxHeartbeats 0
set_option maxRecDepth 100000
set_option linter.unusedVariables false
section
open Go.RowKit Go.Maps Go.ChangeMaps
structure Kor where
 D:Nat
 Z:Nat
 cp:Nat
 L:List Ad
 M:Nat->Nat->List UInt8
 txg:Int
structure Kor.Bd(S:Kor):Prop where
 d2:2≤S.D
 d8:S.D≤8
 z8:8≤S.Z
 z4:S.Z≤4096
 c1:1≤S.cp
 c3:S.cp≤3
 cD:S.cp≤S.D
 t0:0≤S.txg
 t1:S.txg<2147483648
def lV(b:List UInt8):List Ad->(Nat->Nat->List UInt8)->Nat->Nat->List UInt8
 | [],M=>M
 | a::l,M=>lV b l (gM M a.dev.toNat a.sec.toNat b)
variable{p q:Pt}{lv s l i N m a D Z nw d:Nat}{b:List UInt8}{W f g x:Int}{w:World}{B:Nat->Prop}{M Mm:Nat->Nat->List UInt8}
theorem CJ(b:List UInt8)(a:Ad):∀(l:List Ad) (M:Nat->Nat->List UInt8),lV b (l++[a]) M=gM (lV b l M) a.dev.toNat a.sec.toNat b
 | [],M=>rfl
 | x::l,M=>CJ b a l _
theorem GX(b:List UInt8):∀(l:List Ad) (M:Nat->Nat->List UInt8) (d s:Nat),((∃a∈l,d=a.dev.toNat/\s=a.sec.toNat)\/M d s=b)->lV b l M d s=b
 | [],M,d,s,h=>by
   rcases h with⟨a,c,-⟩|h
   ·cases c
   ·exact h
 | x::l,M,d,s,h=>by
   refine GX b l _ d s ?_;rcases h with⟨a,c,e,j⟩|h
   ·rcases List.mem_cons.1 c with rfl|c
    ·right;unfold gM;rw[if_pos ⟨e,j⟩]
    ·exact .inl ⟨a,c,e,j⟩
   ·right;unfold gM;split
    ·rfl
    ·exact h
theorem Af(b:List UInt8):∀(l:List Ad) (M:Nat->Nat->List UInt8) (d s:Nat),(∀a∈l,¬(d=a.dev.toNat/\s=a.sec.toNat))->lV b l M d s=M d s
 | [],M,d,s,h=>rfl
 | x::l,M,d,s,h=>by
   rw[lV,Af b l _ d s fun a c=>h a (List.mem_cons_of_mem _ c)];unfold gM;rw[if_neg (h x (List.mem_cons_self ..))]
def Kor.allUp(S:Kor):List Bool:=List.replicate S.D true
def Kor.put(S:Kor)(lv:Nat)(b:List UInt8):Option (Pt×Kor):=
 match cF (cI S.L S.D S.Z) S.allUp S.cp with
 | none=>none
 | some l=>some (⟨bF S.L S.Z l,S.txg+1,(lv:Int),dB b⟩,⟨S.D,S.Z,S.cp,S.L++bF S.L S.Z l,lV b (bF S.L S.Z l) S.M,S.txg⟩)
structure Ext(S T:Kor):Prop where
 D:T.D=S.D
 Z:T.Z=S.Z
 cp:T.cp=S.cp
 txg:S.txg≤T.txg
 L:∀a∈S.L,a∈T.L
 M:∀a∈S.L,eF a S.D S.Z->T.M a.dev.toNat a.sec.toNat=S.M a.dev.toNat a.sec.toNat
theorem Ext.refl(S:Kor):Ext S S:=⟨rfl,rfl,rfl,Int.le_refl _,fun _ h=>h,fun _ _ _=>rfl⟩
theorem Ext.trans{S T U:Kor}(h:Ext S T)(k:Ext T U):Ext S U:=
 ⟨k.D.trans h.D,k.Z.trans h.Z,k.cp.trans h.cp,Int.le_trans h.txg k.txg,fun a c=>k.L a (h.L a c),fun a c e=>(k.M a (h.L a c) (by rw[h.D,h.Z];exact e)).trans (h.M a c e)⟩
structure jV(S:Kor)(p:Pt)(lv:Nat)(b:List UInt8):Prop where
 may:p.may=true
 ne:p.addrs≠[]
 lev:p.level=(lv:Int)
 sum:p.sum=dB b
 len:b.length=256
 born:1≤p.birth/\p.birth≤S.txg+1
 lies:∀a∈p.addrs,eF a S.D S.Z/\a∈S.L/\S.M a.dev.toNat a.sec.toNat=b
theorem jV.ext{S T:Kor}(h:jV S p lv b)(e:Ext S T):jV T p lv b:=
 ⟨h.may,h.ne,h.lev,h.sum,h.len,⟨h.born.1,Int.le_trans h.born.2 (Int.add_le_add_right e.txg 1)⟩,fun a n=>by
  obtain⟨c,j,k⟩:=h.lies a n;exact⟨by rw[e.D,e.Z];exact c,e.L a j,(e.M a j c).trans k⟩⟩
theorem jV.sl{S:Kor}(h:jV S p lv b):p.sum.length=32:=by rw[h.sum,cZ]
theorem jV.ne_hole{S:Kor}(h:jV S p lv b):p.hole=false:=by
 unfold Pt.hole
 have:((p.addrs.length:Int) == 0)=false:=by
  rw[beq_eq_false_iff_ne];intro e;exact h.ne (List.eq_nil_of_length_eq_zero (by omega))
 rw[this,Bool.false_and]
theorem jC:zPt.hole=true:=by decide
theorem qX{S:Kor}(c:S.Bd)(Q:lv≤3)(P:b.length=256){T:Kor}(h:S.put lv b=some (p,T)) :
 jV T p lv b/\Ext S T/\T.Bd/\T.txg=S.txg/\p.birth=S.txg+1/\(∀a∈p.addrs,a ∉ S.L)/\p.addrs.Nodup/\∃l,cF (cI S.L S.D S.Z) S.allUp S.cp=some l/\T.L=S.L++bF S.L S.Z l/\p.addrs=bF S.L S.Z l:=by
 unfold Kor.put at h;cases u:cF (cI S.L S.D S.Z) S.allUp S.cp with
 | none=>rw[u] at h;cases h
 | some l =>
   rw[u] at h;have h:=Option.some.inj h;injection h with E G
   subst E G;have t:2≤S.D/\S.D≤8/\8≤S.Z/\S.Z≤4096:=⟨c.d2,c.d8,c.z8,c.z4⟩
   have k:=fun x A=>Cz t u (x:=x) A
   obtain⟨-,v,U,F,H⟩:=fA u;have r:∀a∈bF S.L S.Z l,eF a S.D S.Z:=fun a j=>(BM t).1 (k a j).1
   have z:upN S.allUp=S.D:=by
    unfold upN Kor.allUp;rw[List.countP_replicate];rfl
   have n:l.length=S.cp:=by
    rw[v];unfold kP;rw[z];exact Nat.min_eq_left c.cD
   have y:=F6 u
   have o:((bF S.L S.Z l).map (·.dev)).Nodup:=by
    unfold bF;rw[List.map_map];have:((fun(x:Ad)=>x.dev) ∘ fun(d:Nat)=>(⟨(d:Int),(bC S.L d S.Z).headD 0⟩:Ad))=fun(d:Nat)=>(d:Int):=rfl
    rw[this];show List.Pairwise _ _;rw[List.pairwise_map];exact F.imp fun h e=>h (by exact_mod_cast e)
   refine⟨⟨?_,?_,rfl,rfl,P,⟨?_,Int.le_refl _⟩,?_⟩,⟨rfl,rfl,rfl,Int.le_refl _,fun a j=>List.mem_append_left _ j,?_⟩,⟨c.d2,c.d8,c.z8,c.z4,c.c1,c.c3,c.cD,c.t0,c.t1⟩,rfl,rfl,fun a j=>(k a j).2.1,y,l,rfl,rfl,rfl⟩
   ·unfold Pt.may sK Pt.numsB
    rw[Bool.or_eq_true];right;have t0:=c.t0;have t1:=c.t1;have c1:=c.c1;have c3:=c.c3;simp only[Bool.and_eq_true,decide_eq_true_eq,List.all_eq_true,mL];refine⟨⟨⟨⟨fun a j=>?_,o⟩,by omega⟩,by omega⟩,⟨⟨by omega,by omega⟩,by omega⟩,by omega⟩;obtain⟨E,G,L,h4⟩:=r a j;unfold lC;have d8:=c.d8;have z4:=c.z4;simp only[Bool.and_eq_true,decide_eq_true_eq];exact⟨⟨⟨E,by show a.1<8;omega⟩,L⟩,by show a.2<4096;omega⟩
   ·intro e
    have:=congrArg List.length e;rw[mL] at this;have c1:=c.c1;simp at this;rw[this] at n;simp at n;omega
   ·have t0:=c.t0
    show 1≤S.txg+1;omega
   ·exact fun a j=>⟨r a j,List.mem_append_right _ j,GX b _ _ _ _ (.inl ⟨a,j,rfl,rfl⟩)⟩
   ·intro a j R
    refine Af b _ _ _ _ fun x A e=>(k x A).2.1 ?_
    obtain⟨x1,x2,x3,x4⟩:=r x A;obtain⟨Y,a2,a3,a4⟩:=R
    have:x=a:=by
     obtain⟨V,X⟩:=x;obtain⟨I,C⟩:=a;simp only[] at *;have J:V=I:=by have:=e.1;omega
     have K:X=C:=by have:=e.2;omega
     rw[J,K]
    rw[this];exact j
def cX(lv:Nat)(c:List Pt):List UInt8:=UInt8.ofNat lv::c.flatMap cJ++List.replicate 67 0
theorem P3{r s:Pt}(h0:p.sum.length=32)(c:q.sum.length=32)(e:r.sum.length=32)(h:s.sum.length=32):(cX lv [p,q,r,s]).length=256:=by
 unfold cX;simp[fB h0,fB c,fB e,fB h]
inductive Tr where
 | hole:Tr
 | leaf:Pt->List UInt8->Tr
 | node:Pt->(Nat->Tr)->Tr
def Tr.ptr:Tr->Pt
 | .hole=>zPt
 | .leaf p _=>p
 | .node p _=>p
def Tr.isHole:Tr->Bool
 | .hole=>true
 | _=>false
def Tr.kid:Tr->Nat->Tr
 | .node _ k,i=>k i
 | _,_=>.hole
def fI(k:Nat->Tr):List Pt:=[(k 0).ptr,(k 1).ptr,(k 2).ptr,(k 3).ptr]
def gK(k:Nat->Tr):Bool:=(k 0).isHole && (k 1).isHole && (k 2).isHole && (k 3).isHole
def Tr.Ok(S:Kor):Nat->Tr->Prop
 | _,.hole=>True
 | 0,.leaf p b=>jV S p 0 b/\b≠zB
 | 0,.node _ _=>False
 | _+1,.leaf _ _=>False
 | l+1,.node p k=>jV S p (l+1) (cX (l+1) (fI k))/\(∀i,i<4->Tr.Ok S l (k i))/\gK k=false
def Tr.blocks:Nat->Tr->List (List UInt8)
 | l,.hole=>List.replicate (4 ^ l) zB
 | _,.leaf _ b=>[b]
 | 0,.node _ _=>[]
 | l+1,.node _ k=>(k 0).blocks l++(k 1).blocks l++(k 2).blocks l++(k 3).blocks l
def Tr.many:Nat->Tr->Nat
 | _,.hole=>0
 | _,.leaf _ _=>1
 | 0,.node _ _=>0
 | l+1,.node _ k=>(k 0).many l+(k 1).many l+(k 2).many l+(k 3).many l
def eN(k:Nat->Tr)(i:Nat)(t:Tr):Nat->Tr:=fun j=>if j=i then t else k j
def Kor.leaf(S:Kor)(b:List UInt8):Option Tr×Kor:=if b=zB then (some .hole,S) else match S.put 0 b with
 | none=>(none,S)
 | some (p,T)=>(some (.leaf p b),T)
def Kor.lay(S:Kor)(l:Nat)(k:Nat->Tr):Option Tr×Kor:=if gK k then (some .hole,S) else match S.put l (cX l (fI k)) with
 | none=>(none,S)
 | some (p,T)=>(some (.node p k),T)
def eD:Nat->Kor->Tr->Nat->List UInt8->Option Tr×Kor
 | 0,S,_,_,b=>S.leaf b
 | l+1,S,t,n,b=>match eD l S (t.kid (n / 4 ^ l % 4)) n b with
   | (none,T)=>(none,T)
   | (some u,T)=>T.lay (l+1) (eN t.kid (n / 4 ^ l % 4) u)
def gG(cut:Kor->Tr->Int->Int->Option Tr×Kor)(W:Int)(S:Kor)(t:Tr)(f g:Int):Nat->Option ((Nat->Tr)×Bool)×Kor
 | 0=>(some (t.kid,false),S)
 | i+1=>match gG cut W S t f g i with
   | (none,T)=>(none,T)
   | (some (k,c),T)=>match cut T (t.kid i) (f-i*W) (g-i*W) with
     | (none,U)=>(none,U)
     | (some u,U)=>(some (eN k i u,c || !(t.kid i).ptr.eqB u.ptr),U)
def bY:Nat->Kor->Tr->Int->Int->Option Tr×Kor
 | 0,S,t,f,g=>if t.isHole || decide (min g 1≤max f 0) then (some t,S) else (some .hole,S)
 | l+1,S,t,f,g=>if t.isHole || decide (min g (4 ^ (l+1))≤max f 0) then (some t,S) else
   if min g (4 ^ (l+1))-max f 0=4 ^ (l+1) then (some .hole,S) else
   match gG (bY l) (4 ^ l) S t (max f 0) (min g (4 ^ (l+1))) 4 with
   | (none,T)=>(none,T)
   | (some (k,c),T)=>if c then T.lay (l+1) k else (some t,T)
def Tr.blk:Nat->Tr->Nat->List UInt8
 | 0,.leaf _ b,_=>b
 | 0,.hole,_=>zB
 | 0,.node _ _,_=>zB
 | l+1,.node _ k,i=>(k (i / 4 ^ l % 4)).blk l i
 | _+1,.hole,_=>zB
 | _+1,.leaf _ _,_=>zB
theorem Tr.blk_hole(l i:Nat):Tr.blk l .hole i=zB:=by cases l<;>rfl
theorem Tr.ok_hole(S:Kor)(l:Nat):Tr.Ok S l .hole:=by cases l<;>exact trivial
theorem Tr.Ok.kid{S:Kor}{t:Tr}(h:Tr.Ok S (l+1) t)(c:i<4):Tr.Ok S l (t.kid i):=by
 cases t with
 | hole=>exact Tr.ok_hole S l
 | leaf p b=>exact h.elim
 | node p k=>exact h.2.1 i c
theorem Tr.Ok.blk_succ{S:Kor}{t:Tr}(h:Tr.Ok S (l+1) t)(i:Nat):t.blk (l+1) i=(t.kid (i / 4 ^ l % 4)).blk l i:=by
 cases t with
 | hole=>exact(Tr.blk_hole l i).symm
 | leaf p b=>exact h.elim
 | node p k=>rfl
theorem Tr.Ok.ext{S T:Kor}(e:Ext S T):∀{l:Nat}{t:Tr},Tr.Ok S l t->Tr.Ok T l t
 | l,.hole,_=>Tr.ok_hole T l
 | 0,.leaf p b,h=>⟨h.1.ext e,h.2⟩
 | 0,.node p k,h=>h
 | l+1,.leaf p b,h=>h
 | l+1,.node p k,h=>⟨h.1.ext e,fun i c=>Tr.Ok.ext e (h.2.1 i c),h.2.2⟩
theorem Tr.Ok.sl{S:Kor}{t:Tr}(h:Tr.Ok S l t):t.ptr.sum.length=32:=by
 cases t with
 | hole=>rfl
 | leaf p b=>cases l with
   | zero=>exact h.1.sl
   | succ l=>exact h.elim
 | node p k=>cases l with
   | zero=>exact h.elim
   | succ l=>exact h.1.sl
theorem Tr.Ok.hole_eq{S:Kor}{t:Tr}(h:Tr.Ok S l t):t.ptr.hole=t.isHole:=by
 cases t with
 | hole=>exact jC
 | leaf p b=>cases l with
   | zero=>exact h.1.ne_hole
   | succ l=>exact h.elim
 | node p k=>cases l with
   | zero=>exact h.elim
   | succ l=>exact h.1.ne_hole
theorem Tr.Ok.lies{S:Kor}{t:Tr}(h:Tr.Ok S l t)(e:t.isHole=false):t.ptr.addrs≠[]/\∀a∈t.ptr.addrs,a∈S.L:=by
 cases t with
 | hole=>cases e
 | leaf p b=>cases l with
   | zero=>exact⟨h.1.ne,fun a c=>(h.1.lies a c).2.1⟩
   | succ l=>exact h.elim
 | node p k=>cases l with
   | zero=>exact h.elim
   | succ l=>exact⟨h.1.ne,fun a c=>(h.1.lies a c).2.1⟩
theorem fG{t:Tr}(h:t.isHole=true):t=.hole:=by cases t<;>first|rfl|cases h
theorem uW{k:Nat->Tr}(h:gK k=true)(n:i<4):k i=.hole:=by
 unfold gK at h;simp only[Bool.and_eq_true] at h;obtain⟨⟨⟨h0,c⟩,e⟩,j⟩:=h;rcases i with _|_|_|_|i
 ·exact fG h0
 ·exact fG c
 ·exact fG e
 ·exact fG j
 ·omega
theorem eO(i l:Nat):i / 4 ^ l % 4<4:=Nat.mod_lt _ (by omega)
theorem rV(i l:Nat):i % 4 ^ (l+1)=i / 4 ^ l % 4*4 ^ l+i % 4 ^ l:=by
 rw[Nat.pow_succ,Nat.mod_mul,Nat.add_comm,Nat.mul_comm]
theorem xI(i n l:Nat):i % 4 ^ (l+1)=n % 4 ^ (l+1)↔i / 4 ^ l % 4=n / 4 ^ l % 4/\i % 4 ^ l=n % 4 ^ l:=by
 have e:0<4 ^ l:=Nat.pos_of_ne_zero (by simp);have k:=Nat.mod_lt i e;have o:=Nat.mod_lt n e;rw[rV i l,rV n l];constructor
 ·intro h
  have c:(i / 4 ^ l % 4*4 ^ l+i % 4 ^ l) / 4 ^ l=(n / 4 ^ l % 4*4 ^ l+n % 4 ^ l) / 4 ^ l:=by rw[h]
  rw[Nat.mul_comm _ (4 ^ l),Nat.mul_comm _ (4 ^ l),Nat.mul_add_div e,Nat.mul_add_div e,Nat.div_eq_of_lt k,Nat.div_eq_of_lt o,Nat.add_zero,Nat.add_zero] at c;refine⟨c,?_⟩;rw[c] at h;omega
 ·rintro⟨c,j⟩
  rw[c,j]
theorem Tr.Ok.blk_mod{S:Kor}:∀{l:Nat}{t:Tr},Tr.Ok S l t->∀{i n:Nat},i % 4 ^ l=n % 4 ^ l->t.blk l i=t.blk l n
 | 0,t,h,i,n,e=>by cases t<;>rfl
 | l+1,t,h,i,n,e=>by
   obtain⟨c,j⟩:=(xI i n l).1 e;rw[h.blk_succ,h.blk_succ,c];exact(h.kid (eO n l)).blk_mod j
def Fr(S:Kor)(u:Tr):Prop:=∀a∈u.ptr.addrs,a ∉ S.L
theorem Fr.hole(S:Kor):Fr S .hole:=fun a c=>by cases c
theorem Fr.ext{S T:Kor}{u:Tr}(h:Fr T u)(e:Ext S T):Fr S u:=fun a c j=>h a c (e.L a j)
theorem uX(p:Pt):p.eqB p=true:=by unfold Pt.eqB;simp
theorem A6(h:p.eqB q=true):p=q:=by
 obtain⟨a,b,c,d⟩:=p;obtain⟨e,j,k,n⟩:=q;unfold Pt.eqB at h;simp only[Bool.and_eq_true,beq_iff_eq,decide_eq_true_eq] at h;obtain⟨⟨⟨rfl,rfl⟩,rfl⟩,rfl⟩:=h;rfl
theorem Fr.ne{S:Kor}{t u:Tr}(h:Tr.Ok S l t)(o:t.isHole=false)(j:Fr S u):u.ptr.eqB t.ptr=false:=by
 cases e:u.ptr.eqB t.ptr with
 | false=>rfl
 | true =>
   have:=A6 e;obtain⟨k,n⟩:=h.lies o;unfold Fr at j;rw[this] at j;cases c:t.ptr.addrs with
   | nil=>exact absurd c k
   | cons a r=>exact absurd (n a (by rw[c];exact List.mem_cons_self ..)) (j a (by rw[c];exact List.mem_cons_self ..))
theorem Fr.ne_hole{S T:Kor}{u:Tr}(h:Tr.Ok T l u)(j:u.isHole=false):u.ptr.eqB zPt=false:=by
 cases e:u.ptr.eqB zPt with
 | false=>rfl
 | true =>
   have:=A6 e;have c:=h.hole_eq;rw[this,jC,j] at c;cases c
structure Beh(S T:Kor):Prop where
 ext:Ext S T
 bd:T.Bd
 txg:T.txg=S.txg
theorem Beh.refl{S:Kor}(h:S.Bd):Beh S S:=⟨Ext.refl S,h,rfl⟩
theorem Beh.trans{S T U:Kor}(h:Beh S T)(k:Beh T U):Beh S U:=⟨h.ext.trans k.ext,k.bd,k.txg.trans h.txg⟩
theorem GY{S:Kor}(n:S.Bd)(C:b.length=256){r:Option Tr}{T:Kor}(h:S.leaf b=(r,T)):Beh S T/\∀u,r=some u->Tr.Ok T 0 u/\(∀i,u.blk 0 i=b)/\Fr S u:=by
 unfold Kor.leaf at h
 by_cases k:b=zB
 ·rw[if_pos k] at h
  injection h with c e
  subst c e;refine⟨Beh.refl n,fun u j=>?_⟩;cases j
  exact⟨trivial,fun i=>k.symm,Fr.hole S⟩
 ·rw[if_neg k] at h
  cases o:S.put 0 b with
  | none =>
    rw[o] at h;injection h with c e
    subst c e;exact⟨Beh.refl n,fun u j=>by cases j⟩
  | some x =>
    obtain⟨p,U⟩:=x;rw[o] at h;injection h with c e
    subst c e;obtain⟨t,v,y,z,-,A,-⟩:=qX n (by omega) C o;refine⟨⟨v,y,z⟩,fun u j=>?_⟩;cases j
    exact⟨⟨t,k⟩,fun i=>rfl,A⟩
theorem BV{S:Kor}{k:Nat->Tr}(c:∀i,i<4->Tr.Ok S l (k i)):(cX lv (fI k)).length=256:=
 P3 (c 0 (by omega)).sl (c 1 (by omega)).sl (c 2 (by omega)).sl (c 3 (by omega)).sl
theorem EN{S:Kor}(o:S.Bd)(G:l≤2){k:Nat->Tr}(y:∀i,i<4->Tr.Ok S l (k i)){r:Option Tr}{T:Kor}(h:S.lay (l+1) k=(r,T)):Beh S T/\∀u,r=some u->Tr.Ok T (l+1) u/\(∀i,u.blk (l+1) i=(k (i / 4 ^ l % 4)).blk l i)/\Fr S u:=by
 unfold Kor.lay at h
 by_cases n:gK k=true
 ·rw[if_pos n] at h
  injection h with c e
  subst c e;refine⟨Beh.refl o,fun u j=>?_⟩;cases j
  exact⟨trivial,fun i=>by rw[uW n (eO i l),Tr.blk_hole,Tr.blk_hole],Fr.hole S⟩
 ·rw[if_neg n] at h
  cases t:S.put (l+1) (cX (l+1) (fI k)) with
  | none =>
    rw[t] at h;injection h with c e
    subst c e;exact⟨Beh.refl o,fun u j=>by cases j⟩
  | some x =>
    obtain⟨p,U⟩:=x;rw[t] at h;injection h with c e
    subst c e;obtain⟨z,v,A,C,-,E,-⟩:=qX o (by omega) (BV y) t;refine⟨⟨v,A,C⟩,fun u j=>?_⟩;cases j
    exact⟨⟨z,fun i F=>(y i F).ext v,by simpa using n⟩,fun i=>rfl,E⟩
theorem eU(k:Nat->Tr)(i:Nat)(t:Tr):eN k i t i=t:=by unfold eN;rw[if_pos rfl]
theorem eA(k:Nat->Tr){j:Nat}(t:Tr)(h:j≠i):eN k i t j=k j:=by unfold eN;rw[if_neg h]
theorem qI(j:b.length=256)(n:Nat):∀{l:Nat},l≤3->∀{S:Kor}{t:Tr},S.Bd->Tr.Ok S l t->∀{r:Option Tr}{T:Kor},eD l S t n b=(r,T) ->
 Beh S T/\∀u,r=some u->Tr.Ok T l u/\(∀i,u.blk l i=if i % 4 ^ l=n % 4 ^ l then b else t.blk l i)/\Fr S u
 | 0,_,S,t,A,k,r,T,h=>by
   obtain⟨y,z⟩:=GY A j h;refine⟨y,fun u o=>?_⟩;obtain⟨H,I,J⟩:=z u o;exact⟨H,fun i=>by rw[I,if_pos (by rw[Nat.pow_zero,Nat.mod_one,Nat.mod_one])],J⟩
 | l+1,hl,S,t,A,k,r,T,h=>by
   unfold eD at h;cases C:eD l S (t.kid (n / 4 ^ l % 4)) n b with
   | mk Y F =>
     rw[C] at h;obtain⟨c,G⟩:=qI j n (by omega) A (k.kid (eO n l)) C;cases Y with
     | none =>
       injection h with y z
       subst y z;exact⟨c,fun u o=>by cases o⟩
     | some E =>
       obtain⟨Q,R,o3⟩:=G E rfl
       have L:∀i,i<4->Tr.Ok F l (eN t.kid (n / 4 ^ l % 4) E i):=fun i K=>by
        by_cases e:i=n / 4 ^ l % 4
        ·rw[e,eU];exact Q
        ·rw[eA _ _ e];exact(k.kid K).ext c.ext
       obtain⟨P,l2⟩:=EN c.bd (by omega) L h;refine⟨c.trans P,fun u o=>?_⟩;obtain⟨U,V,X⟩:=l2 u o;refine⟨U,fun i=>?_,X.ext c.ext⟩;rw[V]
       by_cases e:i / 4 ^ l % 4=n / 4 ^ l % 4
       ·rw[e,eU,R]
        by_cases v:i % 4 ^ l=n % 4 ^ l
        ·rw[if_pos v,if_pos ((xI i n l).2 ⟨e,v⟩)]
        ·rw[if_neg v,if_neg fun h=>v ((xI i n l).1 h).2,k.blk_succ,e]
       ·rw[eA _ _ e,if_neg fun h=>e ((xI i n l).1 h).1,k.blk_succ]
def Kor.room(S:Kor)(N:Nat):Prop:=oH S.allUp S.cp (cI S.L S.D S.Z) N
theorem EO{S:Kor}(h:S.room (N+1))(lv:Nat)(b:List UInt8):∃p T,S.put lv b=some (p,T)/\T.room N:=by
 obtain⟨l,c,e⟩:=Il h;refine⟨⟨bF S.L S.Z l,S.txg+1,(lv:Int),dB b⟩,⟨S.D,S.Z,S.cp,S.L++bF S.L S.Z l,lV b (bF S.L S.Z l) S.M,S.txg⟩,?_,?_⟩
 ·unfold Kor.put;rw[c]
 ·unfold Kor.room
  show oH S.allUp S.cp (cI (S.L++bF S.L S.Z l) S.D S.Z) N;rw[zF c];exact e
theorem Kx{S:Kor}(h:S.room (N+1))(j:b≠zB):∃u T,S.leaf b=(some u,T)/\T.room N/\u.isHole=false:=by
 obtain⟨p,T,c,e⟩:=EO h 0 b;refine⟨.leaf p b,T,?_,e,rfl⟩;unfold Kor.leaf;rw[if_neg j,c]
theorem MT{S:Kor}(h:S.room (N+1)){k:Nat->Tr}(j:gK k=false):∃u T,S.lay l k=(some u,T)/\T.room N/\u.isHole=false:=by
 obtain⟨p,T,c,e⟩:=EO h l (cX l (fI k));refine⟨.node p k,T,?_,e,rfl⟩;unfold Kor.lay;rw[j,c];rfl
theorem IK{k:Nat->Tr}(e:i<4){u:Tr}(c:u.isHole=false):gK (eN k i u)=false:=by
 cases h:gK (eN k i u) with
 | false=>rfl
 | true =>
   have:=uW h e;rw[eU] at this;rw[this] at c;cases c
theorem CK(c:b≠zB)(n:Nat):∀(l:Nat){S:Kor}(t:Tr){N:Nat},S.room (N+(l+1))->∃u T,eD l S t n b=(some u,T)/\T.room N/\u.isHole=false
 | 0,S,t,N,h=>Kx h c
 | l+1,S,t,N,h=>by
   have z:S.room (N+1+(l+1)):=by
    have e:N+1+(l+1)=N+(l+1+1):=by omega
    rw[e];exact h
   obtain⟨C,A,j,o,r⟩:=CK c n l (S:=S) (t.kid (n / 4 ^ l % 4)) (N:=N+1) z;obtain⟨u,T,v,y,h6⟩:=MT (l:=l+1) o (IK (k:=t.kid) (eO n l) r);refine⟨u,T,?_,y,h6⟩;unfold eD;rw[j];exact v
theorem BW{cut:Kor->Tr->Int->Int->Option Tr×Kor}{t:Tr}{S:Kor}(L:S.Bd)(H:Tr.Ok S (l+1) t){C:Nat->Int->Int->Prop}
 (hcut:∀{S:Kor}{t:Tr}{f g:Int}{r:Option Tr}{T:Kor},S.Bd->Tr.Ok S l t->cut S t f g=(r,T)->Beh S T/\∀u,r=some u->Tr.Ok T l u/\(∀i,u.blk l i=if f≤((i % 4 ^ l:Nat):Int)/\((i % 4 ^ l:Nat):Int)<g then zB else t.blk l i)/\(u=t\/(t.isHole=false/\Fr S u))) :
 ∀(j:Nat),j≤4->∀{r:Option ((Nat->Tr)×Bool)}{T:Kor},gG cut W S t f g j=(r,T) ->
  Beh S T/\∀k y,r=some (k,y)->(∀i,i<4->Tr.Ok T l (k i))/\(∀i,j≤i->k i=t.kid i) /\
   (∀i,i<j->∀n,(k i).blk l n=if f-i*W≤((n % 4 ^ l:Nat):Int)/\((n % 4 ^ l:Nat):Int)<g-i*W then zB else (t.kid i).blk l n)/\(y=false->∀i,i<4->k i=t.kid i)/\(y=true->t.isHole=false)
 | 0,_,r,T,h=>by
   unfold gG at h;injection h with G E
   subst G E;refine⟨Beh.refl L,fun k y o=>?_⟩;injection o with o
   injection o with z F
   subst z F;exact⟨fun i v=>H.kid v,fun i _=>rfl,fun i v=>by omega,fun _ i _=>rfl,fun h=>by cases h⟩
 | j+1,hj,r,T,h=>by
   unfold gG at h;cases G:gG cut W S t f g j with
   | mk r1 Q =>
     rw[G] at h;obtain⟨A,e2⟩:=BW L H hcut (C:=C) j (by omega) G;cases r1 with
     | none =>
       injection h with E z
       subst E z;exact⟨A,fun k y o=>by cases o⟩
     | some x =>
       obtain⟨k1,c1⟩:=x;obtain⟨R,U,V,X,Y⟩:=e2 k1 c1 rfl;simp only[] at h;cases E:cut Q (t.kid j) (f-j*W) (g-j*W) with
       | mk r2 T2 =>
         rw[E] at h;obtain⟨b1,b2⟩:=hcut A.bd ((H.kid (by omega)).ext A.ext) E;cases r2 with
         | none =>
           injection h with z F
           subst z F;exact⟨A.trans b1,fun k y o=>by cases o⟩
         | some u =>
           injection h with z F
           subst z F;obtain⟨d1,d2,I⟩:=b2 u rfl;refine⟨A.trans b1,fun k y o=>?_⟩;injection o with o
           injection o with h5 h6
           subst h5 h6;refine⟨fun i v=>?_,fun i v=>?_,fun i v m=>?_,fun c i v=>?_,fun c=>?_⟩
           ·by_cases e:i=j
            ·rw[e,eU];exact d1
            ·rw[eA _ _ e];exact(R i v).ext b1.ext
           ·rw[eA _ _ (by omega)];exact U i (by omega)
           ·by_cases e:i=j
            ·subst e;rw[eU];exact d2 m
            ·rw[eA _ _ e];exact V i (by omega) m
           ·rw[Bool.or_eq_false_iff] at c
            by_cases e:i=j
            ·subst e
             rw[eU];rcases I with h|⟨h,P⟩
             ·exact h
             ·have K:=c.2
              rw[show (t.kid i).ptr.eqB u.ptr=false from by
               cases e9:(t.kid i).ptr.eqB u.ptr with
               | false=>rfl
               | true =>
                 have J:=Fr.ne ((H.kid (by omega)).ext A.ext) h P;rw[A6 e9,uX] at J;cases J] at K
              cases K
            ·rw[eA _ _ e];exact X c.1 i v
           ·cases t with
            | hole =>
              rw[Bool.or_eq_true] at c;rcases c with c|c
              ·exact Y c
              ·rcases I with h|⟨h,P⟩
               ·rw[h,uX] at c;cases c
               ·cases h
            | leaf p b=>rfl
            | node p k=>rfl
theorem tJ:∀{l:Nat},l≤3->∀{S:Kor}{t:Tr}{f g:Int}{r:Option Tr}{T:Kor},S.Bd->Tr.Ok S l t->bY l S t f g=(r,T) ->
 Beh S T/\∀u,r=some u->Tr.Ok T l u/\(∀i,u.blk l i=if f≤((i % 4 ^ l:Nat):Int)/\((i % 4 ^ l:Nat):Int)<g then zB else t.blk l i)/\(u=t\/(t.isHole=false/\Fr S u))
 | 0,_,S,t,f,g,r,T,v,o,h=>by
   unfold bY at h
   by_cases c:(t.isHole || decide (min g 1≤max f 0))=true
   ·rw[if_pos c] at h
    injection h with j n
    subst j n;refine⟨Beh.refl v,fun u e=>?_⟩;cases e
    refine⟨o,fun i=>?_,.inl rfl⟩;rw[Bool.or_eq_true,decide_eq_true_eq] at c
    by_cases E:f≤((i % 4 ^ 0:Nat):Int)/\((i % 4 ^ 0:Nat):Int)<g
    ·rw[if_pos E]
     rcases c with c|c
     ·rw[fG c,Tr.blk_hole]
     ·rw[Nat.pow_zero,Nat.mod_one] at E;omega
    ·rw[if_neg E]
   ·rw[if_neg c] at h
    injection h with j n
    subst j n;refine⟨Beh.refl v,fun u e=>?_⟩;cases e
    rw[Bool.or_eq_true,not_or,decide_eq_true_eq] at c;refine⟨trivial,fun i=>?_,.inr ⟨by simpa using c.1,Fr.hole S⟩⟩;rw[if_pos (by rw[Nat.pow_zero,Nat.mod_one];omega),Tr.blk_hole]
 | l+1,hl,S,t,f,g,r,T,v,o,h=>by
   have V:0<4 ^ l:=Nat.pos_of_ne_zero (by simp);obtain⟨W,F⟩:=zX9 (4 ^ l)
   have G:4 ^ (l+1)=4*W:=by rw[Nat.pow_succ,F,Nat.mul_comm]
   unfold bY at h;have e4:(4:Int) ^ (l+1)=((4*W:Nat):Int):=by rw[←G];norm_cast
   have e5:(4:Int) ^ l=(W:Int):=by rw[←F];norm_cast
   rw[e4,e5] at h;rw[F] at V
   by_cases c:(t.isHole || decide (min g ((4*W:Nat):Int)≤max f 0))=true
   ·rw[if_pos c] at h
    injection h with j n
    subst j n;refine⟨Beh.refl v,fun u e=>?_⟩;cases e
    refine⟨o,fun i=>?_,.inl rfl⟩;rw[Bool.or_eq_true,decide_eq_true_eq] at c
    by_cases E:f≤((i % 4 ^ (l+1):Nat):Int)/\((i % 4 ^ (l+1):Nat):Int)<g
    ·rw[if_pos E]
     rcases c with c|c
     ·rw[fG c,Tr.blk_hole]
     ·have:=Nat.mod_lt i (y:=4 ^ (l+1)) (by omega)
      omega
    ·rw[if_neg E]
   ·rw[if_neg c] at h
    rw[Bool.or_eq_true,not_or,decide_eq_true_eq] at c;have R:t.isHole=false:=by simpa using c.1
    by_cases X:min g ((4*W:Nat):Int)-max f 0=((4*W:Nat):Int)
    ·rw[if_pos X] at h
     injection h with j n
     subst j n;refine⟨Beh.refl v,fun u e=>?_⟩;cases e
     refine⟨trivial,fun i=>?_,.inr ⟨R,Fr.hole S⟩⟩;have:=Nat.mod_lt i (y:=4 ^ (l+1)) (by omega);rw[if_pos (by omega),Tr.blk_hole]
    ·rw[if_neg X] at h
     cases U:gG (bY l) (W:Int) S t (max f 0) (min g ((4*W:Nat):Int)) 4 with
     | mk r1 T1 =>
       rw[U] at h;obtain⟨A,e2⟩:=BW v o (C:=fun _ _ _=>True) (fun {S t f g r T} v o h=>tJ (by omega) v o h) 4 (by omega) U;cases r1 with
       | none =>
         injection h with j n
         subst j n;exact⟨A,fun u e=>by cases e⟩
       | some x =>
         obtain⟨k,P⟩:=x;obtain⟨Y,a2,a3,a4,a5⟩:=e2 k P rfl;simp only[] at h
         have z:∀i,(k (i / 4 ^ l % 4)).blk l i=if f≤((i % 4 ^ (l+1):Nat):Int)/\((i % 4 ^ (l+1):Nat):Int)<g then zB else t.blk (l+1) i:=fun i=>by
          have I:=eO i l;rw[a3 _ I,o.blk_succ,rV i l,F];have hm:=Nat.mod_lt i V;obtain⟨d,J⟩:=zX9 (i / W % 4)
          rw[F] at I;rw[J] at I ⊢;obtain⟨m,L⟩:=zX9 (i % W)
          rw[L] at hm ⊢;have K:d*W≤3*W:=Nat.mul_le_mul_right _ (by omega);have H:((d:Int)*(W:Int))=((d*W:Nat):Int):=by norm_cast
          rw[H];obtain⟨q,hq⟩:=zX9 (d*W)
          rw[hq] at K ⊢
          by_cases Q:f≤((q+m:Nat):Int)/\((q+m:Nat):Int)<g
          ·rw[if_pos Q,if_pos (by omega)]
          ·rw[if_neg Q,if_neg (by omega)]
         cases P with
         | true =>
           rw[if_pos rfl] at h;obtain⟨l1,l2⟩:=EN A.bd (by omega) Y h;refine⟨A.trans l1,fun u e=>?_⟩;obtain⟨q1,q2,q3⟩:=l2 u e;exact⟨q1,fun i=>by rw[q2];exact z i,.inr ⟨R,q3.ext A.ext⟩⟩
         | false =>
           rw[if_neg (by decide)] at h;injection h with j n
           subst j n;refine⟨A,fun u e=>?_⟩;cases e
           exact⟨o.ext A.ext,fun i=>by rw[←z i,a4 rfl _ (eO i l),o.blk_succ],.inl rfl⟩
def Tr.cnt(l:Nat)(t:Tr):Nat:=(t.blocks l).countP fun b=>decide (b≠zB)
theorem P4(n:Nat):(List.replicate n zB).countP (fun b=>decide (b≠zB))=0:=by
 rw[List.countP_replicate];simp
theorem Tr.Ok.many_eq{S:Kor}:∀{l:Nat}{t:Tr},Tr.Ok S l t->t.cnt l=t.many l
 | l,.hole,h=>by
   unfold Tr.cnt;cases l<;>(show List.countP _ (List.replicate _ zB)=0;exact P4 _)
 | 0,.leaf p b,h=>by
   unfold Tr.cnt;show List.countP _ [b]=1;rw[List.countP_singleton,if_pos (by exact decide_eq_true h.2)]
 | 0,.node p k,h=>h.elim
 | l+1,.leaf p b,h=>h.elim
 | l+1,.node p k,h=>by
   have h0:=(h.2.1 0 (by omega)).many_eq;have c:=(h.2.1 1 (by omega)).many_eq;have e:=(h.2.1 2 (by omega)).many_eq;have j:=(h.2.1 3 (by omega)).many_eq;unfold Tr.cnt at *;show List.countP _ ((k 0).blocks l++(k 1).blocks l++(k 2).blocks l++(k 3).blocks l)=(k 0).many l+(k 1).many l+(k 2).many l+(k 3).many l;rw[List.countP_append,List.countP_append,List.countP_append,h0,c,e,j]
theorem P5(W:Nat)(f:Nat->List UInt8):(List.range (4*W)).map f=(List.range W).map f++(List.range W).map (fun i=>f (W+i))++(List.range W).map (fun i=>f (2*W+i))++(List.range W).map (fun i=>f (3*W+i)):=by
 have e:4*W=W+W+W+W:=by omega
 have c:W+W=2*W:=by omega
 have h:2*W+W=3*W:=by omega
 rw[e,List.range_add,List.range_add,List.range_add];simp only[List.map_append,List.map_map,Function.comp_def,c,h]
theorem Tr.Ok.blocks_eq{S:Kor}:∀{l:Nat}{t:Tr},Tr.Ok S l t->t.blocks l=(List.range (4 ^ l)).map (t.blk l)
 | l,.hole,h=>by
   have:(List.range (4 ^ l)).map (Tr.blk l .hole)=List.replicate (4 ^ l) zB:=by
    rw[List.eq_replicate_iff];refine⟨by simp,fun b o=>?_⟩;obtain⟨i,-,rfl⟩:=List.mem_map.1 o;exact Tr.blk_hole l i
   rw[this];cases l<;>rfl
 | 0,.leaf p b,h=>rfl
 | 0,.node p k,h=>h.elim
 | l+1,.leaf p b,h=>h.elim
 | l+1,.node p k,h=>by
   have r:0<4 ^ l:=Nat.pos_of_ne_zero (by simp);rw[Nat.pow_succ,Nat.mul_comm,P5]
   have c:∀j,j<4->(k j).blocks l=(List.range (4 ^ l)).map fun i=>Tr.blk (l+1) (.node p k) (j*4 ^ l+i):=fun j n=>by
    rw[(h.2.1 j n).blocks_eq];refine List.map_congr_left fun i e=>?_
    have e:=List.mem_range.1 e;show _=(k ((j*4 ^ l+i) / 4 ^ l % 4)).blk l (j*4 ^ l+i);rw[show (j*4 ^ l+i) / 4 ^ l % 4=j by rw[Nat.mul_comm,Nat.mul_add_div r,Nat.div_eq_of_lt e,Nat.add_zero,Nat.mod_eq_of_lt n]];exact(h.2.1 j n).blk_mod (by rw[Nat.mul_comm,Nat.mul_add_mod])
   show (k 0).blocks l++(k 1).blocks l++(k 2).blocks l++(k 3).blocks l=_;rw[c 0 (by omega),c 1 (by omega),c 2 (by omega),c 3 (by omega)];simp only[Nat.zero_mul,Nat.zero_add,Nat.one_mul]
theorem Tr.Ok.blocks_len{S:Kor}{t:Tr}(h:Tr.Ok S l t):(t.blocks l).length=4 ^ l:=by rw[h.blocks_eq];simp
theorem N8(h:0<x):dC [x,x] [true,true] 2=[0,1]:=by
 have h0:eK [x,x] [true,true] 0=true:=by simp[eK,h]
 have c:eK [x,x] [true,true] 1=true:=by simp[eK,h]
 rw[sF,sF,if_pos h0,if_pos c];rfl
theorem OP(h:0<x):cF [x,x] [true,true] 2=some [0,1]:=by
 have e:jS [x,x] [true,true]=[0,1]:=(yV (by show [0,1].Perm (dC [x,x] [true,true] 2);rw[N8 h]) (by
  show List.Pairwise _ [0,1];simp[dF])).symm
 unfold cF;rw[e];show (if dC [x,x] [true,true] 2=[]\/(dC [x,x] [true,true] 2).length<kP [true,true] 2 then none else some (List.take (kP [true,true] 2) [0,1]))=_;rw[N8 h];rfl
theorem CL:∀n:Nat,oH [true,true] 2 [(n:Int),(n:Int)] n
 | 0=>.none (by decide)
 | n+1=>.more (OP (by omega)) (by
    have:mH [((n+1:Nat):Int),((n+1:Nat):Int)] [0,1]=[(n:Int),(n:Int)]:=by simp[mH]
    rw[this];exact CL n)
theorem sQ(d:Nat):∀Z,(bC [] d Z).length=Z-5
 | 0=>rfl
 | Z+1=>by
   rw[sI,List.length_append,sQ d Z]
   by_cases h:5≤Z
   ·rw[if_pos (by simp[gS,dY,h])]
    show Z-5+1=_;omega
   ·rw[if_neg (by simp[gS,h])]
    show Z-5+0=_;omega
theorem Kor.room_new(Z:Nat)(M:Nat->Nat->List UInt8)(t:Int):Kor.room ⟨2,Z,2,[],M,t⟩ (Z-5):=by
 show oH [true,true] 2 (cI [] 2 Z) (Z-5)
 have:cI [] 2 Z=[((Z-5:Nat):Int),((Z-5:Nat):Int)]:=by
  show [((bC [] 0 Z).length:Int),((bC [] 1 Z).length:Int)]=_;rw[sQ,sQ]
 rw[this];exact CL _
theorem Tr.Ok.top{S:Kor}{t:Tr}(h:Tr.Ok S 3 t)(c:t.isHole=false):t.ptr.level=3/\1≤t.ptr.birth/\t.ptr.birth≤S.txg+1:=by
 cases t with
 | hole=>cases c
 | leaf p b=>exact h.elim
 | node p k=>exact⟨h.1.lev,h.1.born⟩
theorem ES:Hid (∀w,(zeroValue 285).run prog w=.ok (.agg #[.int .i64 0,.slice none 0 0]) w):=O fun w=>by kernel_rfl
def DU(a:Nat):List Value:=.pointer a::List.replicate 24 (.int .i64 0)
def eV(w:World)(m a:Nat):Prop:=w.heap[m]?=some (.cells (DU a).toArray 194 (0,0))
theorem eV.c0(h:eV w m a):w.cell? ⟨m,0,none⟩=some (.pointer a):=aC h rfl
theorem lJ(h:bQ w a B D Z M nw):Calls prog 40 #[.pointer a] w (aH w (.int .i64 (D:Int))):=by
 obtain⟨j,e,lv,st,f,F,W,c,-⟩:=h;exact QH c
theorem xJ(h:bQ w a B D Z M nw):Calls prog 88 #[.pointer a] w (aH w (.int .i64 (Z:Int))):=by
 obtain⟨j,e,lv,st,f,F,W,c,-⟩:=h;exact DQ c
theorem Q6(h:bQ w a B D Z M nw)(d:Int):Calls prog 46 #[.pointer a,.int .i64 d] w (aH w (.bool (decide (0≤d) && decide (d<(D:Int))))):=by
 obtain⟨j,e,lv,st,f,F,W,c,-⟩:=h;exact aup c d
theorem QL(h:bQ w a B D Z M nw)(c:d<D)(e:s<Z):Calls prog 83 #[.pointer a,.int .i64 (d:Int),.int .i64 (s:Int)] w (uU w (M d s) (.int .i64 0)):=by
 obtain⟨o,n,lv,st,f,F,W,j,-,-,k⟩:=h;rw[k d s c e];exact OK j c e
theorem QM(h:bQ w a B D Z M nw)(c:d<D)(e:s<Z):Calls prog 197 #[.pointer a,.int .i64 (d:Int),.int .i64 (s:Int)] w (uU w (M d s) (.bool true)):=by
 obtain⟨o,n,lv,st,f,F,W,j,-,-,k⟩:=h;rw[k d s c e];exact ML j c e
theorem OR(h:bQ w a B D Z M nw):Calls prog 83 #[.pointer a,.int .i64 (-1),.int .i64 0] w (aH w (.tuple #[.slice none 0 0,.int .i64 5])):=by
 obtain⟨j,e,lv,st,f,F,W,c,-⟩:=h;exact OM c
theorem bQ.len(h:bQ w a B D Z M nw)(e:d<D)(j:s<Z):(M d s).length=256:=by
 obtain⟨o,n,lv,st,f,F,W,c,-,-,k⟩:=h;rw[k d s e j];exact uT c.wok (c.fok d s e j)
theorem CM(w:World)(m a:Nat)(c:eV w m a):Calls prog 193 #[.pointer m] w (aH w (.bool false)):=by
 have c0:=c.c0;clear c;go_in;go_wp2;go_ret;exact aH.of (aA.refl _ _)
theorem MU(w:World)(n:Nat)(c:0<n):Calls prog 196 #[.int .i64 (n:Int)] w (aH w (.tuple #[.int .i64 (n:Int),.int .i64 0])):=by
 have e:((n:Int) == 0)=false:=by rw[beq_eq_false_iff_ne];omega
 go_in;go_wp2
 go_ret2
 exact aH.of (aA.refl _ _)
theorem MV(h:bQ w a B D Z M nw):Calls prog 84 #[.pointer a] w fun e t=>∃m,e=.returned (.tuple #[.pointer (some ⟨m,0,none⟩),.int .i64 0])/\w.heap.size≤m/\eV t m a/\aA aB w t:=by
 have o:=O (lJ h);have k:=h.bd;have e:((D:Int) == 0)=false:=by rw[beq_eq_false_iff_ne];omega
 have j:∀w,(Instr.build 194 #[(0,.pointer a)]).run prog w=.ok (.agg (DU a).toArray) w:=fun w=>by kernel_rfl
 clear h k;go_in;go_wp2_with fail;refine o.mono ?_;rintro e C ⟨rfl,n⟩;have v:=O n;have A:=n.size;clear n o
 go_wp2_with ((with_reducible show WL _ _);first
  | refine bld 194 #[(0,.tmp 7)] [(0,.pointer a)] (.agg (DU a).toArray) j ?_
  | refine bxA (DU a).toArray ?_)
 intro b u z c r;have y:Hid (∃m,Ending.returned (.tuple #[.pointer b,.int .i64 0])=.returned (.tuple #[.pointer (some ⟨m,0,none⟩),.int .i64 0])/\w.heap.size≤m/\eV u m a/\aA aB w u):=O ⟨b,rfl,by omega,r,v.trans c⟩;clear z c r;go_wp2
 go_ret2
 exact y.out
theorem mM{x:Ad}(h:eF x D Z):∃d s:Nat,x=⟨(d:Int),(s:Int)⟩/\d<D/\5≤s/\s<Z:=by
 obtain⟨e,j⟩:=x;obtain⟨c,k,n,o⟩:=h;replace c:0≤e:=c;replace k:e<(D:Int):=k;replace n:5≤j:=n;replace o:j<(Z:Int):=o;exact⟨e.toNat,j.toNat,by rw[Int.toNat_of_nonneg c,Int.toNat_of_nonneg (by omega)],by omega,by omega,by omega⟩
theorem xK(h:bQ w a B D Z Mm nw)(hm:eV w m a)(v:Value)(l:List Ad)(X:Rd w 2 v l.length (aR l))(hl:∀x∈l,eF x D Z):Calls prog 194 #[.pointer m,v] w (aH w (.bool true)):=by
 obtain⟨oa,ca,rfl,-,-⟩:=X.form;obtain⟨n,hn⟩:=zX9 l.length
 have HN:=O hn;rw[hn] at X ⊢;have qe:n≤maxLen:=by obtain⟨_,a',c',h1,h2,h3,-⟩:=X;omega
 unfold maxLen at qe;have HR:=O X;have HA:=O h;have qc:=O hm;have qb:=O hl;clear X h hm hl hn;go_in;go_wp2_with fail
 go_loopw [9] (fun i wr=>∃k:Nat,k≤n/\i=.int .i64 k/\Hid (aA aB w wr)) (fun i _=>n-(intOf i).toNat)
 case atStart=>exact⟨0,by omega,rfl,O (aA.refl _ _)⟩
 case round =>
  obtain⟨k,y,rfl,T⟩:=hrel
  by_cases qd:k<n
  ·obtain⟨x,hx⟩:∃x,l[k]?=some x:=⟨l[k]'(by rw[HN.out];exact qd),List.getElem?_eq_getElem _⟩
   obtain⟨d,s,rfl,hd,qh,qi⟩:=mM (qb x (List.mem_of_getElem? hx));have Q:=HR.out;rw[←HN.out] at Q;obtain⟨g,o,qf,hv,U⟩:=gX Q hx;obtain rfl:oa=some ⟨g,o,none⟩:=by cases hv;rfl
   have Y:=O (T.rangeAt U);have E:=lN wr;have r:=O (HA.keep0 T.out);have u:Hid (eV wr m a):=O (T.blk qc.out id);have P:(0:Int)≤(k:Int):=by omega
   have qg:(k:Int)<(n:Int):=by omega
   have e1:¬((d:Int)<0):=by omega
   have e2:¬((D:Int)≤(d:Int)):=by omega
   have e3:¬((s:Int)<5):=by omega
   have e4:¬((Z:Int)≤(s:Int)):=by omega
   clear hx Q U hv
   go_wp2_with (first
    | refine ldM g (o+k*2) (aO ⟨(d:Int),(s:Int)⟩) Y.out bT (by rw[bG];exact jK) ?_
    | refine alA xC ?_)
   intro H w1 V P K
   go_wp2_with ((with_reducible show WL _ _);refine sta 59 (.tmp 6) (.tmp 12) H 0 (aO ⟨(d:Int),(s:Int)⟩) K (by first|decide|(rw[List.size_toArray,bG];exact Nat.le_refl _)|simp[bG]) (by rw[bG];exact jK) (bP _) ?_)
   intro w2 y hb;rw[aS _ _ (by first|rfl|(rw[List.size_toArray,bG];rfl)|simp[bG])] at hb;replace y:=tX P y (fun i hi e=>by omega);replace E:=lW E V y hb;replace Y:=O (y.rangeAt Y.out);replace r:=O (r.keep0 y);replace u:=O (y.blk u.out id);clear V y hb P K;clear Y;go_wp2_with fail;refine dwA aB (by kernel_rfl) ?_;intro w3 S z L C J;replace E:=kL E J;replace r:=O (r.keep0 J);replace u:=O (J.blk u.out id);clear J;have F:=E;have R:=r;have G:=u;refine tnb 0 (.pointer H) rfl C ?_;refine tnd 1 (.int .i64 (d:Int)) rfl (.inl ⟨by rfl,fun A t=>by have c:World.cell? A ⟨H,0,none⟩=some (.int .i64 (d:Int)):=(aC (i:=0) ((z A t).blk (F.b 0) id) rfl);go_simp⟩) C ?_;refine tnd 2 (.bool false) rfl (.inl ⟨by rfl,fun _ _=>by go_simp<;>first|omega|(simp;omega)⟩) C ?_;refine tna 3 (.bool false) rfl C ?_;refine tnb 4 (.pointer H) rfl C ?_;refine tnd 5 (.int .i64 (d:Int)) rfl (.inl ⟨by rfl,fun A t=>by have c:World.cell? A ⟨H,0,none⟩=some (.int .i64 (d:Int)):=(aC (i:=0) ((z A t).blk (F.b 0) id) rfl);go_simp⟩) C ?_;refine tna 6 (.pointer m) rfl C ?_;refine tnb 7 (.pointer m) rfl C ?_;refine tnb 8 (.pointer m) rfl C ?_;refine tnd 9 (.pointer a) rfl (.inl ⟨by rfl,fun A t=>by have c:World.cell? A ⟨m,0,none⟩=some (.pointer a):=(z A t).cell (eV.c0 G.out) id;go_simp⟩) C ?_;refine wA9 10 ?_;go_wp2_with fail;refine(lJ r.out).mono ?_;rintro e w4 ⟨rfl,y⟩;have j:=L.out _ ((z _ C).trans y);replace E:=kL E y;replace r:=O (r.keep0 y);replace u:=O (y.blk u.out id);clear C y;go_wp2_with fail;refine⟨j,?_⟩;refine tnd 11 (.bool false) rfl (.inl ⟨by rfl,fun _ _=>by go_simp<;>first|omega|(simp;omega)⟩) j ?_;refine tna 12 (.bool false) rfl j ?_;refine tna 13 (.bool false) rfl j ?_;refine tnb 14 (.pointer (some ⟨H,1,none⟩)) rfl j ?_;refine tnd 15 (.int .i64 (s:Int)) rfl (.inl ⟨by rfl,fun A t=>by have c:World.cell? A ⟨H,1,none⟩=some (.int .i64 (s:Int)):=(aC (i:=1) ((z A t).blk (F.b 0) id) rfl);go_simp⟩) j ?_;refine tnd 16 (.bool false) rfl (.inl ⟨by rfl,fun _ _=>by go_simp<;>first|omega|(simp;omega)⟩) j ?_;refine tna 17 (.bool false) rfl j ?_;refine tna 18 (.bool false) rfl j ?_;refine tnb 19 (.pointer (some ⟨H,1,none⟩)) rfl j ?_;refine tnd 20 (.int .i64 (s:Int)) rfl (.inl ⟨by rfl,fun A t=>by have c:World.cell? A ⟨H,1,none⟩=some (.int .i64 (s:Int)):=(aC (i:=1) ((z A t).blk (F.b 0) id) rfl);go_simp⟩) j ?_;refine tna 21 (.pointer m) rfl j ?_;refine tnb 22 (.pointer m) rfl j ?_;refine tnb 23 (.pointer m) rfl j ?_;refine tnd 24 (.pointer a) rfl (.inl ⟨by rfl,fun A t=>by have c:World.cell? A ⟨m,0,none⟩=some (.pointer a):=(z A t).cell (eV.c0 G.out) id;go_simp⟩) j ?_;refine wA9 25 ?_;go_wp2_with fail;refine(xJ r.out).mono ?_;rintro e w5 ⟨rfl,y⟩;have I:=L.out _ ((z _ j).trans y);replace E:=kL E y;replace r:=O (r.keep0 y);replace u:=O (y.blk u.out id);clear j y;go_wp2_with fail;refine⟨I,?_⟩;refine tnd 26 (.bool false) rfl (.inl ⟨by rfl,fun _ _=>by go_simp<;>first|omega|(simp;omega)⟩) I ?_;refine tna 27 (.bool false) rfl I ?_;refine wpAnyH_done (by kernel_rfl) ?_ _;clear I z L F R G;have qa:=O (T.trans E.keep);clear E r u;go_wp2
   go_roundw
   case rel=>exact⟨k+1,by omega,by go_num,qa⟩
   case measure=>simp[intOf];omega
  ·obtain rfl:n=k:=by omega
   go_wp2;go_ret;exact aH.of T.out
theorem IL(w:World)(v:Value)(l:List Ad)(I:Rd w 2 v l.length (aR l))(hl:(l.map (·.dev)).Nodup)(P:kR l):Calls prog 195 #[v] w (aH w (.bool true)):=by
 obtain⟨oa,ca,rfl,-,-⟩:=I.form;obtain⟨n,hn⟩:=zX9 l.length
 have R:=O hn;rw[hn] at I ⊢;have ql:n≤ca:=by obtain⟨_,a',c',L,S,h3,-⟩:=I;cases L;exact S
 have qb:n≤maxLen:=by obtain⟨_,a',c',L,S,h3,-⟩:=I;omega
 unfold maxLen at qb;have HR:=O I;have X:=O hl;have qd:=O P;clear I hl P hn;go_in;go_wp2_with fail
 go_loopw [9] (fun i wr=>∃k:Nat,k≤n/\i=.int .i64 k/\Hid (aA aB w wr)) (fun i _=>n-(intOf i).toNat)
 case atStart=>exact⟨0,by omega,rfl,O (aA.refl _ _)⟩
 case round =>
  obtain⟨k,r,rfl,V⟩:=hrel
  by_cases qa:k<n
  ·obtain⟨x,hx⟩:∃x,l[k]?=some x:=⟨l[k]'(by rw[R.out];exact qa),List.getElem?_eq_getElem _⟩
   have h:=HR.out;rw[←R.out] at h;obtain⟨g,o,K,T,u⟩:=gX h hx;obtain rfl:oa=some ⟨g,o,none⟩:=by cases T;rfl
   have E:=O (V.rangeAt u);have Y:=O hx;have C:=lN wr;have t:(0:Int)≤(k:Int):=by omega
   have qj:(k:Int)<(n:Int):=by omega
   have qk:(k:Int)≤(ca:Int):=by omega
   clear hx h u T
   go_wp2_with (first
    | refine ldM g (o+k*2) (aO x) E.out bT (by rw[bG];exact jK) ?_
    | refine alA xC ?_)
   intro b4 w1 z t c
   go_wp2_with ((with_reducible show WL _ _);refine sta 59 (.tmp 4) (.tmp 13) b4 0 (aO x) c (by first|decide|(rw[List.size_toArray,bG];exact Nat.le_refl _)|simp[bG]) (by rw[bG];exact jK) (bP _) ?_)
   intro w2 r H;rw[aS _ _ (by first|rfl|(rw[List.size_toArray,bG];rfl)|simp[bG])] at H;replace r:=tX t r (fun i hi e=>by omega);replace C:=lW C z r H;replace E:=O (r.rangeAt E.out);clear z r H t c;clear E;go_wp2_with fail;have U:=O (C.b 0);have J:=O (V.trans C.keep)
   go_loopw [18] (fun i qc=>∃j:Nat,j≤k/\i=.int .i64 j/\Hid (aA aB w2 qc)) (fun i _=>k-(intOf i).toNat)
   case atStart=>exact⟨0,by omega,rfl,O (aA.refl _ _)⟩
   case round =>
    rename_i wo;obtain⟨j,hj,rfl,A⟩:=hrel
    by_cases qi:j<k
    ·obtain⟨y,hy⟩:∃y,l[j]?=some y:=⟨l[j]'(by rw[R.out];omega),List.getElem?_eq_getElem _⟩
     have h:=HR.out;rw[←R.out] at h;obtain⟨g',o',K,T,u⟩:=gX h hy;cases T
     have E:=O ((J.trans A.out).rangeAt u)
     have Q:x.dev≠y.dev:=by
      intro e;have L:(l.map (·.dev))[k]?=some x.dev:=by rw[List.getElem?_map,Y.out];rfl
      have S:(l.map (·.dev))[j]?=some x.dev:=by rw[List.getElem?_map,hy,e];rfl
      have:=((List.getElem?_inj (List.getElem?_eq_some_iff.1 L).1 X.out).1 (L.trans S.symm))
      omega
     have qe:(x.dev == y.dev)=false:=by rw[beq_eq_false_iff_ne];exact Q
     have F:=O (A.blk U.out id);have qf:(0:Int)≤(j:Int):=by omega
     have qg:(j:Int)<(k:Int):=by omega
     have qh:(j:Int)<(n:Int):=by omega
     have C:=lN wr;clear hy h u Q
     go_wp2_with (first
      | refine ldM g (o+j*2) (aO y) E.out bT (by rw[bG];exact jK) ?_
      | refine alA xC ?_)
     intro b6 w3 z t c
     go_wp2_with ((with_reducible show WL _ _);refine sta 59 (.tmp 6) (.tmp 21) b6 0 (aO y) c (by first|decide|(rw[List.size_toArray,bG];exact Nat.le_refl _)|simp[bG]) (by rw[bG];exact jK) (bP _) ?_)
     intro w4 r H;rw[aS _ _ (by first|rfl|(rw[List.size_toArray,bG];rfl)|simp[bG])] at H;replace r:=tX t r (fun i hi e=>by omega);replace C:=lW C z r H;replace E:=O (r.rangeAt E.out);replace F:=O (r.blk F.out id);clear z r H t c;have c1:w4.cell? ⟨b4,0,none⟩=some (.int .i64 x.dev):=aC (i:=0) F.out rfl;have c2:w4.cell? ⟨b6,0,none⟩=some (.int .i64 y.dev):=aC (i:=0) (C.b 0) rfl;have G:=O (A.trans C.keep);go_wp2
     go_roundw
     case rel=>exact⟨j+1,by omega,by go_num,G⟩
     case measure=>simp[intOf];omega
    ·obtain rfl:k=j:=by omega
     have G:=O (J.trans A.out);go_wp2
     go_roundw
     case rel=>exact⟨k+1,by omega,by go_num,G⟩
     case measure=>simp[intOf];omega
  ·obtain rfl:n=k:=by omega
   go_wp2;go_ret;exact aH.of V.out
def qZ(w:World)(a:Nat)(B:Nat->Prop)(D Z:Nat)(Mm:Nat->Nat->List UInt8)(nw:Nat)(l:List Ad)(b:List UInt8)(e:Ending)(h:World):Prop:=
 e=.returned (.tuple #[.int .i64 (l.length:Int),.int .i64 0])/\∃c,bQ h a c D Z (lV b l Mm) (nw+l.length)/\(∀k,c k->B k\/w.heap.size≤k)/\aA B w h
theorem qZ.keep{c j:World}{l:List Ad}{e:Ending}(h:qZ w a B D Z Mm nw l b e c)(k:aA aB c j):qZ w a B D Z Mm nw l b e j:=by
 obtain⟨o,n,r,t,u⟩:=h;exact⟨o,n,r.keep0 k,t,u.trans k.any⟩
structure MPI(w wr:World)(a:Nat)(B Bk:Nat->Prop)(D Z:Nat)(Mm:Nat->Nat->List UInt8)(nw k:Nat)(l:List Ad)(b:List UInt8):Prop where
 arr:bQ wr a Bk D Z (lV b (l.take k) Mm) (nw+k)
 grow:∀i,Bk i->B i\/w.heap.size≤i
 keep:aA B w wr
theorem MW(h:bQ w a B D Z Mm nw)(hm:eV w m a)(qw:¬B m)(v:Value)(l:List Ad)(hr:Rd w 2 v l.length (aR l))(hl:∀x∈l,eF x D Z)(qu:(l.map (·.dev)).Nodup)(qv:kR l)(h1:1≤l.length)(h3:l.length≤3)
 (hv:∀i,v.ownBlock=some i->¬B i) (X:Value) (b:List UInt8) (za:b.length=256) (hb:Rd w 1 X 256 (b.map vb)) (qx:∀i,X.ownBlock=some i->¬B i) (hn:nw<90000000000) :
 Calls prog 150 #[.pointer m,v,X] w (qZ w a B D Z Mm nw l b):=by
 obtain⟨oa,ca,rfl,-,-⟩:=hr.form
 obtain⟨g2,o2,c2,rfl⟩:∃g o c,X=.slice (some ⟨g,o,none⟩) 256 c:=by
  obtain⟨h1,a',c',rfl,-,-,-,h4⟩:=hb;obtain⟨g,o,rfl,hc⟩:=h4 (by rw[h1];decide);exact⟨g,o,c',rfl⟩
 obtain⟨n,V⟩:=zX9 l.length
 have HN:=O V
 have qr:oa=none\/∃g o,oa=some ⟨g,o,none⟩/\g<w.heap.size:=by
  obtain⟨L,a',c',he,-,-,-,h4⟩:=hr;obtain⟨g,o,rfl,hc⟩:=h4 (by rw[L];omega);cases he
  obtain⟨u,hu⟩:∃u,(aR l)[0]?=some u:=⟨_,List.getElem?_eq_getElem (by rw[L];omega)⟩
  exact .inr ⟨g,o,rfl,World.block_lt_of_cell? w _ (hc 0 u hu)⟩
 have zi:m<w.heap.size:=lt_of_block hm
 have qe:g2<w.heap.size:=by
  obtain⟨L,a',c',he,-,-,-,h4⟩:=hb;obtain⟨g,o,e,hc⟩:=h4 (by rw[L];decide);cases he;cases e
  obtain⟨u,hu⟩:∃u,(b.map vb)[0]?=some u:=⟨_,List.getElem?_eq_getElem (by rw[L];decide)⟩
  exact World.block_lt_of_cell? w _ (hc 0 u hu)
 rw[V] at hr h1 h3 hv ⊢;have e1:¬((n:Int)<1):=by omega
 have e3:¬(3<(n:Int)):=by omega
 have R:=O h;have t:=O hm;have T:=O hr;have C:=O hb;have qi:=O hl;have qz:=O qu;have q0:=O qv;have HV:=O hv;have qm:=O qx;have zk:=O qr;have HS:=O (by have:=xK h hm _ l (by rw[V];exact hr) hl;exact this);have qb:=O (aA.refl aB w);clear h hm hr hb hl qu qv hv qx V qr;have z:=lN w;go_in;clear HS qb;go_wp2_with fail;refine(CM w m a t.out).mono ?_;rintro e w1 ⟨rfl,j⟩;replace z:=kL z j;replace R:=O (R.keep0 j);replace t:=O (j.blk t.out id);replace T:=O (T.keep j fun _ _=>id);replace C:=O (C.keep j fun _ _=>id);clear j;go_wp2_with fail;refine(xK R.out t.out _ l (by rw[HN.out];exact T.out) qi.out).mono ?_;rintro e w2 ⟨rfl,j⟩;replace z:=kL z j;replace R:=O (R.keep0 j);replace t:=O (j.blk t.out id);replace T:=O (T.keep j fun _ _=>id);replace C:=O (C.keep j fun _ _=>id);clear j;go_wp2_with fail;refine(IL w2 _ l (by rw[HN.out];exact T.out) qz.out q0.out).mono ?_;rintro e w3 ⟨rfl,j⟩;replace z:=kL z j;replace R:=O (R.keep0 j);replace t:=O (j.blk t.out id);replace T:=O (T.keep j fun _ _=>id);replace C:=O (C.keep j fun _ _=>id);clear j;go_wp2_with fail;have H0:Hid (MPI w3 w3 a B B D Z Mm nw 0 l b):=O ⟨by rw[List.take_zero];exact R.out,fun i h=>.inl h,aA.refl _ _⟩;have zm:m<w3.heap.size:=lt_of_block t.out;have q1:Hid (w.heap.size≤w3.heap.size):=O z.keep.size;have qb:=O z.keep;have zj:w.heap.size≤w3.heap.size:=q1.out;have q5:=O T.out;have qk:=O C.out;have qj:=O t.out
 go_loopw [8,41] (fun c i wr=>∃(k:Nat) (Y:Nat->Prop),k≤n/\i=.int .i64 k/\c=.int .i64 k/\Hid (MPI w3 wr a B Y D Z Mm nw k l b)) (fun _ i _=>n-(intOf i).toNat)
 case atStart=>exact⟨0,B,by omega,rfl,rfl,H0⟩
 case round =>
  clear H0 z R;obtain⟨k,Y,j,rfl,rfl,Q⟩:=hrel
  by_cases zb:k<n
  ·obtain⟨x,hx⟩:∃x,l[k]?=some x:=⟨l[k]'(by rw[HN.out];exact zb),List.getElem?_eq_getElem _⟩
   obtain⟨d,s,rfl,hd,zn,zg⟩:=mM (qi x (List.mem_of_getElem? hx));have qc:=O Q.keep;have qg:=q5.keep qc.out HV.out;rw[←HN.out] at qg;obtain⟨g,o,zh,hv,qp⟩:=gX qg hx;obtain rfl:oa=some ⟨g,o,none⟩:=by cases hv;rfl
   have HX:=O qp;have q9:=O hx;have zd:¬Y g2:=fun e=>(Q.grow g2 e).elim (qm g2 rfl) (by omega)
   have zf:¬Y m:=fun e=>(Q.grow m e).elim qw (by omega)
   have r:=O (qk.keep qc.out qm.out);have y:Hid (eV wr m a):=O (qc.blk qj.out qw);have A:=O Q.arr;have z:=O (Loc.nil Y Y wr);have qf:(0:Int)≤(k:Int):=by omega
   have zl:(k:Int)<(n:Int):=by omega
   have ze:nw+k<100000000000:=by omega
   clear hx qg qp hv
   go_wp2_with (first
    | refine ldM g (o+k*2) (aO ⟨(d:Int),(s:Int)⟩) HX.out bT (by rw[bG];exact jK) ?_
    | refine alA xC ?_)
   intro I w4 qq qf qa
   go_wp2_with ((with_reducible show WL _ _);refine sta 59 (.tmp 10) (.tmp 44) I 0 (aO ⟨(d:Int),(s:Int)⟩) qa (by first|decide|(rw[List.size_toArray,bG];exact Nat.le_refl _)|simp[bG]) (by rw[bG];exact jK) (bP _) ?_)
   intro w5 j hb;rw[aS _ _ (by first|rfl|(rw[List.size_toArray,bG];rfl)|simp[bG])] at hb;replace j:=tX qf j (fun i hi e=>by omega);replace z:=O (z.new (fun _ j=>A.lt j) qq j hb);replace HX:=O (j.rangeAt HX.out);replace A:=O (A.keep0 j);replace y:=O (j.blk y.out id);replace r:=O (r.keep j fun _ _=>id);clear qq j hb qf qa;clear HX;go_wp2_with fail;refine dwA Y (by kernel_rfl) ?_;intro w6 S H ql J K;replace z:=kL z K;replace A:=O (A.keep0 K);replace y:=O (K.blk y.out id);replace r:=O (r.keep K fun _ _=>id);clear K;have F:=z;have qh:=A;have G:=y;have qd:=r;refine tna 0 (.pointer m) rfl J ?_;refine tnb 1 (.pointer m) rfl J ?_;refine tnb 2 (.pointer m) rfl J ?_;refine tnd 3 (.pointer a) rfl (.inl ⟨by rfl,fun w' P=>by have c:World.cell? w' ⟨m,0,none⟩=some (.pointer a):=(H w' P).cell (eV.c0 G.out) zf;go_simp⟩) J ?_;refine tnb 4 (.pointer I) rfl J ?_;refine tnd 5 (.int .i64 (d:Int)) rfl (.inl ⟨by rfl,fun w' P=>by have c:World.cell? w' ⟨I,0,none⟩=some (.int .i64 (d:Int)):=(aC (i:=0) ((H w' P).blk (F.b 0) ((F.aq 0))) rfl);go_simp⟩) J ?_;refine tnb 6 (.pointer (some ⟨I,1,none⟩)) rfl J ?_;refine tnd 7 (.int .i64 (s:Int)) rfl (.inl ⟨by rfl,fun w' P=>by have c:World.cell? w' ⟨I,1,none⟩=some (.int .i64 (s:Int)):=(aC (i:=1) ((H w' P).blk (F.b 0) ((F.aq 0))) rfl);go_simp⟩) J ?_;refine tna 8 (.slice (some ⟨g2,o2,none⟩) 256 c2) rfl J ?_;refine wA9 9 ?_;go_wp2_with fail;refine(qA A.out hd zg b za _ r.out (fun i hi=>by cases hi;exact zd) ze).mono ?_;rintro e w7 ⟨rfl,B2,qo,qe,E⟩;have qn:=ql.out _ ((H _ J).trans E);have qt:=Q.keep.trans' ((z.keep).trans E) (U:=B) (fun _ _ h=>h) (fun i hi e=>(Q.grow i e).elim id (fun h=>absurd hi (by omega)));have qy:Hid (MPI w3 w7 a B B2 D Z Mm nw (k+1) l b):=O ⟨by rw[List.take_add_one,q9.out];show bQ _ _ _ _ _ (lV b (l.take k++[⟨(d:Int),(s:Int)⟩]) Mm) _;rw[CJ];exact qo,fun i hi=>(qe i hi).elim (fun h=>Q.grow i h) (fun h=>.inr (Nat.le_trans (Nat.le_trans Q.keep.size z.keep.size) h)),qt⟩;clear qo qe E qt J;go_wp2_with fail;refine⟨qn,?_⟩;refine wpAnyH_done (by kernel_rfl) ?_ _;clear qn H ql F qh G qd;clear z A y r;go_wp2
   go_roundw
   case rel=>exact⟨k+1,_,by omega,by go_num,by go_num,qy⟩
   case measure=>simp[intOf];omega
  ·obtain rfl:n=k:=by omega
   have HP:Hid (qZ w a B D Z Mm nw l b (.returned (.tuple #[.int .i64 (n:Int),.int .i64 0])) wr):=O (by
    have h:=Q.out;refine⟨by rw[HN.out],Y,?_,fun i hi=>(h.grow i hi).imp id fun h=>by omega,qb.any.trans h.keep⟩;have ha:=h.arr;rw[List.take_of_length_le (by rw[HN.out];exact Nat.le_refl _)] at ha;rw[HN.out];exact ha)
   clear Q;go_wp2_with fail;refine(MU wr n (by omega)).mono ?_;rintro e w2 ⟨rfl,E⟩;have q3:=O (HP.keep E);clear E HP;go_wp2
   go_ret2
   exact q3.out
theorem iT{α β:Type}{l:List α}{f g:α->List β}(h:∀a∈l,f a=g a):l.flatMap f=l.flatMap g:=by
 induction l with
 | nil=>rfl
 | cons a l e=>rw[List.flatMap_cons,List.flatMap_cons,h a (List.mem_cons_self ..),e fun x c=>h x (List.mem_cons_of_mem _ c)]
def thr(f:Pt->Bool):Nat->Tr->Nat->List (Pt×Nat)
 | 0,t,a=>if t.isHole || !f t.ptr then [] else [(t.ptr,a)]
 | l+1,t,a=>if t.isHole || !f t.ptr then [] else (t.ptr,a)::(List.range 4).flatMap fun i=>thr f l (t.kid i) (a+i*4 ^ l)
def fJ:Pt->Bool:=fun _=>true
def aV(x:Int):Pt->Bool:=fun p=>decide (x<p.birth)
theorem Aw(f:Pt->Bool)(l a:Nat):thr f l .hole a=[]:=by cases l<;>rfl
theorem fF(f:Pt->Bool)(t:Tr)(a:Nat):thr f 0 t a=if t.isHole || !f t.ptr then [] else [(t.ptr,a)]:=rfl
theorem eR(f:Pt->Bool)(l:Nat)(t:Tr)(a:Nat):thr f (l+1) t a=if t.isHole || !f t.ptr then [] else (t.ptr,a)::(List.range 4).flatMap fun i=>thr f l (t.kid i) (a+i*4 ^ l):=rfl
def sW:Nat->Tr->Prop
 | 0,_=>True
 | l+1,t=>∀i,i<4->((t.kid i).isHole=true\/(t.kid i).ptr.birth≤t.ptr.birth)/\sW l (t.kid i)
theorem C8:∀l,sW l .hole
 | 0=>trivial
 | l+1=>fun i _=>⟨.inl rfl,C8 l⟩
theorem Tr.Ok.born{S:Kor}{t:Tr}(h:Tr.Ok S l t)(c:t.isHole=false):1≤t.ptr.birth/\t.ptr.birth≤S.txg+1/\t.ptr.level=(l:Int):=by
 cases t with
 | hole=>cases c
 | leaf p b=>cases l with
   | zero=>exact⟨h.1.born.1,h.1.born.2,h.1.lev⟩
   | succ l=>exact h.elim
 | node p k=>cases l with
   | zero=>exact h.elim
   | succ l=>exact⟨h.1.born.1,h.1.born.2,h.1.lev⟩
theorem Ce{S:Kor}:∀{l:Nat}{t:Tr},Tr.Ok S l t->∀{f:Pt->Bool}{a:Nat}{x:Pt×Nat},x∈thr f l t a->f x.1=true/\1≤x.1.birth/\0≤x.1.level/\x.1.level≤(l:Int)/\a≤x.2/\x.2<a+4 ^ l/\x.1.addrs≠[]/\∀y∈x.1.addrs,y∈S.L
 | 0,t,h,f,a,x,c=>by
   rw[fF] at c
   by_cases e:(t.isHole || !f t.ptr)=true
   ·rw[if_pos e] at c;cases c
   ·rw[if_neg e] at c
    simp only[Bool.or_eq_true,not_or,Bool.not_eq_true,Bool.not_eq_false'] at e;obtain rfl:=List.mem_singleton.1 c;obtain⟨k,C,E⟩:=h.born e.1;obtain⟨n,o⟩:=h.lies e.1;exact⟨e.2,k,by show 0≤t.ptr.level;omega,by show t.ptr.level≤_;omega,Nat.le_refl _,by show a<a+4 ^ 0;rw[Nat.pow_zero];omega,n,o⟩
 | l+1,t,h,f,a,x,c=>by
   have J:0<4 ^ l:=Nat.pos_of_ne_zero (by simp);have F:4 ^ (l+1)=4*4 ^ l:=by rw[Nat.pow_succ,Nat.mul_comm]
   rw[eR] at c
   by_cases e:(t.isHole || !f t.ptr)=true
   ·rw[if_pos e] at c;cases c
   ·rw[if_neg e] at c
    simp only[Bool.or_eq_true,not_or,Bool.not_eq_true,Bool.not_eq_false'] at e;rcases List.mem_cons.1 c with rfl|c
    ·obtain⟨k,C,E⟩:=h.born e.1
     obtain⟨n,o⟩:=h.lies e.1;exact⟨e.2,k,by show 0≤t.ptr.level;omega,by show t.ptr.level≤_;omega,Nat.le_refl _,by show a<a+4 ^ (l+1);omega,n,o⟩
    ·obtain⟨i,j,c⟩:=List.mem_flatMap.1 c
     have j:=List.mem_range.1 j;obtain⟨r,u,v,G,H,I,z,A⟩:=Ce (h.kid j) c
     have:i*4 ^ l+4 ^ l≤4*4 ^ l:=by
      have:=Nat.mul_le_mul_right (4 ^ l) (Nat.succ_le_of_lt j);rw[Nat.succ_mul] at this;exact this
     exact⟨r,u,v,by omega,by omega,by omega,z,A⟩
theorem sW.le{S:Kor}:∀{l:Nat}{t:Tr},Tr.Ok S l t->sW l t->∀{f:Pt->Bool}{a:Nat}{x:Pt×Nat},x∈thr f l t a->x.1.birth≤t.ptr.birth
 | 0,t,h,k,f,a,x,c=>by
   rw[fF] at c;split at c
   ·cases c
   ·obtain rfl:=List.mem_singleton.1 c
    exact Int.le_refl _
 | l+1,t,h,k,f,a,x,c=>by
   rw[eR] at c;split at c
   ·cases c
   ·rcases List.mem_cons.1 c with rfl|c
    ·exact Int.le_refl _
    ·obtain⟨i,j,c⟩:=List.mem_flatMap.1 c
     have j:=List.mem_range.1 j;obtain⟨e,n⟩:=k i j;have o:=sW.le (h.kid j) n c;rcases e with e|e
     ·rw[fG e,Aw] at c;cases c
     ·exact Int.le_trans o e
theorem C9{S:Kor}(x:Int):∀{l:Nat}{t:Tr},Tr.Ok S l t->sW l t->∀(a:Nat),thr (aV x) l t a=(thr fJ l t a).filter fun p=>aV x p.1
 | 0,t,h,e,a=>by
   rw[fF,fF];cases k:t.isHole with
   | true=>rfl
   | false =>
     cases c:aV x t.ptr with
     | true=>simp[fJ,c]
     | false=>simp[fJ,c]
 | l+1,t,h,e,a=>by
   rw[eR,eR];cases k:t.isHole with
   | true=>rfl
   | false =>
     cases c:aV x t.ptr with
     | true =>
       simp only[fJ,Bool.not_true,Bool.false_eq_true,if_false,List.filter_cons,c,if_true,List.filter_flatMap,Bool.or_self]
       congr 1
       have:∀i∈List.range 4,thr (aV x) l (t.kid i) (a+i*4 ^ l)=(thr fJ l (t.kid i) (a+i*4 ^ l)).filter fun p=>aV x p.1:=fun i n=>C9 x (h.kid (List.mem_range.1 n)) (e i (List.mem_range.1 n)).2 _
       rw[iT this]
     | false =>
       simp only[fJ,Bool.not_true,Bool.not_false,Bool.or_true,Bool.or_false,Bool.false_eq_true,if_false,if_true];symm;rw[List.filter_eq_nil_iff];intro y o;have j:y∈thr fJ (l+1) t a:=by rw[eR,k];exact o
       have:=sW.le h e j;unfold aV at c ⊢;simp only[decide_eq_false_iff_not,decide_eq_true_eq] at c ⊢;omega
def cR(l:Nat)(t:Tr):List Pt:=(thr fJ l t 0).map fun x=>x.1
def eH(l:Nat)(t:Tr):List Ad:=(thr fJ l t 0).flatMap fun x=>x.1.addrs
theorem Fj(f:Pt->Bool):∀(l:Nat) (t:Tr) (a b:Nat),(thr f l t (a+b))=(thr f l t a).map fun x=>(x.1,x.2+b)
 | 0,t,a,b=>by rw[fF,fF];split<;>rfl
 | l+1,t,a,b=>by
   rw[eR,eR];split
   ·rfl
   ·rw[List.map_cons,List.map_flatMap]
    congr 1
    refine iT fun i _=>?_
    rw[show a+b+i*4 ^ l=a+i*4 ^ l+b by omega,Fj f l (t.kid i) _ b]
theorem Pm(l:Nat)(t:Tr)(a:Nat):((thr fJ l t a).flatMap fun x=>x.1.addrs)=eH l t:=by
 unfold eH;have:=Fj fJ l t 0 a;rw[Nat.zero_add] at this;rw[this,List.flatMap_map]
theorem Da(l:Nat):eH l .hole=[]:=by unfold eH;rw[Aw];rfl
theorem Lr(t:Tr):eH 0 t=if t.isHole then [] else t.ptr.addrs:=by
 unfold eH;rw[fF];cases t.isHole<;>simp[fJ]
theorem Db(l:Nat)(t:Tr):eH (l+1) t=if t.isHole then [] else t.ptr.addrs++(List.range 4).flatMap fun i=>eH l (t.kid i):=by
 unfold eH;rw[eR];cases t.isHole with
 | true=>rfl
 | false =>
   simp only[fJ,Bool.not_true,Bool.false_eq_true,if_false,List.flatMap_cons,List.flatMap_assoc,Bool.or_self]
   congr 1
   exact iT fun i _=>Pm l (t.kid i) _
theorem Hc(l:Nat)(t:Tr)(a:Nat):((thr fJ l t a).map fun x=>x.1)=cR l t:=by
 unfold cR;have:=Fj fJ l t 0 a;rw[Nat.zero_add] at this;rw[this,List.map_map];rfl
theorem sD(l:Nat):cR l .hole=[]:=by unfold cR;rw[Aw];rfl
theorem Dc(t:Tr):cR 0 t=if t.isHole then [] else [t.ptr]:=by
 unfold cR;rw[fF];cases t.isHole<;>simp[fJ]
theorem xV(l:Nat)(t:Tr):cR (l+1) t=if t.isHole then [] else t.ptr::(List.range 4).flatMap fun i=>cR l (t.kid i):=by
 unfold cR;rw[eR];cases t.isHole with
 | true=>rfl
 | false =>
   simp only[fJ,Bool.not_true,Bool.false_eq_true,if_false,List.map_cons,List.map_flatMap,Bool.or_self]
   congr 1
   exact iT fun i _=>Hc l (t.kid i) _
theorem Fk{t:Tr}{a:Ad}:a∈eH l t↔∃x∈cR l t,a∈x.addrs:=by
 unfold eH cR;rw[List.mem_flatMap];constructor
 ·rintro⟨x,c,e⟩;exact⟨x.1,List.mem_map.2 ⟨x,c,rfl⟩,e⟩
 ·rintro⟨x,c,e⟩
  obtain⟨y,h,rfl⟩:=List.mem_map.1 c;exact⟨y,h,e⟩
theorem Bt{S:Kor}(k:S.Bd){T:Kor}(h:S.put lv b=some (p,T)):p.addrs.length=S.cp/\p.birth=S.txg+1/\p.level=(lv:Int):=by
 unfold Kor.put at h;cases e:cF (cI S.L S.D S.Z) S.allUp S.cp with
 | none=>rw[e] at h;cases h
 | some l =>
   rw[e] at h;have h:=Option.some.inj h;injection h with j n
   subst j;refine⟨?_,rfl,rfl⟩;show (bF S.L S.Z l).length=S.cp
   have c:upN S.allUp=S.D:=by
    unfold upN Kor.allUp;rw[List.countP_replicate];rfl
   rw[mL,(fA e).2.1];unfold kP;rw[c];exact Nat.min_eq_left k.cD
def dP(S:Kor)(l:Nat)(t u:Tr):Prop:=∀x∈cR l u,x∈cR l t\/(x.addrs.length=S.cp/\∀a∈x.addrs,a ∉ S.L)
theorem dP.ads{S:Kor}{t u:Tr}(h:dP S l t u):∀a∈eH l u,a∈eH l t\/a ∉ S.L:=fun a j=>by
 obtain⟨x,e,c⟩:=Fk.1 j;exact(h x e).imp (fun h=>Fk.2 ⟨x,h,c⟩) fun h=>h.2 a c
theorem dP.refl(S:Kor)(l:Nat)(t:Tr):dP S l t t:=fun x c=>.inl c
theorem dP.hole(S:Kor)(l:Nat)(t:Tr):dP S l t .hole:=fun x c=>by rw[sD] at c;cases c
theorem dP.trans{S T:Kor}{t u v:Tr}(h:dP S l t u)(e:Ext S T)(k:dP T l u v):dP S l t v:=fun x o=>(k x o).elim (h x) fun c=>.inr ⟨c.1.trans e.cp,fun a j n=>c.2 a j (e.L a n)⟩
theorem NB{t:Tr}(i:Nat)(h:i<4):∀a∈cR l (t.kid i),a∈cR (l+1) t:=fun a c=>by
 rw[xV];cases e:t.isHole with
 | true =>
   rw[fG e] at c;rw[show Tr.kid .hole i=.hole from rfl,sD] at c;cases c
 | false=>exact List.mem_cons_of_mem _ (List.mem_flatMap.2 ⟨i,List.mem_range.2 h,c⟩)
theorem Hd{S:Kor}{t:Tr}(h:Tr.Ok S l t):∀a∈eH l t,a∈S.L:=fun a c=>by
 unfold eH at c;obtain⟨x,j,e⟩:=List.mem_flatMap.1 c;exact(Ce h j).2.2.2.2.2.2.2 a e
theorem Bu{A:Nat->List Ad}:((List.range 4).flatMap A).Nodup↔(∀i,i<4->(A i).Nodup)/\∀i j,i<4->j<4->i≠j->∀x∈A i,∀y∈A j,x≠y:=by
 unfold List.Nodup;rw[List.pairwise_flatMap];constructor
 ·rintro⟨t,e⟩
  refine⟨fun i c=>t i (List.mem_range.2 c),fun i j c k u x o y r=>?_⟩;rw[List.pairwise_iff_getElem] at e;rcases Nat.lt_or_gt_of_ne u with h|h
  ·have:=e i j (by simpa using c) (by simpa using k) h
   simp only[List.getElem_range] at this;exact this x o y r
  ·have:=e j i (by simpa using k) (by simpa using c) h
   simp only[List.getElem_range] at this;exact(this y r x o).symm
 ·rintro⟨t,e⟩
  refine⟨fun i c=>t i (List.mem_range.1 c),List.Pairwise.imp_of_mem ?_ (List.nodup_range (n:=4))⟩;intro i j c k u x o y r;exact e i j (List.mem_range.1 c) (List.mem_range.1 k) u x o y r
structure eS(S:Kor)(l:Nat)(t:Tr):Prop where
 ok:Tr.Ok S l t
 aged:sW l t
 apart:(eH l t).Nodup
theorem eS.hole(S:Kor)(l:Nat):eS S l .hole:=⟨Tr.ok_hole S l,C8 l,by rw[Da];exact List.nodup_nil⟩
theorem eS.ext{S T:Kor}{t:Tr}(h:eS S l t)(e:Ext S T):eS T l t:=⟨h.ok.ext e,h.aged,h.apart⟩
structure rG(S T:Kor)(l:Nat)(t:Tr)(k:Nat->Tr):Prop where
 ext:Ext S T
 ok:∀i,i<4->Tr.Ok T l (k i)
 aged:∀i,i<4->sW l (k i)
 nd:∀i,i<4->(eH l (k i)).Nodup
 old:∀i,i<4->dP S l (t.kid i) (k i)
 ap:∀i j,i<4->j<4->i≠j->∀x∈eH l (k i),∀y∈eH l (k j),x≠y
theorem eS.kids{S:Kor}{t:Tr}(h:eS S (l+1) t):(∀i,i<4->(eH l (t.kid i)).Nodup)/\∀i j,i<4->j<4->i≠j->∀x∈eH l (t.kid i),∀y∈eH l (t.kid j),x≠y:=by
 have:=h.apart;rw[Db] at this;cases c:t.isHole with
 | true =>
   have e:∀i,eH l (t.kid i)=[]:=fun i=>by rw[fG c];exact Da l
   exact⟨fun i _=>by rw[e];exact List.nodup_nil,fun i j _ _ _ x k=>by rw[e] at k;cases k⟩
 | false =>
   rw[c] at this;exact Bu.1 (List.nodup_append.1 this).2.1
theorem eS.parts{S:Kor}{t:Tr}(h:eS S (l+1) t):rG S S l t t.kid:=
 ⟨Ext.refl S,fun i c=>h.ok.kid c,fun i c=>(h.aged i c).2,h.kids.1,fun i c=>dP.refl S l _,h.kids.2⟩
theorem eS.kid{S:Kor}{t:Tr}(h:eS S (l+1) t)(c:i<4):eS S l (t.kid i):=⟨h.ok.kid c,(h.aged i c).2,h.kids.1 i c⟩
theorem rG.put{S T U:Kor}{t:Tr}{k:Nat->Tr}(h:rG S T l t k)(H:i<4)(I:k i=t.kid i){u:Tr}(e:Ext T U)(A:eS U l u)(E:dP T l (t.kid i) u):rG S U l t (eN k i u):=by
 have v:∀j,j<4->j≠i->∀x∈eH l (k j),∀y∈eH l u,x≠y:=fun j n o x r y C=>by
  rcases E.ads y C with z|z
  ·exact h.ap j i n H o x r y (by rw[I];exact z)
  ·rintro rfl
   exact z (Hd (h.ok j n) x r)
 refine⟨h.ext.trans e,fun j n=>?_,fun j n=>?_,fun j n=>?_,fun j n=>?_,fun j q n F o=>?_⟩
 ·by_cases c:j=i
  ·rw[c,eU];exact A.ok
  ·rw[eA _ _ c];exact(h.ok j n).ext e
 ·by_cases c:j=i
  ·rw[c,eU];exact A.aged
  ·rw[eA _ _ c];exact h.aged j n
 ·by_cases c:j=i
  ·rw[c,eU];exact A.apart
  ·rw[eA _ _ c];exact h.nd j n
 ·by_cases c:j=i
  ·rw[c,eU];exact fun x r=>(E x r).imp id fun o=>⟨o.1.trans h.ext.cp,fun a G J=>o.2 a G (h.ext.L a J)⟩
  ·rw[eA _ _ c];exact h.old j n
 ·by_cases c:j=i
  ·subst c
   rw[eU,eA _ _ (Ne.symm o)];exact fun x r y C=>(v q F (Ne.symm o) y C x r).symm
  ·rw[eA _ _ c]
   by_cases d:q=i
   ·subst d
    rw[eU];exact v j n o
   ·rw[eA _ _ d]
    exact h.ap j q n F o
theorem Lt{S:Kor}(n:S.Bd)(o:b.length=256){u:Tr}{T:Kor}(h:S.leaf b=(some u,T))(t:Tr):eS T 0 u/\dP S 0 t u:=by
 have h0:=GY n o h;unfold Kor.leaf at h
 by_cases v:b=zB
 ·rw[if_pos v] at h
  injection h with c j
  injection c with c
  subst c j;exact⟨eS.hole S 0,dP.hole _ _ _⟩
 ·rw[if_neg v] at h
  cases k:S.put 0 b with
  | none=>rw[k] at h;injection h with c j;cases c
  | some x =>
    obtain⟨p,U⟩:=x;rw[k] at h;injection h with c j
    injection c with c
    subst c j;obtain⟨A,C,E,F,-,y,z,-⟩:=qX n (by omega) o k;have e:eH 0 (.leaf p b)=p.addrs:=by rw[Lr];rfl
    refine⟨⟨(h0.2 _ rfl).1,trivial,by rw[e];exact z⟩,fun x r=>.inr ?_⟩;rw[Dc] at r;obtain rfl:=List.mem_singleton.1 r;exact⟨(Bt n k).1,y⟩
theorem rG.lay{S T U:Kor}{t:Tr}{k:Nat->Tr}(h:rG S T l t k)(z:T.Bd)(K:l≤2){u:Tr}(n:T.lay (l+1) k=(some u,U)):eS U (l+1) u/\dP S (l+1) t u:=by
 have h0:=EN z K h.ok n;unfold Kor.lay at n
 by_cases G:gK k=true
 ·rw[if_pos G] at n
  injection n with j r
  injection j with j
  subst j r;exact⟨eS.hole _ _,dP.hole _ _ _⟩
 ·rw[if_neg G] at n
  cases v:T.put (l+1) (cX (l+1) (fI k)) with
  | none=>rw[v] at n;injection n with j r;cases j
  | some x =>
    obtain⟨p,V⟩:=x;rw[v] at n;injection n with j r
    injection j with j
    subst j r;obtain⟨P,Q,R,X,H,E,I,-⟩:=qX z (by omega) (BV h.ok) v;have e:eH (l+1) (.node p k)=p.addrs++(List.range 4).flatMap fun i=>eH l (k i):=by rw[Db];rfl
    refine⟨⟨(h0.2 _ rfl).1,fun i o=>⟨?_,h.aged i o⟩,?_⟩,?_⟩
    ·cases F:(k i).isHole with
     | true=>exact .inl F
     | false =>
       right;show (k i).ptr.birth≤p.birth;rw[H];exact((h.ok i o).born F).2.1
    ·rw[e,List.nodup_append]
     refine⟨I,Bu.2 ⟨h.nd,h.ap⟩,fun x c y C A=>?_⟩;obtain⟨i,o,C⟩:=List.mem_flatMap.1 C;rw[A] at c;exact E y c (Hd (h.ok i (List.mem_range.1 o)) y C)
    ·intro x c
     have c:x∈p::(List.range 4).flatMap fun i=>cR l (k i):=by rw[xV] at c;exact c
     rcases List.mem_cons.1 c with rfl|c
     ·exact .inr ⟨(Bt z v).1.trans h.ext.cp,fun a J L=>E a J (h.ext.L a L)⟩
     ·obtain⟨i,o,c⟩:=List.mem_flatMap.1 c
      exact(h.old i (List.mem_range.1 o) x c).imp (NB i (List.mem_range.1 o) x) id
theorem xW(c:b.length=256)(n:Nat):∀{l:Nat},l≤3->∀{S:Kor}{t:Tr},S.Bd->eS S l t->∀{u:Tr}{T:Kor},eD l S t n b=(some u,T)->eS T l u/\dP S l t u
 | 0,_,S,t,e,j,u,T,h=>by
   exact Lt e c h t
 | l+1,F,S,t,e,j,u,T,h=>by
   unfold eD at h;cases k:eD l S (t.kid (n / 4 ^ l % 4)) n b with
   | mk z A =>
     rw[k] at h;cases z with
     | none=>injection h with r E;cases r
     | some G =>
       obtain⟨o,C⟩:=qI c n (by omega) e (j.ok.kid (eO n l)) k;obtain⟨v,y⟩:=xW c n (by omega) e (j.kid (eO n l)) k;exact(j.parts.put (eO n l) rfl o.ext v y).lay o.bd (by omega) h
theorem Dd{t:Tr}{S:Kor}(G:l≤2)(C:S.Bd)(v:eS S (l+1) t)
 (hcut:∀{S:Kor}{t:Tr}{f g:Int}{u:Tr}{T:Kor},S.Bd->eS S l t->bY l S t f g=(some u,T)->eS T l u/\dP S l t u) :
 ∀(j:Nat),j≤4->∀{k:Nat->Tr}{r:Bool}{T:Kor},gG (bY l) W S t f g j=(some (k,r),T)->rG S T l t k/\T.Bd/\∀i,j≤i->k i=t.kid i
 | 0,_,k,r,T,h=>by
   unfold gG at h;injection h with e n
   injection e with e
   injection e with e c
   subst e n;exact⟨v.parts,C,fun i _=>rfl⟩
 | j+1,P,k,r,T,h=>by
   unfold gG at h;cases e:gG (bY l) W S t f g j with
   | mk o y =>
     rw[e] at h;cases o with
     | none=>injection h with n c;cases n
     | some x =>
       obtain⟨Q,c1⟩:=x;obtain⟨F,b1,o⟩:=Dd G C v hcut j (by omega) e;simp only[] at h;cases n:bY l y (t.kid j) (f-j*W) (g-j*W) with
       | mk H I =>
         rw[n] at h;cases H with
         | none=>injection h with c A;cases c
         | some u =>
           have E:eS y l (t.kid j):=(v.kid (by omega)).ext F.ext;obtain⟨z,J⟩:=tJ (by omega) b1 E.ok n;obtain⟨c3,c4⟩:=hcut b1 E n;injection h with c A
           injection c with c
           injection c with c K
           subst c A;exact⟨F.put (by omega) (o j (Nat.le_refl _)) z.ext c3 c4,z.bd,fun i L=>by rw[eA _ _ (by omega)];exact o i (by omega)⟩
theorem De:∀{l:Nat},l≤3->∀{S:Kor}{t:Tr}{f g:Int}{u:Tr}{T:Kor},S.Bd->eS S l t->bY l S t f g=(some u,T)->eS T l u/\dP S l t u
 | 0,_,S,t,f,g,u,T,k,j,h=>by
   unfold bY at h;split at h
   ·injection h with c e
    injection c with c
    subst c e;exact⟨j,dP.refl _ _ _⟩
   ·injection h with c e
    injection c with c
    subst c e;exact⟨eS.hole _ _,dP.hole _ _ _⟩
 | l+1,y,S,t,f,g,u,T,k,j,h=>by
   unfold bY at h;split at h
   ·injection h with c e
    injection c with c
    subst c e;exact⟨j,dP.refl _ _ _⟩
   ·split at h
    ·injection h with c e
     injection c with c
     subst c e;exact⟨eS.hole _ _,dP.hole _ _ _⟩
    ·cases c:gG (bY l) (4 ^ l) S t (max f 0) (min g (4 ^ (l+1))) 4 with
     | mk r v =>
       rw[c] at h;cases r with
       | none=>injection h with e n;cases e
       | some x =>
         obtain⟨z,c1⟩:=x;obtain⟨o,b1,-⟩:=Dd (by omega) k j (fun k j h=>De (by omega) k j h) 4 (by omega) c;simp only[] at h;cases c1 with
         | true=>exact o.lay b1 (by omega) h
         | false =>
           injection h with e n
           injection e with e
           subst e n;exact⟨j.ext o.ext,dP.refl _ _ _⟩
def unl:Nat->Tr->Tr->Nat->List Nat
 | 0,s,t,a=>if s.ptr.eqB t.ptr then [] else [a]
 | l+1,s,t,a=>if s.ptr.eqB t.ptr then [] else (List.range 4).flatMap fun i=>unl l (s.kid i) (t.kid i) (a+i*4 ^ l)
theorem nZ(s t:Tr)(a:Nat):unl 0 s t a=if s.ptr.eqB t.ptr then [] else [a]:=rfl
theorem iK(l:Nat)(s t:Tr)(a:Nat):unl (l+1) s t a=if s.ptr.eqB t.ptr then [] else (List.range 4).flatMap fun i=>unl l (s.kid i) (t.kid i) (a+i*4 ^ l):=rfl
theorem mA(l:Nat)(t:Tr)(a:Nat):unl l t t a=[]:=by
 cases l with
 | zero=>rw[nZ,uX];rfl
 | succ l=>rw[iK,uX];rfl
theorem Qm{y:Nat}(e:i<4)(c:y<4 ^ l):(y+i*4 ^ l) / 4 ^ l % 4=i/\(y+i*4 ^ l) % 4 ^ l=y:=by
 have h:0<4 ^ l:=Nat.pos_of_ne_zero (by simp);rw[Nat.mul_comm,Nat.add_mul_div_left _ _ h,Nat.div_eq_of_lt c,Nat.zero_add,Nat.mod_eq_of_lt e,Nat.add_mul_mod_self_left,Nat.mod_eq_of_lt c];exact⟨rfl,rfl⟩
def fU:Nat->Tr->Nat->Pt
 | 0,t,_=>t.ptr
 | l+1,t,i=>fU l (t.kid (i / 4 ^ l % 4)) i
theorem vM:∀(l i:Nat),fU l .hole i=zPt
 | 0,_=>rfl
 | l+1,i=>vM l i
theorem Tr.Ok.pmay{S:Kor}{t:Tr}(h:Tr.Ok S l t):t.ptr.may=true:=by
 cases t with
 | hole=>exact kA jC
 | leaf p b=>cases l with
   | zero=>exact h.1.may
   | succ l=>exact h.elim
 | node p k=>cases l with
   | zero=>exact h.elim
   | succ l=>exact h.1.may
theorem Df{S T:Kor}{k:Nat->Tr}{u:Tr}(h:S.lay (l+1) k=(some u,T))(i:Nat):fU (l+1) u i=fU l (k (i / 4 ^ l % 4)) i:=by
 unfold Kor.lay at h
 by_cases e:gK k=true
 ·rw[if_pos e] at h
  injection h with c j
  injection c with c
  subst c;rw[uW e (eO i l),vM,vM]
 ·rw[if_neg e] at h
  cases n:S.put (l+1) (cX (l+1) (fI k)) with
  | none=>rw[n] at h;injection h with c j;cases c
  | some x =>
    rw[n] at h;injection h with c j
    injection c with c
    subst c;rfl
theorem Bv{n:Nat}:∀{l:Nat}{S:Kor}{t u:Tr}{T:Kor},eD l S t n b=(some u,T)->i % 4 ^ l≠n % 4 ^ l->fU l u i=fU l t i
 | 0,S,t,u,T,h,c=>absurd (by rw[Nat.pow_zero,Nat.mod_one,Nat.mod_one]) c
 | l+1,S,t,u,T,h,c=>by
   unfold eD at h;cases j:eD l S (t.kid (n / 4 ^ l % 4)) n b with
   | mk r v =>
     rw[j] at h;cases r with
     | none=>injection h with o y;cases o
     | some z =>
       rw[Df h];show _=fU l (t.kid (i / 4 ^ l % 4)) i
       by_cases e:i / 4 ^ l % 4=n / 4 ^ l % 4
       ·rw[e,eU]
        exact Bv j fun k=>c ((xI i n l).2 ⟨e,k⟩)
       ·rw[eA _ _ e]
theorem Bw{t:Tr}{S:Kor}
 (hcut:∀{S:Kor}{t:Tr}{f g:Int}{u:Tr}{T:Kor},bY l S t f g=(some u,T)->∀{i:Nat},¬(f≤((i % 4 ^ l:Nat):Int)/\((i % 4 ^ l:Nat):Int)<g)->fU l u i=fU l t i) :
 ∀(j:Nat),∀{k:Nat->Tr}{r:Bool}{T:Kor},gG (bY l) W S t f g j=(some (k,r),T)->(∀q,j≤q->k q=t.kid q)/\∀q,q<j->∀i:Nat,¬(f-q*W≤((i % 4 ^ l:Nat):Int)/\((i % 4 ^ l:Nat):Int)<g-q*W)->fU l (k q) i=fU l (t.kid q) i
 | 0,k,r,T,h=>by
   unfold gG at h;injection h with n o
   injection n with n
   injection n with n c
   subst n;exact⟨fun q _=>rfl,fun q y=>by omega⟩
 | j+1,k,r,T,h=>by
   unfold gG at h;cases n:gG (bY l) W S t f g j with
   | mk F z =>
     rw[n] at h;cases F with
     | none=>injection h with o c;cases o
     | some x =>
       obtain⟨J,c1⟩:=x;obtain⟨C,E⟩:=Bw hcut j n;simp only[] at h;cases o:bY l z (t.kid j) (f-j*W) (g-j*W) with
       | mk G H =>
         rw[o] at h;cases G with
         | none=>injection h with c A;cases c
         | some u =>
           injection h with c A
           injection c with c
           injection c with c I
           subst c;refine⟨fun q y=>by rw[eA _ _ (by omega)];exact C q (by omega),fun q y i v=>?_⟩
           by_cases e:q=j
           ·subst e;rw[eU];exact hcut o v
           ·rw[eA _ _ e];exact E q (by omega) i v
theorem Bx:∀{l:Nat}{S:Kor}{t:Tr}{f g:Int}{u:Tr}{T:Kor},bY l S t f g=(some u,T)->∀{i:Nat},¬(f≤((i % 4 ^ l:Nat):Int)/\((i % 4 ^ l:Nat):Int)<g)->fU l u i=fU l t i
 | 0,S,t,f,g,u,T,h,i,j=>by
   unfold bY at h
   by_cases k:(t.isHole || decide (min g 1≤max f 0))=true
   ·rw[if_pos k] at h
    injection h with c e
    injection c with c
    subst c;rfl
   ·rw[Bool.or_eq_true,not_or,decide_eq_true_eq] at k
    rw[Nat.pow_zero,Nat.mod_one] at j;omega
 | l+1,S,t,f,g,u,T,h,i,j=>by
   have v:0<4 ^ l:=Nat.pos_of_ne_zero (by simp);obtain⟨W,n⟩:=zX9 (4 ^ l)
   have o:4 ^ (l+1)=4*W:=by rw[Nat.pow_succ,n,Nat.mul_comm]
   unfold bY at h;have y:(4:Int) ^ (l+1)=((4*W:Nat):Int):=by rw[←o];norm_cast
   have z:(4:Int) ^ l=(W:Int):=by rw[←n];norm_cast
   rw[y,z] at h;have G:=rV i l;rw[G] at j;have r:=eO i l;have F:i % 4 ^ l<4 ^ l:=Nat.mod_lt _ v;rw[n] at j v r F
   by_cases k:(t.isHole || decide (min g ((4*W:Nat):Int)≤max f 0))=true
   ·rw[if_pos k] at h
    injection h with c e
    injection c with c
    subst c;rfl
   ·rw[if_neg k] at h
    have E:i / W % 4*W+W≤4*W:=by
     have:=Nat.mul_le_mul_right W (Nat.succ_le_of_lt r);rw[Nat.succ_mul] at this;exact this
    by_cases H:min g ((4*W:Nat):Int)-max f 0=((4*W:Nat):Int)
    ·exfalso
     apply j;omega
    ·rw[if_neg H] at h
     cases c:gG (bY l) (W:Int) S t (max f 0) (min g ((4*W:Nat):Int)) 4 with
     | mk K L =>
       rw[c] at h;cases K with
       | none=>injection h with e C;cases e
       | some x =>
         obtain⟨I,c1⟩:=x;obtain⟨-,J⟩:=Bw (@fun _ _ _ _ _ _ h _ j=>Bx h j) 4 c;simp only[] at h
         have key:fU l (I (i / 4 ^ l % 4)) i=fU l (t.kid (i / 4 ^ l % 4)) i:=by
          refine J _ (eO i l) i ?_;rw[n];have A:(((i / W % 4:Nat):Int)*(W:Int))=((i / W % 4*W:Nat):Int):=by norm_cast
          rw[A];omega
         cases c1 with
         | true =>
           rw[Df h];exact key
         | false =>
           injection h with e C
           injection e with e
           subst e;rfl
def jQ(l:Nat)(t:Tr)(a:Nat):List Nat:=((thr fJ l t a).filter fun x=>x.1.level == 0).map fun x=>x.2
theorem Dg{S:Kor}{t:Tr}(h:Tr.Ok S 0 t)(a:Nat):jQ 0 t a=if t.isHole then [] else [a]:=by
 unfold jQ;rw[fF];cases c:t.isHole with
 | true=>rfl
 | false =>
   have:=(h.born c).2.2;simp[fJ,this]
theorem Dh{S:Kor}{t:Tr}(h:Tr.Ok S (l+1) t)(a:Nat):jQ (l+1) t a=if t.isHole then [] else (List.range 4).flatMap fun i=>jQ l (t.kid i) (a+i*4 ^ l):=by
 unfold jQ;rw[eR];cases j:t.isHole with
 | true=>rfl
 | false =>
   have c:=(h.born j).2.2;have e:(t.ptr.level == 0)=false:=by rw[c,beq_eq_false_iff_ne];omega
   simp only[fJ,Bool.not_true,Bool.false_eq_true,if_false,List.filter_cons,e,List.filter_flatMap,List.map_flatMap,Bool.or_self]
theorem Fp{S:Kor}:∀{l:Nat}{t:Tr},Tr.Ok S l t->∀(a:Nat),(jQ l t a).Pairwise (·<·)/\(jQ l t a).length=t.many l/\∀x∈jQ l t a,∃i,x=a+i/\i<4 ^ l/\t.blk l i≠zB
 | 0,t,h,a=>by
   rw[Dg h];cases t with
   | hole=>exact⟨List.Pairwise.nil,rfl,fun x o=>by cases o⟩
   | leaf p b=>exact⟨List.pairwise_singleton _ _,rfl,fun x o=>⟨0,List.mem_singleton.1 o,by simp,h.2⟩⟩
   | node p k=>exact h.elim
 | l+1,t,h,a=>by
   rw[Dh h];cases t with
   | hole=>exact⟨List.Pairwise.nil,rfl,fun x o=>by cases o⟩
   | leaf p b=>exact h.elim
   | node p k =>
     have r:=fun i (c:i<4)=>Fp (show Tr.Ok S l (k i) from h.2.1 i c) (a+i*4 ^ l)
     show List.Pairwise _ ((List.range 4).flatMap fun i=>jQ l (k i) (a+i*4 ^ l))/\((List.range 4).flatMap fun i=>jQ l (k i) (a+i*4 ^ l)).length=_/\∀x∈(List.range 4).flatMap fun i=>jQ l (k i) (a+i*4 ^ l),_
     refine⟨List.pairwise_flatMap.2 ⟨fun i c=>(r i (List.mem_range.1 c)).1,?_⟩,?_,fun x o=>?_⟩
     ·refine List.Pairwise.imp_of_mem ?_ (List.pairwise_lt_range (n:=4))
      intro i j c E v x o y u;obtain⟨J,rfl,H,-⟩:=(r i (List.mem_range.1 c)).2.2 x o;obtain⟨K,rfl,I,-⟩:=(r j (List.mem_range.1 E)).2.2 y u;have:=Nat.mul_le_mul_right (4 ^ l) (Nat.succ_le_of_lt v);rw[Nat.succ_mul] at this;omega
     ·have e:List.range 4=[0,1,2,3]:=rfl
      have F:=(r 0 (by omega)).2.1;have G:=(r 1 (by omega)).2.1;have l2:=(r 2 (by omega)).2.1;have l3:=(r 3 (by omega)).2.1;rw[e];simp only[List.flatMap_cons,List.flatMap_nil,List.append_nil,List.length_append];rw[F,G,l2,l3];show _=(k 0).many l+(k 1).many l+(k 2).many l+(k 3).many l;show (k 0).many l+((k 1).many l+((k 2).many l+(k 3).many l))=_;omega
     ·obtain⟨i,c,o⟩:=List.mem_flatMap.1 o
      have c:=List.mem_range.1 c;obtain⟨y,rfl,u,A⟩:=(r i c).2.2 x o;obtain⟨z,d2⟩:=Qm c u
      have C:i*4 ^ l+4 ^ l≤4*4 ^ l:=by
       have:=Nat.mul_le_mul_right (4 ^ l) (Nat.succ_le_of_lt c);rw[Nat.succ_mul] at this;exact this
      refine⟨y+i*4 ^ l,by omega,by rw[Nat.pow_succ];omega,?_⟩;show (k ((y+i*4 ^ l) / 4 ^ l % 4)).blk l (y+i*4 ^ l)≠zB;rw[z,(h.2.1 i c).blk_mod (n:=y) (by rw[d2,Nat.mod_eq_of_lt u])];exact A
theorem vO{S:Kor}:∀{l:Nat}{t:Tr},Tr.Ok S l t->∀(a:Nat),thr (aV 0) l t a=thr fJ l t a
 | 0,t,h,a=>by
   rw[fF,fF];cases c:t.isHole with
   | true=>rfl
   | false =>
     have e:aV 0 t.ptr=true:=decide_eq_true (by have:=(h.born c).1;omega);rw[e];rfl
 | l+1,t,h,a=>by
   rw[eR,eR];cases c:t.isHole with
   | true=>rfl
   | false =>
     have e:aV 0 t.ptr=true:=decide_eq_true (by have:=(h.born c).1;omega);rw[e]
     have g:((List.range 4).flatMap fun i=>thr (aV 0) l (t.kid i) (a+i*4 ^ l))=(List.range 4).flatMap fun i=>thr fJ l (t.kid i) (a+i*4 ^ l):=
      iT fun i j=>vO (h.kid (List.mem_range.1 j)) _
     rw[g];rfl
theorem NE{S:Kor}{t:Tr}(h:Tr.Ok S l t)(a:Nat):(thr (aV 0) l t a).length=(cR l t).length:=by
 rw[vO h,←Hc l t a,List.length_map]
end
end Go.Proofs.YtoeinblfcbpcmaaGreat
