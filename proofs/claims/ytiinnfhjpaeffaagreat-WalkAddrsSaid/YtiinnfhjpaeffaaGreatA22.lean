import Derived.Test.YtiinnfhjpaeffaaGreatA1
import Derived.Test.YtiinnfhjpaeffaaGreatA10
import Derived.Test.YtiinnfhjpaeffaaGreatA21
namespace Go.Proofs.YtiinnfhjpaeffaaGreat
set_option maxHeartbeats 64000000
set_option maxRecDepth 100000
set_option linter.unusedVariables false
section
open Go.RowKit Go.Maps Go.ChangeMaps
structure Kor where
 D:Nat
 Z:Nat
 cp:Nat
 L:List Ad
 M:Nat->Nat->List UInt8
 txg:Int
structure Kor.Bd(S:Kor):Prop where
 d2:2≤S.D
 d8:S.D≤8
 z8:8≤S.Z
 z4:S.Z≤4096
 c1:1≤S.cp
 c3:S.cp≤3
 cD:S.cp≤S.D
 t0:0≤S.txg
 t1:S.txg<2147483648
def lC(b:List UInt8):List Ad->(Nat->Nat->List UInt8)->Nat->Nat->List UInt8
 | [],M=>M
 | a::l,M=>lC b l (fV M a.dev.toNat a.sec.toNat b)
variable{p q:Pt}{lv s l i N m a D Z nw d:Nat}{b:List UInt8}{x:Int}{w:World}{B:Nat->Prop}{M Mm:Nat->Nat->List UInt8}
theorem Bp(b:List UInt8)(a:Ad):∀(l:List Ad) (M:Nat->Nat->List UInt8),lC b (l++[a]) M=fV (lC b l M) a.dev.toNat a.sec.toNat b
 | [],M=>rfl
 | x::l,M=>Bp b a l _
theorem Fj(b:List UInt8):∀(l:List Ad) (M:Nat->Nat->List UInt8) (d s:Nat),((∃a∈l,d=a.dev.toNat/\s=a.sec.toNat)\/M d s=b)->lC b l M d s=b
 | [],M,d,s,h=>by
   rcases h with⟨a,c,-⟩|h
   ·cases c
   ·exact h
 | x::l,M,d,s,h=>by
   refine Fj b l _ d s ?_;rcases h with⟨a,c,e,f⟩|h
   ·rcases List.mem_cons.1 c with rfl|c
    ·right;unfold fV;rw[if_pos ⟨e,f⟩]
    ·exact .inl ⟨a,c,e,f⟩
   ·right;unfold fV;split
    ·rfl
    ·exact h
theorem xR(b:List UInt8):∀(l:List Ad) (M:Nat->Nat->List UInt8) (d s:Nat),(∀a∈l,¬(d=a.dev.toNat/\s=a.sec.toNat))->lC b l M d s=M d s
 | [],M,d,s,h=>rfl
 | x::l,M,d,s,h=>by
   rw[lC,xR b l _ d s fun a c=>h a (List.mem_cons_of_mem _ c)];unfold fV;rw[if_neg (h x (List.mem_cons_self ..))]
def Kor.allUp(S:Kor):List Bool:=List.replicate S.D true
def Kor.put(S:Kor)(lv:Nat)(b:List UInt8):Option (Pt×Kor):=
 match cC (cE S.L S.D S.Z) S.allUp S.cp with
 | none=>none
 | some l=>some (⟨bD S.L S.Z l,S.txg+1,(lv:Int),cZ b⟩,⟨S.D,S.Z,S.cp,S.L++bD S.L S.Z l,lC b (bD S.L S.Z l) S.M,S.txg⟩)
structure Ext(S T:Kor):Prop where
 D:T.D=S.D
 Z:T.Z=S.Z
 cp:T.cp=S.cp
 txg:S.txg≤T.txg
 L:∀a∈S.L,a∈T.L
 M:∀a∈S.L,eF a S.D S.Z->T.M a.dev.toNat a.sec.toNat=S.M a.dev.toNat a.sec.toNat
theorem Ext.refl(S:Kor):Ext S S:=⟨rfl,rfl,rfl,Int.le_refl _,fun _ h=>h,fun _ _ _=>rfl⟩
theorem Ext.trans{S T U:Kor}(h:Ext S T)(k:Ext T U):Ext S U:=
 ⟨k.D.trans h.D,k.Z.trans h.Z,k.cp.trans h.cp,Int.le_trans h.txg k.txg,fun a c=>k.L a (h.L a c),fun a c e=>(k.M a (h.L a c) (by rw[h.D,h.Z];exact e)).trans (h.M a c e)⟩
structure jG(S:Kor)(p:Pt)(lv:Nat)(b:List UInt8):Prop where
 may:p.may=true
 ne:p.addrs≠[]
 lev:p.level=(lv:Int)
 sum:p.sum=cZ b
 len:b.length=256
 born:1≤p.birth/\p.birth≤S.txg+1
 lies:∀a∈p.addrs,eF a S.D S.Z/\a∈S.L/\S.M a.dev.toNat a.sec.toNat=b
theorem jG.ext{S T:Kor}(h:jG S p lv b)(e:Ext S T):jG T p lv b:=
 ⟨h.may,h.ne,h.lev,h.sum,h.len,⟨h.born.1,Int.le_trans h.born.2 (Int.add_le_add_right e.txg 1)⟩,fun a j=>by
  obtain⟨c,f,g⟩:=h.lies a j;exact⟨by rw[e.D,e.Z];exact c,e.L a f,(e.M a f c).trans g⟩⟩
theorem jG.sl{S:Kor}(h:jG S p lv b):p.sum.length=32:=by rw[h.sum,cV]
theorem jG.ne_hole{S:Kor}(h:jG S p lv b):p.hole=false:=by
 unfold Pt.hole
 have:((p.addrs.length:Int) == 0)=false:=by
  rw[beq_eq_false_iff_ne];intro e;exact h.ne (List.eq_nil_of_length_eq_zero (by omega))
 rw[this,Bool.false_and]
theorem iQ:zPt.hole=true:=by decide
theorem pQ{S:Kor}(c:S.Bd)(L:lv≤3)(K:b.length=256){T:Kor}(h:S.put lv b=some (p,T)) :
 jG T p lv b/\Ext S T/\T.Bd/\T.txg=S.txg/\p.birth=S.txg+1/\(∀a∈p.addrs,a ∉ S.L)/\p.addrs.Nodup/\∃l,cC (cE S.L S.D S.Z) S.allUp S.cp=some l/\T.L=S.L++bD S.L S.Z l/\p.addrs=bD S.L S.Z l:=by
 unfold Kor.put at h;cases r:cC (cE S.L S.D S.Z) S.allUp S.cp with
 | none=>rw[r] at h;cases h
 | some l =>
   rw[r] at h;have h:=Option.some.inj h;injection h with A E
   subst A E;have o:2≤S.D/\S.D≤8/\8≤S.Z/\S.Z≤4096:=⟨c.d2,c.d8,c.z8,c.z4⟩
   have g:=fun x y=>Bf o r (x:=x) y
   obtain⟨-,t,Q,C,F⟩:=fE r;have n:∀a∈bD S.L S.Z l,eF a S.D S.Z:=fun a f=>(Ax o).1 (g a f).1
   have v:upN S.allUp=S.D:=by
    unfold upN Kor.allUp;rw[List.countP_replicate];rfl
   have j:l.length=S.cp:=by
    rw[t];unfold kS;rw[v];exact Nat.min_eq_left c.cD
   have u:=Eu r
   have k:((bD S.L S.Z l).map (·.dev)).Nodup:=by
    unfold bD;rw[List.map_map];have:((fun(x:Ad)=>x.dev) ∘ fun(d:Nat)=>(⟨(d:Int),(aZ S.L d S.Z).headD 0⟩:Ad))=fun(d:Nat)=>(d:Int):=rfl
    rw[this];show List.Pairwise _ _;rw[List.pairwise_map];exact C.imp fun h e=>h (by exact_mod_cast e)
   refine⟨⟨?_,?_,rfl,rfl,K,⟨?_,Int.le_refl _⟩,?_⟩,⟨rfl,rfl,rfl,Int.le_refl _,fun a f=>List.mem_append_left _ f,?_⟩,⟨c.d2,c.d8,c.z8,c.z4,c.c1,c.c3,c.cD,c.t0,c.t1⟩,rfl,rfl,fun a f=>(g a f).2.1,u,l,rfl,rfl,rfl⟩
   ·unfold Pt.may qX Pt.numsB
    rw[Bool.or_eq_true];right;have t0:=c.t0;have t1:=c.t1;have c1:=c.c1;have c3:=c.c3;simp only[Bool.and_eq_true,decide_eq_true_eq,List.all_eq_true,lP];refine⟨⟨⟨⟨fun a f=>?_,k⟩,by omega⟩,by omega⟩,⟨⟨by omega,by omega⟩,by omega⟩,by omega⟩;obtain⟨A,E,J,h4⟩:=n a f;unfold kM;have d8:=c.d8;have z4:=c.z4;simp only[Bool.and_eq_true,decide_eq_true_eq];exact⟨⟨⟨A,by show a.1<8;omega⟩,J⟩,by show a.2<4096;omega⟩
   ·intro e
    have:=congrArg List.length e;rw[lP] at this;have c1:=c.c1;simp at this;rw[this] at j;simp at j;omega
   ·have t0:=c.t0
    show 1≤S.txg+1;omega
   ·exact fun a f=>⟨n a f,List.mem_append_right _ f,Fj b _ _ _ _ (.inl ⟨a,f,rfl,rfl⟩)⟩
   ·intro a f P
    refine xR b _ _ _ _ fun x y e=>(g x y).2.1 ?_
    obtain⟨x1,x2,x3,x4⟩:=n x y;obtain⟨V,W,X,Y⟩:=P
    have:x=a:=by
     obtain⟨R,U⟩:=x;obtain⟨G,z⟩:=a;simp only[] at *;have H:R=G:=by have:=e.1;omega
     have I:U=z:=by have:=e.2;omega
     rw[H,I]
    rw[this];exact f
def cW(lv:Nat)(ps:List Pt):List UInt8:=UInt8.ofNat lv::ps.flatMap cF++List.replicate 67 0
theorem NN{r s:Pt}(h0:p.sum.length=32)(c:q.sum.length=32)(e:r.sum.length=32)(f:s.sum.length=32):(cW lv [p,q,r,s]).length=256:=by
 unfold cW;simp[eT h0,eT c,eT e,eT f]
inductive Tr where
 | hole:Tr
 | leaf:Pt->List UInt8->Tr
 | node:Pt->(Nat->Tr)->Tr
def Tr.ptr:Tr->Pt
 | .hole=>zPt
 | .leaf p _=>p
 | .node p _=>p
def Tr.isHole:Tr->Bool
 | .hole=>true
 | _=>false
def Tr.kid:Tr->Nat->Tr
 | .node _ k,i=>k i
 | _,_=>.hole
def fI(k:Nat->Tr):List Pt:=[(k 0).ptr,(k 1).ptr,(k 2).ptr,(k 3).ptr]
def gH(k:Nat->Tr):Bool:=(k 0).isHole && (k 1).isHole && (k 2).isHole && (k 3).isHole
def Tr.Ok(S:Kor):Nat->Tr->Prop
 | _,.hole=>True
 | 0,.leaf p b=>jG S p 0 b/\b≠zB
 | 0,.node _ _=>False
 | _+1,.leaf _ _=>False
 | l+1,.node p k=>jG S p (l+1) (cW (l+1) (fI k))/\(∀i,i<4->Tr.Ok S l (k i))/\gH k=false
def Tr.many:Nat->Tr->Nat
 | _,.hole=>0
 | _,.leaf _ _=>1
 | 0,.node _ _=>0
 | l+1,.node _ k=>(k 0).many l+(k 1).many l+(k 2).many l+(k 3).many l
def fC(k:Nat->Tr)(i:Nat)(t:Tr):Nat->Tr:=fun j=>if j=i then t else k j
def Kor.leaf(S:Kor)(b:List UInt8):Option Tr×Kor:=if b=zB then (some .hole,S) else match S.put 0 b with
 | none=>(none,S)
 | some (p,T)=>(some (.leaf p b),T)
def Kor.lay(S:Kor)(l:Nat)(k:Nat->Tr):Option Tr×Kor:=if gH k then (some .hole,S) else match S.put l (cW l (fI k)) with
 | none=>(none,S)
 | some (p,T)=>(some (.node p k),T)
def eI:Nat->Kor->Tr->Nat->List UInt8->Option Tr×Kor
 | 0,S,_,_,b=>S.leaf b
 | l+1,S,t,n,b=>match eI l S (t.kid (n / 4 ^ l % 4)) n b with
   | (none,T)=>(none,T)
   | (some u,T)=>T.lay (l+1) (fC t.kid (n / 4 ^ l % 4) u)
def Tr.blk:Nat->Tr->Nat->List UInt8
 | 0,.leaf _ b,_=>b
 | 0,.hole,_=>zB
 | 0,.node _ _,_=>zB
 | l+1,.node _ k,i=>(k (i / 4 ^ l % 4)).blk l i
 | _+1,.hole,_=>zB
 | _+1,.leaf _ _,_=>zB
theorem Tr.blk_hole(l i:Nat):Tr.blk l .hole i=zB:=by cases l<;>rfl
theorem Tr.ok_hole(S:Kor)(l:Nat):Tr.Ok S l .hole:=by cases l<;>exact trivial
theorem Tr.Ok.kid{S:Kor}{t:Tr}(h:Tr.Ok S (l+1) t)(c:i<4):Tr.Ok S l (t.kid i):=by
 cases t with
 | hole=>exact Tr.ok_hole S l
 | leaf p b=>exact h.elim
 | node p k=>exact h.2.1 i c
theorem Tr.Ok.blk_succ{S:Kor}{t:Tr}(h:Tr.Ok S (l+1) t)(i:Nat):t.blk (l+1) i=(t.kid (i / 4 ^ l % 4)).blk l i:=by
 cases t with
 | hole=>exact(Tr.blk_hole l i).symm
 | leaf p b=>exact h.elim
 | node p k=>rfl
theorem Tr.Ok.ext{S T:Kor}(e:Ext S T):∀{l:Nat}{t:Tr},Tr.Ok S l t->Tr.Ok T l t
 | l,.hole,_=>Tr.ok_hole T l
 | 0,.leaf p b,h=>⟨h.1.ext e,h.2⟩
 | 0,.node p k,h=>h
 | l+1,.leaf p b,h=>h
 | l+1,.node p k,h=>⟨h.1.ext e,fun i c=>Tr.Ok.ext e (h.2.1 i c),h.2.2⟩
theorem Tr.Ok.sl{S:Kor}{t:Tr}(h:Tr.Ok S l t):t.ptr.sum.length=32:=by
 cases t with
 | hole=>rfl
 | leaf p b=>cases l with
   | zero=>exact h.1.sl
   | succ l=>exact h.elim
 | node p k=>cases l with
   | zero=>exact h.elim
   | succ l=>exact h.1.sl
theorem Tr.Ok.hole_eq{S:Kor}{t:Tr}(h:Tr.Ok S l t):t.ptr.hole=t.isHole:=by
 cases t with
 | hole=>exact iQ
 | leaf p b=>cases l with
   | zero=>exact h.1.ne_hole
   | succ l=>exact h.elim
 | node p k=>cases l with
   | zero=>exact h.elim
   | succ l=>exact h.1.ne_hole
theorem Tr.Ok.lies{S:Kor}{t:Tr}(h:Tr.Ok S l t)(e:t.isHole=false):t.ptr.addrs≠[]/\∀a∈t.ptr.addrs,a∈S.L:=by
 cases t with
 | hole=>cases e
 | leaf p b=>cases l with
   | zero=>exact⟨h.1.ne,fun a c=>(h.1.lies a c).2.1⟩
   | succ l=>exact h.elim
 | node p k=>cases l with
   | zero=>exact h.elim
   | succ l=>exact⟨h.1.ne,fun a c=>(h.1.lies a c).2.1⟩
theorem gR{t:Tr}(h:t.isHole=true):t=.hole:=by cases t<;>first|rfl|cases h
theorem zL{k:Nat->Tr}(h:gH k=true)(g:i<4):k i=.hole:=by
 unfold gH at h;simp only[Bool.and_eq_true] at h;obtain⟨⟨⟨h0,c⟩,e⟩,f⟩:=h;rcases i with _|_|_|_|i
 ·exact gR h0
 ·exact gR c
 ·exact gR e
 ·exact gR f
 ·omega
theorem gI(i l:Nat):i / 4 ^ l % 4<4:=Nat.mod_lt _ (by omega)
theorem Bq(i l:Nat):i % 4 ^ (l+1)=i / 4 ^ l % 4*4 ^ l+i % 4 ^ l:=by
 rw[Nat.pow_succ,Nat.mod_mul,Nat.add_comm,Nat.mul_comm]
theorem Do(i n l:Nat):i % 4 ^ (l+1)=n % 4 ^ (l+1)↔i / 4 ^ l % 4=n / 4 ^ l % 4/\i % 4 ^ l=n % 4 ^ l:=by
 have e:0<4 ^ l:=Nat.pos_of_ne_zero (by simp);have g:=Nat.mod_lt i e;have j:=Nat.mod_lt n e;rw[Bq i l,Bq n l];constructor
 ·intro h
  have c:(i / 4 ^ l % 4*4 ^ l+i % 4 ^ l) / 4 ^ l=(n / 4 ^ l % 4*4 ^ l+n % 4 ^ l) / 4 ^ l:=by rw[h]
  rw[Nat.mul_comm _ (4 ^ l),Nat.mul_comm _ (4 ^ l),Nat.mul_add_div e,Nat.mul_add_div e,Nat.div_eq_of_lt g,Nat.div_eq_of_lt j,Nat.add_zero,Nat.add_zero] at c;refine⟨c,?_⟩;rw[c] at h;omega
 ·rintro⟨c,f⟩
  rw[c,f]
def Fr(S:Kor)(u:Tr):Prop:=∀a∈u.ptr.addrs,a ∉ S.L
theorem Fr.hole(S:Kor):Fr S .hole:=fun a c=>by cases c
theorem Fr.ext{S T:Kor}{u:Tr}(h:Fr T u)(e:Ext S T):Fr S u:=fun a c f=>h a c (e.L a f)
theorem Dp(p:Pt):p.eqB p=true:=by unfold Pt.eqB;simp
theorem Dq(h:p.eqB q=true):p=q:=by
 obtain⟨a,b,c,d⟩:=p;obtain⟨e,f,g,j⟩:=q;unfold Pt.eqB at h;simp only[Bool.and_eq_true,beq_iff_eq,decide_eq_true_eq] at h;obtain⟨⟨⟨rfl,rfl⟩,rfl⟩,rfl⟩:=h;rfl
theorem Fr.ne{S:Kor}{t u:Tr}(h:Tr.Ok S l t)(k:t.isHole=false)(f:Fr S u):u.ptr.eqB t.ptr=false:=by
 cases e:u.ptr.eqB t.ptr with
 | false=>rfl
 | true =>
   have:=Dq e;obtain⟨g,j⟩:=h.lies k;unfold Fr at f;rw[this] at f;cases c:t.ptr.addrs with
   | nil=>exact absurd c g
   | cons a r=>exact absurd (j a (by rw[c];exact List.mem_cons_self ..)) (f a (by rw[c];exact List.mem_cons_self ..))
theorem Fr.ne_hole{S T:Kor}{u:Tr}(h:Tr.Ok T l u)(f:u.isHole=false):u.ptr.eqB zPt=false:=by
 cases e:u.ptr.eqB zPt with
 | false=>rfl
 | true =>
   have:=Dq e;have c:=h.hole_eq;rw[this,iQ,f] at c;cases c
structure Beh(S T:Kor):Prop where
 ext:Ext S T
 bd:T.Bd
 txg:T.txg=S.txg
theorem Beh.refl{S:Kor}(h:S.Bd):Beh S S:=⟨Ext.refl S,h,rfl⟩
theorem Beh.trans{S T U:Kor}(h:Beh S T)(k:Beh T U):Beh S U:=⟨h.ext.trans k.ext,k.bd,k.txg.trans h.txg⟩
theorem Fk{S:Kor}(j:S.Bd)(z:b.length=256){r:Option Tr}{T:Kor}(h:S.leaf b=(r,T)):Beh S T/\∀u,r=some u->Tr.Ok T 0 u/\(∀i,u.blk 0 i=b)/\Fr S u:=by
 unfold Kor.leaf at h
 by_cases g:b=zB
 ·rw[if_pos g] at h
  injection h with c e
  subst c e;refine⟨Beh.refl j,fun u f=>?_⟩;cases f
  exact⟨trivial,fun i=>g.symm,Fr.hole S⟩
 ·rw[if_neg g] at h
  cases k:S.put 0 b with
  | none =>
    rw[k] at h;injection h with c e
    subst c e;exact⟨Beh.refl j,fun u f=>by cases f⟩
  | some x =>
    obtain⟨p,U⟩:=x;rw[k] at h;injection h with c e
    subst c e;obtain⟨n,o,t,v,-,y,-⟩:=pQ j (by omega) z k;refine⟨⟨o,t,v⟩,fun u f=>?_⟩;cases f
    exact⟨⟨n,g⟩,fun i=>rfl,y⟩
theorem AH{S:Kor}{k:Nat->Tr}(c:∀i,i<4->Tr.Ok S l (k i)):(cW lv (fI k)).length=256:=
 NN (c 0 (by omega)).sl (c 1 (by omega)).sl (c 2 (by omega)).sl (c 3 (by omega)).sl
theorem IZ{S:Kor}(j:S.Bd)(E:l≤2){k:Nat->Tr}(t:∀i,i<4->Tr.Ok S l (k i)){r:Option Tr}{T:Kor}(h:S.lay (l+1) k=(r,T)):Beh S T/\∀u,r=some u->Tr.Ok T (l+1) u/\(∀i,u.blk (l+1) i=(k (i / 4 ^ l % 4)).blk l i)/\Fr S u:=by
 unfold Kor.lay at h
 by_cases g:gH k=true
 ·rw[if_pos g] at h
  injection h with c e
  subst c e;refine⟨Beh.refl j,fun u f=>?_⟩;cases f
  exact⟨trivial,fun i=>by rw[zL g (gI i l),Tr.blk_hole,Tr.blk_hole],Fr.hole S⟩
 ·rw[if_neg g] at h
  cases n:S.put (l+1) (cW (l+1) (fI k)) with
  | none =>
    rw[n] at h;injection h with c e
    subst c e;exact⟨Beh.refl j,fun u f=>by cases f⟩
  | some x =>
    obtain⟨p,U⟩:=x;rw[n] at h;injection h with c e
    subst c e;obtain⟨v,o,y,z,-,A,-⟩:=pQ j (by omega) (AH t) n;refine⟨⟨o,y,z⟩,fun u f=>?_⟩;cases f
    exact⟨⟨v,fun i C=>(t i C).ext o,by simpa using g⟩,fun i=>rfl,A⟩
theorem iH(k:Nat->Tr)(i:Nat)(t:Tr):fC k i t i=t:=by unfold fC;rw[if_pos rfl]
theorem iI(k:Nat->Tr){j:Nat}(t:Tr)(h:j≠i):fC k i t j=k j:=by unfold fC;rw[if_neg h]
theorem pC(f:b.length=256)(n:Nat):∀{l:Nat},l≤3->∀{S:Kor}{t:Tr},S.Bd->Tr.Ok S l t->∀{r:Option Tr}{T:Kor},eI l S t n b=(r,T) ->
 Beh S T/\∀u,r=some u->Tr.Ok T l u/\(∀i,u.blk l i=if i % 4 ^ l=n % 4 ^ l then b else t.blk l i)/\Fr S u
 | 0,_,S,t,y,g,r,T,h=>by
   obtain⟨o,v⟩:=Fk y f h;refine⟨o,fun u j=>?_⟩;obtain⟨F,G,H⟩:=v u j;exact⟨F,fun i=>by rw[G,if_pos (by rw[Nat.pow_zero,Nat.mod_one,Nat.mod_one])],H⟩
 | l+1,W,S,t,y,g,r,T,h=>by
   unfold eI at h;cases z:eI l S (t.kid (n / 4 ^ l % 4)) n b with
   | mk V C =>
     rw[z] at h;obtain⟨c,E⟩:=pC f n (by omega) y (g.kid (gI n l)) z;cases V with
     | none =>
       injection h with o v
       subst o v;exact⟨c,fun u j=>by cases j⟩
     | some A =>
       obtain⟨L,P,X⟩:=E A rfl
       have J:∀i,i<4->Tr.Ok C l (fC t.kid (n / 4 ^ l % 4) A i):=fun i I=>by
        by_cases e:i=n / 4 ^ l % 4
        ·rw[e,iH];exact L
        ·rw[iI _ _ e];exact(g.kid I).ext c.ext
       obtain⟨K,l2⟩:=IZ c.bd (by omega) J h;refine⟨c.trans K,fun u j=>?_⟩;obtain⟨Q,R,U⟩:=l2 u j;refine⟨Q,fun i=>?_,U.ext c.ext⟩;rw[R]
       by_cases e:i / 4 ^ l % 4=n / 4 ^ l % 4
       ·rw[e,iH,P]
        by_cases k:i % 4 ^ l=n % 4 ^ l
        ·rw[if_pos k,if_pos ((Do i n l).2 ⟨e,k⟩)]
        ·rw[if_neg k,if_neg fun h=>k ((Do i n l).1 h).2,g.blk_succ,e]
       ·rw[iI _ _ e,if_neg fun h=>e ((Do i n l).1 h).1,g.blk_succ]
def Kor.room(S:Kor)(N:Nat):Prop:=oN S.allUp S.cp (cE S.L S.D S.Z) N
theorem Dr{S:Kor}(h:S.room (N+1))(lv:Nat)(b:List UInt8):∃p T,S.put lv b=some (p,T)/\T.room N:=by
 obtain⟨l,c,e⟩:=F7 h;refine⟨⟨bD S.L S.Z l,S.txg+1,(lv:Int),cZ b⟩,⟨S.D,S.Z,S.cp,S.L++bD S.L S.Z l,lC b (bD S.L S.Z l) S.M,S.txg⟩,?_,?_⟩
 ·unfold Kor.put;rw[c]
 ·unfold Kor.room
  show oN S.allUp S.cp (cE (S.L++bD S.L S.Z l) S.D S.Z) N;rw[wQ c];exact e
theorem I0{S:Kor}(h:S.room (N+1))(f:b≠zB):∃u T,S.leaf b=(some u,T)/\T.room N/\u.isHole=false:=by
 obtain⟨p,T,c,e⟩:=Dr h 0 b;refine⟨.leaf p b,T,?_,e,rfl⟩;unfold Kor.leaf;rw[if_neg f,c]
theorem KS{S:Kor}(h:S.room (N+1)){k:Nat->Tr}(f:gH k=false):∃u T,S.lay l k=(some u,T)/\T.room N/\u.isHole=false:=by
 obtain⟨p,T,c,e⟩:=Dr h l (cW l (fI k));refine⟨.node p k,T,?_,e,rfl⟩;unfold Kor.lay;rw[f,c];rfl
theorem Gx{k:Nat->Tr}(e:i<4){u:Tr}(c:u.isHole=false):gH (fC k i u)=false:=by
 cases h:gH (fC k i u) with
 | false=>rfl
 | true =>
   have:=zL h e;rw[iH] at this;rw[this] at c;cases c
theorem Br(c:b≠zB)(n:Nat):∀(l:Nat){S:Kor}(t:Tr){N:Nat},S.room (N+(l+1))->∃u T,eI l S t n b=(some u,T)/\T.room N/\u.isHole=false
 | 0,S,t,N,h=>I0 h c
 | l+1,S,t,N,h=>by
   have y:S.room (N+1+(l+1)):=by
    have e:N+1+(l+1)=N+(l+1+1):=by omega
    rw[e];exact h
   obtain⟨A,z,f,g,j⟩:=Br c n l (S:=S) (t.kid (n / 4 ^ l % 4)) (N:=N+1) y;obtain⟨u,T,o,r,v⟩:=KS (l:=l+1) g (Gx (k:=t.kid) (gI n l) j);refine⟨u,T,?_,r,v⟩;unfold eI;rw[f];exact o
theorem L5(h:0<x):dB [x,x] [true,true] 2=[0,1]:=by
 have h0:eN [x,x] [true,true] 0=true:=by simp[eN,h]
 have c:eN [x,x] [true,true] 1=true:=by simp[eN,h]
 rw[qT,qT,if_pos h0,if_pos c];rfl
theorem MG(h:0<x):cC [x,x] [true,true] 2=some [0,1]:=by
 have e:jD [x,x] [true,true]=[0,1]:=(wJ (by show [0,1].Perm (dB [x,x] [true,true] 2);rw[L5 h]) (by
  show List.Pairwise _ [0,1];simp[dC])).symm
 unfold cC;rw[e];show (if dB [x,x] [true,true] 2=[]\/(dB [x,x] [true,true] 2).length<kS [true,true] 2 then none else some (List.take (kS [true,true] 2) [0,1]))=_;rw[L5 h];rfl
theorem Bt:∀n:Nat,oN [true,true] 2 [(n:Int),(n:Int)] n
 | 0=>.none (by decide)
 | n+1=>.more (MG (by omega)) (by
    have:mD [((n+1:Nat):Int),((n+1:Nat):Int)] [0,1]=[(n:Int),(n:Int)]:=by simp[mD]
    rw[this];exact Bt n)
theorem rC(d:Nat):∀Z,(aZ [] d Z).length=Z-5
 | 0=>rfl
 | Z+1=>by
   rw[qV,List.length_append,rC d Z]
   by_cases h:5≤Z
   ·rw[if_pos (by simp[gD,dY,h])]
    show Z-5+1=_;omega
   ·rw[if_neg (by simp[gD,h])]
    show Z-5+0=_;omega
theorem Kor.room_new(Z:Nat)(M:Nat->Nat->List UInt8)(t:Int):Kor.room ⟨2,Z,2,[],M,t⟩ (Z-5):=by
 show oN [true,true] 2 (cE [] 2 Z) (Z-5)
 have:cE [] 2 Z=[((Z-5:Nat):Int),((Z-5:Nat):Int)]:=by
  show [((aZ [] 0 Z).length:Int),((aZ [] 1 Z).length:Int)]=_;rw[rC,rC]
 rw[this];exact Bt _
theorem Tr.Ok.top{S:Kor}{t:Tr}(h:Tr.Ok S 3 t)(c:t.isHole=false):t.ptr.level=3/\1≤t.ptr.birth/\t.ptr.birth≤S.txg+1:=by
 cases t with
 | hole=>cases c
 | leaf p b=>exact h.elim
 | node p k=>exact⟨h.1.lev,h.1.born⟩
theorem Dw:Hid (∀w,(zeroValue 293).run Tryz.prog w=.ok (.agg #[.int .i64 0,.slice none 0 0]) w):=O fun w=>by kernel_rfl
def Cq(a:Nat):List Value:=.pointer a::List.replicate 24 (.int .i64 0)
def eQ(w:World)(m a:Nat):Prop:=w.heap[m]?=some (.cells (Cq a).toArray 243 (0,0))
theorem eQ.c0(h:eQ w m a):w.cell? ⟨m,0,none⟩=some (.pointer a):=aC h rfl
theorem kQ(h:bR w a B D Z M nw):Calls Tryz.prog 76 #[.pointer a] w (aN w (.int .i64 (D:Int))):=by
 obtain⟨g,e,lv,st,f,F,W,c,-⟩:=h;exact Oj c
theorem uZ(h:bR w a B D Z M nw):Calls Tryz.prog 120 #[.pointer a] w (aN w (.int .i64 (Z:Int))):=by
 obtain⟨g,e,lv,st,f,F,W,c,-⟩:=h;exact Cn c
theorem OE(h:bR w a B D Z M nw)(d:Int):Calls Tryz.prog 82 #[.pointer a,.int .i64 d] w (aN w (.bool (decide (0≤d) && decide (d<(D:Int))))):=by
 obtain⟨g,e,lv,st,f,F,W,c,-⟩:=h;exact aup c d
theorem Oo(h:bR w a B D Z M nw)(c:d<D)(e:s<Z):Calls Tryz.prog 115 #[.pointer a,.int .i64 (d:Int),.int .i64 (s:Int)] w (sS w (M d s) (.int .i64 0)):=by
 obtain⟨n,k,lv,st,f,F,W,g,-,-,j⟩:=h;rw[j d s c e];exact MB g c e
theorem Oq(h:bR w a B D Z M nw)(c:d<D)(e:s<Z):Calls Tryz.prog 185 #[.pointer a,.int .i64 (d:Int),.int .i64 (s:Int)] w (sS w (M d s) (.bool true)):=by
 obtain⟨n,k,lv,st,f,F,W,g,-,-,j⟩:=h;rw[j d s c e];exact KH g c e
theorem MI(h:bR w a B D Z M nw):Calls Tryz.prog 115 #[.pointer a,.int .i64 (-1),.int .i64 0] w (aN w (.tuple #[.slice none 0 0,.int .i64 5])):=by
 obtain⟨g,e,lv,st,f,F,W,c,-⟩:=h;exact MD c
theorem bR.len(h:bR w a B D Z M nw)(e:d<D)(g:s<Z):(M d s).length=256:=by
 obtain⟨n,k,lv,st,f,F,W,c,-,-,j⟩:=h;rw[j d s e g];exact sR c.wok (c.fok d s e g)
theorem Bu(w:World)(m a:Nat)(c:eQ w m a):Calls Tryz.prog 208 #[.pointer m] w (aN w (.bool false)):=by
 have c0:=c.c0;clear c;go_in;go_wp2;go_ret;exact aN.of (aA.refl _ _)
theorem KT(w:World)(n:Nat)(c:0<n):Calls Tryz.prog 223 #[.int .i64 (n:Int)] w (aN w (.tuple #[.int .i64 (n:Int),.int .i64 0])):=by
 have e:((n:Int) == 0)=false:=by rw[beq_eq_false_iff_ne];omega
 go_in;go_wp2
 go_ret2
 exact aN.of (aA.refl _ _)
theorem KU(h:bR w a B D Z M nw):Calls Tryz.prog 116 #[.pointer a] w fun e o=>∃m,e=.returned (.tuple #[.pointer (some ⟨m,0,none⟩),.int .i64 0])/\w.heap.size≤m/\eQ o m a/\aA aB w o:=by
 have k:=O (kQ h);have g:=h.bd;have e:((D:Int) == 0)=false:=by rw[beq_eq_false_iff_ne];omega
 have f:∀w,(Instr.build 243 #[(0,.pointer a)]).run Tryz.prog w=.ok (.agg (Cq a).toArray) w:=fun w=>by kernel_rfl
 clear h g;go_in;go_wp2_with fail;refine k.mono ?_;rintro e z ⟨rfl,j⟩;have t:=O j;have y:=j.size;clear j k
 go_wp2_with ((with_reducible show WL _ _);first
  | refine bld 243 #[(0,.tmp 7)] [(0,.pointer a)] (.agg (Cq a).toArray) f ?_
  | refine bx 243 (.tmp 8) (Cq a).toArray ?_)
 intro b r v c n;have u:Hid (∃m,Ending.returned (.tuple #[.pointer b,.int .i64 0])=.returned (.tuple #[.pointer (some ⟨m,0,none⟩),.int .i64 0])/\w.heap.size≤m/\eQ r m a/\aA aB w r):=O ⟨b,rfl,by omega,n,t.trans c⟩;clear v c n;go_wp2
 go_ret2
 exact u.out
theorem lS{x:Ad}(h:eF x D Z):∃d s:Nat,x=⟨(d:Int),(s:Int)⟩/\d<D/\5≤s/\s<Z:=by
 obtain⟨e,f⟩:=x;obtain⟨c,g,j,k⟩:=h;replace c:0≤e:=c;replace g:e<(D:Int):=g;replace j:5≤f:=j;replace k:f<(Z:Int):=k;exact⟨e.toNat,f.toNat,by rw[Int.toNat_of_nonneg c,Int.toNat_of_nonneg (by omega)],by omega,by omega,by omega⟩
theorem vA(h:bR w a B D Z Mm nw)(hm:eQ w m a)(v:Value)(l:List Ad)(V:Rd w 2 v l.length (aF l))(hl:∀x∈l,eF x D Z):Calls Tryz.prog 209 #[.pointer m,v] w (aN w (.bool true)):=by
 obtain⟨oa,ca,rfl,-,-⟩:=V.form;obtain⟨n,hn⟩:∃n,l.length=n:=⟨_,rfl⟩
 have HN:=O hn;rw[hn] at V ⊢;have hmx:n≤maxLen:=by obtain⟨_,a',c',h1,h2,h3,-⟩:=V;omega
 unfold maxLen at hmx;have HR:=O V;have HA:=O h;have HMM:=O hm;have Y:=O hl;clear V h hm hl hn;go_in;go_wp2_with fail
 go_loopw [9] (fun i wr=>∃k:Nat,k≤n/\i=.int .i64 k/\Hid (aA aB w wr)) (fun i _=>n-(intOf i).toNat)
 case atStart=>exact⟨0,by omega,rfl,O (aA.refl _ _)⟩
 case round =>
  obtain⟨k,u,rfl,R⟩:=hrel
  by_cases hk8:k<n
  ·obtain⟨x,hx⟩:∃x,l[k]?=some x:=⟨l[k]'(by rw[HN.out];exact hk8),List.getElem?_eq_getElem _⟩
   obtain⟨d,s,rfl,hd,hs5,hsZ⟩:=lS (Y.out x (List.mem_of_getElem? hx));have P:=HR.out;rw[←HN.out] at P;obtain⟨g,o,cap',hv,T⟩:=fO P hx;obtain rfl:oa=some ⟨g,o,none⟩:=by cases hv;rfl
   have W:=O (R.rangeAt T);have C:=lN wr;have j:=O (HA.keep0 R.out);have t:Hid (eQ wr m a):=O (R.blk HMM.out id);have L:(0:Int)≤(k:Int):=by omega
   have hk1:(k:Int)<(n:Int):=by omega
   have e1:¬((d:Int)<0):=by omega
   have e2:¬((D:Int)≤(d:Int)):=by omega
   have e3:¬((s:Int)<5):=by omega
   have e4:¬((Z:Int)≤(s:Int)):=by omega
   clear hx P T hv
   go_wp2_with ((with_reducible show WL _ _);first
    | refine wpList_load_mid rfl 82 (.tmp 11) rfl g (o+k*2) rfl (aM ⟨(d:Int),(s:Int)⟩) _ W.out bB rfl (by rw[bE];exact iU) ?_
    | refine al 82 (.agg jN.toArray) (jN.toArray) uT ?_)
   intro G w1 U L J
   go_wp2_with ((with_reducible show WL _ _);refine sta 82 (.tmp 6) (.tmp 12) G 0 (aM ⟨(d:Int),(s:Int)⟩) J (by first|decide|(rw[List.size_toArray,bE];exact Nat.le_refl _)|simp[bE]) (by rw[bE];exact iU) (bG _) ?_)
   intro w2 u hb;rw[aK _ _ (by first|rfl|(rw[List.size_toArray,bE];rfl)|simp[bE])] at hb;replace u:=tX L u (fun i hi e=>by omega);replace C:=lW C U u hb;replace W:=O (u.rangeAt W.out);replace j:=O (j.keep0 u);replace t:=O (u.blk t.out id);clear U u hb L J;clear W;go_wp2_with fail;refine dwA aB (by kernel_rfl) ?_;intro w3 S y K A I;replace C:=kL C I;replace j:=O (j.keep0 I);replace t:=O (I.blk t.out id);clear I;have E:=C;have Q:=j;have F:=t;refine tnb 0 (.pointer G) rfl A ?_;refine tnd 1 (.int .i64 (d:Int)) rfl (.inl ⟨by rfl,fun z r=>by have c:World.cell? z ⟨G,0,none⟩=some (.int .i64 (d:Int)):=(aC (i:=0) ((y.out z r).blk (E.b 0) id) rfl);go_simp⟩) A ?_;refine tnd 2 (.bool false) rfl (.inl ⟨by rfl,fun _ _=>by go_simp<;>first|omega|(simp;omega)⟩) A ?_;refine tna 3 (.bool false) rfl A ?_;refine tnb 4 (.pointer G) rfl A ?_;refine tnd 5 (.int .i64 (d:Int)) rfl (.inl ⟨by rfl,fun z r=>by have c:World.cell? z ⟨G,0,none⟩=some (.int .i64 (d:Int)):=(aC (i:=0) ((y.out z r).blk (E.b 0) id) rfl);go_simp⟩) A ?_;refine tna 6 (.pointer m) rfl A ?_;refine tnb 7 (.pointer m) rfl A ?_;refine tnb 8 (.pointer m) rfl A ?_;refine tnd 9 (.pointer a) rfl (.inl ⟨by rfl,fun z r=>by have c:World.cell? z ⟨m,0,none⟩=some (.pointer a):=(y.out z r).cell (eQ.c0 F.out) id;go_simp⟩) A ?_;refine wA9 10 ?_;go_wp2_with fail;refine(kQ j.out).mono ?_;rintro e w4 ⟨rfl,u⟩;have f:=K.out _ ((y.out _ A).trans u);replace C:=kL C u;replace j:=O (j.keep0 u);replace t:=O (u.blk t.out id);clear A u;go_wp2_with fail;refine⟨f,?_⟩;refine tnd 11 (.bool false) rfl (.inl ⟨by rfl,fun _ _=>by go_simp<;>first|omega|(simp;omega)⟩) f ?_;refine tna 12 (.bool false) rfl f ?_;refine tna 13 (.bool false) rfl f ?_;refine tnb 14 (.pointer (some ⟨G,1,none⟩)) rfl f ?_;refine tnd 15 (.int .i64 (s:Int)) rfl (.inl ⟨by rfl,fun z r=>by have c:World.cell? z ⟨G,1,none⟩=some (.int .i64 (s:Int)):=(aC (i:=1) ((y.out z r).blk (E.b 0) id) rfl);go_simp⟩) f ?_;refine tnd 16 (.bool false) rfl (.inl ⟨by rfl,fun _ _=>by go_simp<;>first|omega|(simp;omega)⟩) f ?_;refine tna 17 (.bool false) rfl f ?_;refine tna 18 (.bool false) rfl f ?_;refine tnb 19 (.pointer (some ⟨G,1,none⟩)) rfl f ?_;refine tnd 20 (.int .i64 (s:Int)) rfl (.inl ⟨by rfl,fun z r=>by have c:World.cell? z ⟨G,1,none⟩=some (.int .i64 (s:Int)):=(aC (i:=1) ((y.out z r).blk (E.b 0) id) rfl);go_simp⟩) f ?_;refine tna 21 (.pointer m) rfl f ?_;refine tnb 22 (.pointer m) rfl f ?_;refine tnb 23 (.pointer m) rfl f ?_;refine tnd 24 (.pointer a) rfl (.inl ⟨by rfl,fun z r=>by have c:World.cell? z ⟨m,0,none⟩=some (.pointer a):=(y.out z r).cell (eQ.c0 F.out) id;go_simp⟩) f ?_;refine wA9 25 ?_;go_wp2_with fail;refine(uZ j.out).mono ?_;rintro e w5 ⟨rfl,u⟩;have H:=K.out _ ((y.out _ f).trans u);replace C:=kL C u;replace j:=O (j.keep0 u);replace t:=O (u.blk t.out id);clear f u;go_wp2_with fail;refine⟨H,?_⟩;refine tnd 26 (.bool false) rfl (.inl ⟨by rfl,fun _ _=>by go_simp<;>first|omega|(simp;omega)⟩) H ?_;refine tna 27 (.bool false) rfl H ?_;refine wpAnyH_done (by kernel_rfl) ?_ _;clear H y K E Q F;have X:=O (R.trans C.keep);clear C j t;go_wp2
   go_roundw
   case rel=>exact⟨k+1,by omega,by go_num,X⟩
   case measure=>simp[intOf];omega
  ·obtain rfl:n=k:=by omega
   go_wp2;go_ret;exact aN.of R.out
theorem Gy(w:World)(v:Value)(l:List Ad)(H:Rd w 2 v l.length (aF l))(hl:(l.map (·.dev)).Nodup)(L:iA l):Calls Tryz.prog 222 #[v] w (aN w (.bool true)):=by
 obtain⟨oa,ca,rfl,-,-⟩:=H.form;obtain⟨n,hn⟩:∃n,l.length=n:=⟨_,rfl⟩
 have Q:=O hn;rw[hn] at H ⊢;have hnc:n≤ca:=by obtain⟨_,a',c',K,R,h3,-⟩:=H;cases K;exact R
 have Y:n≤maxLen:=by obtain⟨_,a',c',K,R,h3,-⟩:=H;omega
 unfold maxLen at Y;have HR:=O H;have V:=O hl;have HOK:=O L;clear H hl L hn;go_in;go_wp2_with fail
 go_loopw [9] (fun i wr=>∃k:Nat,k≤n/\i=.int .i64 k/\Hid (aA aB w wr)) (fun i _=>n-(intOf i).toNat)
 case atStart=>exact⟨0,by omega,rfl,O (aA.refl _ _)⟩
 case round =>
  obtain⟨k,h,rfl,U⟩:=hrel
  by_cases X:k<n
  ·obtain⟨x,hx⟩:∃x,l[k]?=some x:=⟨l[k]'(by rw[Q.out];exact X),List.getElem?_eq_getElem _⟩
   have f:=HR.out;rw[←Q.out] at f;obtain⟨g,o,J,S,t⟩:=fO f hx;obtain rfl:oa=some ⟨g,o,none⟩:=by cases S;rfl
   have C:=O (U.rangeAt t);have W:=O hx;have A:=lN wr;have r:(0:Int)≤(k:Int):=by omega
   have hk1:(k:Int)<(n:Int):=by omega
   have hkc:(k:Int)≤(ca:Int):=by omega
   clear hx f t S
   go_wp2_with ((with_reducible show WL _ _);first
    | refine wpList_load_mid rfl 82 (.tmp 12) rfl g (o+k*2) rfl (aM x) _ C.out bB rfl (by rw[bE];exact iU) ?_
    | refine al 82 (.agg jN.toArray) (jN.toArray) uT ?_)
   intro b4 w1 u r c
   go_wp2_with ((with_reducible show WL _ _);refine sta 82 (.tmp 4) (.tmp 13) b4 0 (aM x) c (by first|decide|(rw[List.size_toArray,bE];exact Nat.le_refl _)|simp[bE]) (by rw[bE];exact iU) (bG _) ?_)
   intro w2 h G;rw[aK _ _ (by first|rfl|(rw[List.size_toArray,bE];rfl)|simp[bE])] at G;replace h:=tX r h (fun i hi e=>by omega);replace A:=lW A u h G;replace C:=O (h.rangeAt C.out);clear u h G r c;clear C;go_wp2_with fail;have T:=O (A.b 0);have I:=O (U.trans A.keep)
   go_loopw [18] (fun i wr2=>∃j:Nat,j≤k/\i=.int .i64 j/\Hid (aA aB w2 wr2)) (fun i _=>k-(intOf i).toNat)
   case atStart=>exact⟨0,by omega,rfl,O (aA.refl _ _)⟩
   case round =>
    rename_i wo;obtain⟨j,hj,rfl,z⟩:=hrel
    by_cases hj8:j<k
    ·obtain⟨y,hy⟩:∃y,l[j]?=some y:=⟨l[j]'(by rw[Q.out];omega),List.getElem?_eq_getElem _⟩
     have f:=HR.out;rw[←Q.out] at f;obtain⟨g',o',J,S,t⟩:=fO f hy;cases S
     have C:=O ((I.trans z.out).rangeAt t)
     have P:x.dev≠y.dev:=by
      intro e;have K:(l.map (·.dev))[k]?=some x.dev:=by rw[List.getElem?_map,W.out];rfl
      have R:(l.map (·.dev))[j]?=some x.dev:=by rw[List.getElem?_map,hy,e];rfl
      have:=((List.getElem?_inj (List.getElem?_eq_some_iff.1 K).1 V.out).1 (K.trans R.symm))
      omega
     have hee:(x.dev == y.dev)=false:=by rw[beq_eq_false_iff_ne];exact P
     have E:=O (z.blk T.out id);have hj0:(0:Int)≤(j:Int):=by omega
     have hj1:(j:Int)<(k:Int):=by omega
     have hj2:(j:Int)<(n:Int):=by omega
     have A:=lN wr;clear hy f t P
     go_wp2_with ((with_reducible show WL _ _);first
      | refine wpList_load_mid rfl 82 (.tmp 20) rfl g (o+j*2) rfl (aM y) _ C.out bB rfl (by rw[bE];exact iU) ?_
      | refine al 82 (.agg jN.toArray) (jN.toArray) uT ?_)
     intro b6 w3 u r c
     go_wp2_with ((with_reducible show WL _ _);refine sta 82 (.tmp 6) (.tmp 21) b6 0 (aM y) c (by first|decide|(rw[List.size_toArray,bE];exact Nat.le_refl _)|simp[bE]) (by rw[bE];exact iU) (bG _) ?_)
     intro w4 h G;rw[aK _ _ (by first|rfl|(rw[List.size_toArray,bE];rfl)|simp[bE])] at G;replace h:=tX r h (fun i hi e=>by omega);replace A:=lW A u h G;replace C:=O (h.rangeAt C.out);replace E:=O (h.blk E.out id);clear u h G r c;have c1:w4.cell? ⟨b4,0,none⟩=some (.int .i64 x.dev):=aC (i:=0) E.out rfl;have c2:w4.cell? ⟨b6,0,none⟩=some (.int .i64 y.dev):=aC (i:=0) (A.b 0) rfl;have F:=O (z.trans A.keep);go_wp2
     go_roundw
     case rel=>exact⟨j+1,by omega,by go_num,F⟩
     case measure=>simp[intOf];omega
    ·obtain rfl:k=j:=by omega
     have F:=O (I.trans z.out);go_wp2
     go_roundw
     case rel=>exact⟨k+1,by omega,by go_num,F⟩
     case measure=>simp[intOf];omega
  ·obtain rfl:n=k:=by omega
   go_wp2;go_ret;exact aN.of U.out
def pS(w:World)(a:Nat)(B:Nat->Prop)(D Z:Nat)(Mm:Nat->Nat->List UInt8)(nw:Nat)(l:List Ad)(b:List UInt8)(e:Ending)(w':World):Prop:=
 e=.returned (.tuple #[.int .i64 (l.length:Int),.int .i64 0])/\∃c,bR w' a c D Z (lC b l Mm) (nw+l.length)/\(∀k,c k->B k\/w.heap.size≤k)/\aA B w w'
theorem pS.keep{c f:World}{l:List Ad}{e:Ending}(h:pS w a B D Z Mm nw l b e c)(k:aA aB c f):pS w a B D Z Mm nw l b e f:=by
 obtain⟨j,g,n,o,r⟩:=h;exact⟨j,g,n.keep0 k,o,r.trans k.any⟩
structure MPI(w wr:World)(a:Nat)(B Bk:Nat->Prop)(D Z:Nat)(Mm:Nat->Nat->List UInt8)(nw k:Nat)(l:List Ad)(b:List UInt8):Prop where
 arr:bR wr a Bk D Z (lC b (l.take k) Mm) (nw+k)
 grow:∀i,Bk i->B i\/w.heap.size≤i
 keep:aA B w wr
theorem KV(h:bR w a B D Z Mm nw)(hm:eQ w m a)(hmB:¬B m)(v:Value)(l:List Ad)(hr:Rd w 2 v l.length (aF l))(hl:∀x∈l,eF x D Z)(hld:(l.map (·.dev)).Nodup)(hlo:iA l)(h1:1≤l.length)(h3:l.length≤3)
 (hv:∀i,v.ownBlock=some i->¬B i) (V:Value) (b:List UInt8) (hbl:b.length=256) (X:Rd w 1 V 256 (b.map vb)) (hvb:∀i,V.ownBlock=some i->¬B i) (hn:nw<90000000000) :
 Calls Tryz.prog 183 #[.pointer m,v,V] w (pS w a B D Z Mm nw l b):=by
 obtain⟨oa,ca,rfl,-,-⟩:=hr.form
 obtain⟨g2,o2,c2,rfl⟩:∃g o c,V=.slice (some ⟨g,o,none⟩) 256 c:=by
  obtain⟨h1,a',c',rfl,-,-,-,h4⟩:=X;obtain⟨g,o,rfl,hc⟩:=h4 (by rw[h1];decide);exact⟨g,o,c',rfl⟩
 obtain⟨n,T⟩:∃n,l.length=n:=⟨_,rfl⟩
 have HN:=O T
 have hg0:oa=none\/∃g o,oa=some ⟨g,o,none⟩/\g<w.heap.size:=by
  obtain⟨K,a',c',he,-,-,-,h4⟩:=hr;obtain⟨g,o,rfl,hc⟩:=h4 (by rw[K];omega);cases he
  obtain⟨u,hu⟩:∃u,(aF l)[0]?=some u:=⟨_,List.getElem?_eq_getElem (by rw[K];omega)⟩
  exact .inr ⟨g,o,rfl,World.block_lt_of_cell? w _ (hc 0 u hu)⟩
 have hmlt:m<w.heap.size:=lt_of_block hm
 have hg2:g2<w.heap.size:=by
  obtain⟨K,a',c',he,-,-,-,h4⟩:=X;obtain⟨g,o,e,hc⟩:=h4 (by rw[K];decide);cases he;cases e
  obtain⟨u,hu⟩:∃u,(b.map vb)[0]?=some u:=⟨_,List.getElem?_eq_getElem (by rw[K];decide)⟩
  exact World.block_lt_of_cell? w _ (hc 0 u hu)
 rw[T] at hr h1 h3 hv ⊢;have e1:¬((n:Int)<1):=by omega
 have e3:¬(3<(n:Int)):=by omega
 have Q:=O h;have r:=O hm;have R:=O hr;have A:=O X;have HLP:=O hl;have HLD:=O hld;have HLO:=O hlo;have HV:=O hv;have HVB:=O hvb;have HG0:=O hg0;have HS:=O (by have:=vA h hm _ l (by rw[T];exact hr) hl;exact this);have HK0:=O (aA.refl aB w);clear h hm hr X hl hld hlo hv hvb T hg0;have y:=lN w;go_in;clear HS HK0;go_wp2_with fail;refine(Bu w m a r.out).mono ?_;rintro e w1 ⟨rfl,f⟩;replace y:=kL y f;replace Q:=O (Q.keep0 f);replace r:=O (f.blk r.out id);replace R:=O (R.keep f fun _ _=>id);replace A:=O (A.keep f fun _ _=>id);clear f;go_wp2_with fail;refine(vA Q.out r.out _ l (by rw[HN.out];exact R.out) HLP.out).mono ?_;rintro e w2 ⟨rfl,f⟩;replace y:=kL y f;replace Q:=O (Q.keep0 f);replace r:=O (f.blk r.out id);replace R:=O (R.keep f fun _ _=>id);replace A:=O (A.keep f fun _ _=>id);clear f;go_wp2_with fail;refine(Gy w2 _ l (by rw[HN.out];exact R.out) HLD.out HLO.out).mono ?_;rintro e w3 ⟨rfl,f⟩;replace y:=kL y f;replace Q:=O (Q.keep0 f);replace r:=O (f.blk r.out id);replace R:=O (R.keep f fun _ _=>id);replace A:=O (A.keep f fun _ _=>id);clear f;go_wp2_with fail;have H0:Hid (MPI w3 w3 a B B D Z Mm nw 0 l b):=O ⟨by rw[List.take_zero];exact Q.out,fun i h=>.inl h,aA.refl _ _⟩;have hmw:m<w3.heap.size:=lt_of_block r.out;have HM0:Hid (w.heap.size≤w3.heap.size):=O y.keep.size;have HK0:=O y.keep;have hmw2:w.heap.size≤w3.heap.size:=HM0.out;have HRW:=O R.out;have HRBW:=O A.out;have HMMW:=O r.out
 go_loopw [8,41] (fun c i wr=>∃(k:Nat) (W:Nat->Prop),k≤n/\i=.int .i64 k/\c=.int .i64 k/\Hid (MPI w3 wr a B W D Z Mm nw k l b)) (fun _ i _=>n-(intOf i).toNat)
 case atStart=>exact⟨0,B,by omega,rfl,rfl,H0⟩
 case round =>
  clear H0 y Q;obtain⟨k,W,f,rfl,rfl,P⟩:=hrel
  by_cases hk8:k<n
  ·obtain⟨x,hx⟩:∃x,l[k]?=some x:=⟨l[k]'(by rw[HN.out];exact hk8),List.getElem?_eq_getElem _⟩
   obtain⟨d,s,rfl,hd,hs5,hsZ⟩:=lS (HLP.out x (List.mem_of_getElem? hx));have HKW:=O P.keep;have hrr:=HRW.keep HKW.out HV.out;rw[←HN.out] at hrr;obtain⟨g,o,cap',hv,hat⟩:=fO hrr hx;obtain rfl:oa=some ⟨g,o,none⟩:=by cases hv;rfl
   have HX:=O hat;have HXX:=O hx;have hnB:¬W g2:=fun e=>(P.grow g2 e).elim (HVB.out g2 rfl) (by omega)
   have hnm:¬W m:=fun e=>(P.grow m e).elim hmB (by omega)
   have j:=O (HRBW.keep HKW.out HVB.out);have t:Hid (eQ wr m a):=O (HKW.blk HMMW.out hmB);have z:=O P.arr;have y:=O (Loc.nil W W wr);have hk0:(0:Int)≤(k:Int):=by omega
   have hk1:(k:Int)<(n:Int):=by omega
   have hnk:nw+k<100000000000:=by omega
   clear hx hrr hat hv
   go_wp2_with ((with_reducible show WL _ _);first
    | refine wpList_load_mid rfl 82 (.tmp 43) rfl g (o+k*2) rfl (aM ⟨(d:Int),(s:Int)⟩) _ HX.out bB rfl (by rw[bE];exact iU) ?_
    | refine al 82 (.agg jN.toArray) (jN.toArray) uT ?_)
   intro H w4 hbs hk0 Y
   go_wp2_with ((with_reducible show WL _ _);refine sta 82 (.tmp 10) (.tmp 44) H 0 (aM ⟨(d:Int),(s:Int)⟩) Y (by first|decide|(rw[List.size_toArray,bE];exact Nat.le_refl _)|simp[bE]) (by rw[bE];exact iU) (bG _) ?_)
   intro w5 f X;rw[aK _ _ (by first|rfl|(rw[List.size_toArray,bE];rfl)|simp[bE])] at X;replace f:=tX hk0 f (fun i hi e=>by omega);replace y:=O (y.new (fun _ f=>z.lt f) hbs f X);replace HX:=O (f.rangeAt HX.out);replace z:=O (z.keep0 f);replace t:=O (f.blk t.out id);replace j:=O (j.keep f fun _ _=>id);clear hbs f X hk0 Y;clear HX;go_wp2_with fail;refine dwA W (by kernel_rfl) ?_;intro w6 S G HSI I J;replace y:=kL y J;replace z:=O (z.keep0 J);replace t:=O (J.blk t.out id);replace j:=O (j.keep J fun _ _=>id);clear J;have E:=y;have HAWs:=z;have F:=t;have HRB2s:=j;refine tna 0 (.pointer m) rfl I ?_;refine tnb 1 (.pointer m) rfl I ?_;refine tnb 2 (.pointer m) rfl I ?_;refine tnd 3 (.pointer a) rfl (.inl ⟨by rfl,fun w' L=>by have c:World.cell? w' ⟨m,0,none⟩=some (.pointer a):=(G.out w' L).cell (eQ.c0 F.out) hnm;go_simp⟩) I ?_;refine tnb 4 (.pointer H) rfl I ?_;refine tnd 5 (.int .i64 (d:Int)) rfl (.inl ⟨by rfl,fun w' L=>by have c:World.cell? w' ⟨H,0,none⟩=some (.int .i64 (d:Int)):=(aC (i:=0) ((G.out w' L).blk (E.b 0) ((E.aq 0))) rfl);go_simp⟩) I ?_;refine tnb 6 (.pointer (some ⟨H,1,none⟩)) rfl I ?_;refine tnd 7 (.int .i64 (s:Int)) rfl (.inl ⟨by rfl,fun w' L=>by have c:World.cell? w' ⟨H,1,none⟩=some (.int .i64 (s:Int)):=(aC (i:=1) ((G.out w' L).blk (E.b 0) ((E.aq 0))) rfl);go_simp⟩) I ?_;refine tna 8 (.slice (some ⟨g2,o2,none⟩) 256 c2) rfl I ?_;refine wA9 9 ?_;go_wp2_with fail;refine(oW z.out hd hsZ b hbl _ j.out (fun i hi=>by cases hi;exact hnB) hnk).mono ?_;rintro e w7 ⟨rfl,B2,ha2,hg2,C⟩;have hS1:=HSI.out _ ((G.out _ I).trans C);have hkk:=P.keep.trans' ((y.keep).trans C) (U:=B) (fun _ _ h=>h) (fun i hi e=>(P.grow i e).elim id (fun h=>absurd hi (by omega)));have HI2:Hid (MPI w3 w7 a B B2 D Z Mm nw (k+1) l b):=O ⟨by rw[List.take_add_one,HXX.out];show bR _ _ _ _ _ (lC b (l.take k++[⟨(d:Int),(s:Int)⟩]) Mm) _;rw[Bp];exact ha2,fun i hi=>(hg2 i hi).elim (fun h=>P.grow i h) (fun h=>.inr (Nat.le_trans (Nat.le_trans P.keep.size y.keep.size) h)),hkk⟩;clear ha2 hg2 C hkk I;go_wp2_with fail;refine⟨hS1,?_⟩;refine wpAnyH_done (by kernel_rfl) ?_ _;clear hS1 G HSI E HAWs F HRB2s;clear y z t j;go_wp2
   go_roundw
   case rel=>exact⟨k+1,_,by omega,by go_num,by go_num,HI2⟩
   case measure=>simp[intOf];omega
  ·obtain rfl:n=k:=by omega
   have HP:Hid (pS w a B D Z Mm nw l b (.returned (.tuple #[.int .i64 (n:Int),.int .i64 0])) wr):=O (by
    have h:=P.out;refine⟨by rw[HN.out],W,?_,fun i hi=>(h.grow i hi).imp id fun h=>by omega,HK0.any.trans h.keep⟩;have ha:=h.arr;rw[List.take_of_length_le (by rw[HN.out];exact Nat.le_refl _)] at ha;rw[HN.out];exact ha)
   clear P;go_wp2_with fail;refine(KT wr n (by omega)).mono ?_;rintro e w2 ⟨rfl,C⟩;have HP2:=O (HP.keep C);clear C HP;go_wp2
   go_ret2
   exact HP2.out
theorem lX{α β:Type}{l:List α}{f g:α->List β}(h:∀a∈l,f a=g a):l.flatMap f=l.flatMap g:=by
 induction l with
 | nil=>rfl
 | cons a l e=>rw[List.flatMap_cons,List.flatMap_cons,h a (List.mem_cons_self ..),e fun x c=>h x (List.mem_cons_of_mem _ c)]
def thr(f:Pt->Bool):Nat->Tr->Nat->List (Pt×Nat)
 | 0,t,a=>if t.isHole || !f t.ptr then [] else [(t.ptr,a)]
 | l+1,t,a=>if t.isHole || !f t.ptr then [] else (t.ptr,a)::(List.range 4).flatMap fun i=>thr f l (t.kid i) (a+i*4 ^ l)
def kV:Pt->Bool:=fun _=>true
def bF(x:Int):Pt->Bool:=fun p=>decide (x<p.birth)
theorem DT(f:Pt->Bool)(l a:Nat):thr f l .hole a=[]:=by cases l<;>rfl
theorem gZ(f:Pt->Bool)(t:Tr)(a:Nat):thr f 0 t a=if t.isHole || !f t.ptr then [] else [(t.ptr,a)]:=rfl
theorem hE(f:Pt->Bool)(l:Nat)(t:Tr)(a:Nat):thr f (l+1) t a=if t.isHole || !f t.ptr then [] else (t.ptr,a)::(List.range 4).flatMap fun i=>thr f l (t.kid i) (a+i*4 ^ l):=rfl
def G8:Nat->Tr->Prop
 | 0,_=>True
 | l+1,t=>∀i,i<4->((t.kid i).isHole=true\/(t.kid i).ptr.birth≤t.ptr.birth)/\G8 l (t.kid i)
theorem BK:∀l,G8 l .hole
 | 0=>trivial
 | l+1=>fun i _=>⟨.inl rfl,BK l⟩
theorem Tr.Ok.born{S:Kor}{t:Tr}(h:Tr.Ok S l t)(c:t.isHole=false):1≤t.ptr.birth/\t.ptr.birth≤S.txg+1/\t.ptr.level=(l:Int):=by
 cases t with
 | hole=>cases c
 | leaf p b=>cases l with
   | zero=>exact⟨h.1.born.1,h.1.born.2,h.1.lev⟩
   | succ l=>exact h.elim
 | node p k=>cases l with
   | zero=>exact h.elim
   | succ l=>exact⟨h.1.born.1,h.1.born.2,h.1.lev⟩
theorem Ft{S:Kor}:∀{l:Nat}{t:Tr},Tr.Ok S l t->∀{f:Pt->Bool}{a:Nat}{x:Pt×Nat},x∈thr f l t a->f x.1=true/\1≤x.1.birth/\0≤x.1.level/\x.1.level≤(l:Int)/\a≤x.2/\x.2<a+4 ^ l/\x.1.addrs≠[]/\∀y∈x.1.addrs,y∈S.L
 | 0,t,h,f,a,x,c=>by
   rw[gZ] at c
   by_cases e:(t.isHole || !f t.ptr)=true
   ·rw[if_pos e] at c;cases c
   ·rw[if_neg e] at c
    simp only[Bool.or_eq_true,not_or,Bool.not_eq_true,Bool.not_eq_false'] at e;obtain rfl:=List.mem_singleton.1 c;obtain⟨j,A,C⟩:=h.born e.1;obtain⟨k,n⟩:=h.lies e.1;exact⟨e.2,j,by show 0≤t.ptr.level;omega,by show t.ptr.level≤_;omega,Nat.le_refl _,by show a<a+4 ^ 0;rw[Nat.pow_zero];omega,k,n⟩
 | l+1,t,h,f,a,x,c=>by
   have I:0<4 ^ l:=Nat.pos_of_ne_zero (by simp);have E:4 ^ (l+1)=4*4 ^ l:=by rw[Nat.pow_succ,Nat.mul_comm]
   rw[hE] at c
   by_cases e:(t.isHole || !f t.ptr)=true
   ·rw[if_pos e] at c;cases c
   ·rw[if_neg e] at c
    simp only[Bool.or_eq_true,not_or,Bool.not_eq_true,Bool.not_eq_false'] at e;rcases List.mem_cons.1 c with rfl|c
    ·obtain⟨j,A,C⟩:=h.born e.1
     obtain⟨k,n⟩:=h.lies e.1;exact⟨e.2,j,by show 0≤t.ptr.level;omega,by show t.ptr.level≤_;omega,Nat.le_refl _,by show a<a+4 ^ (l+1);omega,k,n⟩
    ·obtain⟨i,g,c⟩:=List.mem_flatMap.1 c
     have g:=List.mem_range.1 g;obtain⟨o,r,u,F,G,H,v,z⟩:=Ft (h.kid g) c
     have:i*4 ^ l+4 ^ l≤4*4 ^ l:=by
      have:=Nat.mul_le_mul_right (4 ^ l) (Nat.succ_le_of_lt g);rw[Nat.succ_mul] at this;exact this
     exact⟨o,r,u,by omega,by omega,by omega,v,z⟩
def fX(l:Nat)(t:Tr):List Pt:=(thr kV l t 0).map fun x=>x.1
def eJ(l:Nat)(t:Tr):List Ad:=(thr kV l t 0).flatMap fun x=>x.1.addrs
theorem DU(f:Pt->Bool):∀(l:Nat) (t:Tr) (a b:Nat),(thr f l t (a+b))=(thr f l t a).map fun x=>(x.1,x.2+b)
 | 0,t,a,b=>by rw[gZ,gZ];split<;>rfl
 | l+1,t,a,b=>by
   rw[hE,hE];split
   ·rfl
   ·rw[List.map_cons,List.map_flatMap]
    congr 1
    refine lX fun i _=>?_
    rw[show a+b+i*4 ^ l=a+i*4 ^ l+b by omega,DU f l (t.kid i) _ b]
theorem M9(l:Nat)(t:Tr)(a:Nat):((thr kV l t a).flatMap fun x=>x.1.addrs)=eJ l t:=by
 unfold eJ;have:=DU kV l t 0 a;rw[Nat.zero_add] at this;rw[this,List.flatMap_map]
theorem BL(l:Nat):eJ l .hole=[]:=by unfold eJ;rw[DT];rfl
theorem JJ(t:Tr):eJ 0 t=if t.isHole then [] else t.ptr.addrs:=by
 unfold eJ;rw[gZ];cases t.isHole<;>simp[kV]
theorem BM(l:Nat)(t:Tr):eJ (l+1) t=if t.isHole then [] else t.ptr.addrs++(List.range 4).flatMap fun i=>eJ l (t.kid i):=by
 unfold eJ;rw[hE];cases t.isHole with
 | true=>rfl
 | false =>
   simp only[kV,Bool.not_true,Bool.false_eq_true,if_false,List.flatMap_cons,List.flatMap_assoc,Bool.or_self]
   congr 1
   exact lX fun i _=>M9 l (t.kid i) _
theorem Na(l:Nat)(t:Tr)(a:Nat):((thr kV l t a).map fun x=>x.1)=fX l t:=by
 unfold fX;have:=DU kV l t 0 a;rw[Nat.zero_add] at this;rw[this,List.map_map];rfl
theorem BN(l:Nat):fX l .hole=[]:=by unfold fX;rw[DT];rfl
theorem JK(t:Tr):fX 0 t=if t.isHole then [] else [t.ptr]:=by
 unfold fX;rw[gZ];cases t.isHole<;>simp[kV]
theorem BO(l:Nat)(t:Tr):fX (l+1) t=if t.isHole then [] else t.ptr::(List.range 4).flatMap fun i=>fX l (t.kid i):=by
 unfold fX;rw[hE];cases t.isHole with
 | true=>rfl
 | false =>
   simp only[kV,Bool.not_true,Bool.false_eq_true,if_false,List.map_cons,List.map_flatMap,Bool.or_self]
   congr 1
   exact lX fun i _=>Na l (t.kid i) _
theorem DV{t:Tr}{a:Ad}:a∈eJ l t↔∃x∈fX l t,a∈x.addrs:=by
 unfold eJ fX;rw[List.mem_flatMap];constructor
 ·rintro⟨x,c,e⟩;exact⟨x.1,List.mem_map.2 ⟨x,c,rfl⟩,e⟩
 ·rintro⟨x,c,e⟩
  obtain⟨y,f,rfl⟩:=List.mem_map.1 c;exact⟨y,f,e⟩
theorem Ae{S:Kor}(g:S.Bd){T:Kor}(h:S.put lv b=some (p,T)):p.addrs.length=S.cp/\p.birth=S.txg+1/\p.level=(lv:Int):=by
 unfold Kor.put at h;cases e:cC (cE S.L S.D S.Z) S.allUp S.cp with
 | none=>rw[e] at h;cases h
 | some l =>
   rw[e] at h;have h:=Option.some.inj h;injection h with f j
   subst f;refine⟨?_,rfl,rfl⟩;show (bD S.L S.Z l).length=S.cp
   have c:upN S.allUp=S.D:=by
    unfold upN Kor.allUp;rw[List.countP_replicate];rfl
   rw[lP,(fE e).2.1];unfold kS;rw[c];exact Nat.min_eq_left g.cD
def jH(S:Kor)(l:Nat)(t u:Tr):Prop:=∀x∈fX l u,x∈fX l t\/(x.addrs.length=S.cp/\∀a∈x.addrs,a ∉ S.L)
theorem jH.ads{S:Kor}{t u:Tr}(h:jH S l t u):∀a∈eJ l u,a∈eJ l t\/a ∉ S.L:=fun a f=>by
 obtain⟨x,e,c⟩:=DV.1 f;exact(h x e).imp (fun h=>DV.2 ⟨x,h,c⟩) fun h=>h.2 a c
theorem jH.refl(S:Kor)(l:Nat)(t:Tr):jH S l t t:=fun x c=>.inl c
theorem jH.hole(S:Kor)(l:Nat)(t:Tr):jH S l t .hole:=fun x c=>by rw[BN] at c;cases c
theorem LA{t:Tr}(i:Nat)(f:i<4):∀a∈fX l (t.kid i),a∈fX (l+1) t:=fun a c=>by
 rw[BO];cases e:t.isHole with
 | true =>
   rw[gR e] at c;rw[show Tr.kid .hole i=.hole from rfl,BN] at c;cases c
 | false=>exact List.mem_cons_of_mem _ (List.mem_flatMap.2 ⟨i,List.mem_range.2 f,c⟩)
theorem Fu{S:Kor}{t:Tr}(h:Tr.Ok S l t):∀a∈eJ l t,a∈S.L:=fun a c=>by
 unfold eJ at c;obtain⟨x,f,e⟩:=List.mem_flatMap.1 c;exact(Ft h f).2.2.2.2.2.2.2 a e
theorem Af{A:Nat->List Ad}:((List.range 4).flatMap A).Nodup↔(∀i,i<4->(A i).Nodup)/\∀i j,i<4->j<4->i≠j->∀x∈A i,∀y∈A j,x≠y:=by
 unfold List.Nodup;rw[List.pairwise_flatMap];constructor
 ·rintro⟨o,e⟩
  refine⟨fun i c=>o i (List.mem_range.2 c),fun i j c f r x g y k=>?_⟩;rw[List.pairwise_iff_getElem] at e;rcases Nat.lt_or_gt_of_ne r with h|h
  ·have:=e i j (by simpa using c) (by simpa using f) h
   simp only[List.getElem_range] at this;exact this x g y k
  ·have:=e j i (by simpa using f) (by simpa using c) h
   simp only[List.getElem_range] at this;exact(this y k x g).symm
 ·rintro⟨o,e⟩
  refine⟨fun i c=>o i (List.mem_range.1 c),List.Pairwise.imp_of_mem ?_ (List.nodup_range (n:=4))⟩;intro i j c f r x g y k;exact e i j (List.mem_range.1 c) (List.mem_range.1 f) r x g y k
structure jU(S:Kor)(l:Nat)(t:Tr):Prop where
 ok:Tr.Ok S l t
 aged:G8 l t
 apart:(eJ l t).Nodup
theorem jU.hole(S:Kor)(l:Nat):jU S l .hole:=⟨Tr.ok_hole S l,BK l,by rw[BL];exact List.nodup_nil⟩
structure rX(S T:Kor)(l:Nat)(t:Tr)(k:Nat->Tr):Prop where
 ext:Ext S T
 ok:∀i,i<4->Tr.Ok T l (k i)
 aged:∀i,i<4->G8 l (k i)
 nd:∀i,i<4->(eJ l (k i)).Nodup
 old:∀i,i<4->jH S l (t.kid i) (k i)
 ap:∀i j,i<4->j<4->i≠j->∀x∈eJ l (k i),∀y∈eJ l (k j),x≠y
theorem jU.kids{S:Kor}{t:Tr}(h:jU S (l+1) t):(∀i,i<4->(eJ l (t.kid i)).Nodup)/\∀i j,i<4->j<4->i≠j->∀x∈eJ l (t.kid i),∀y∈eJ l (t.kid j),x≠y:=by
 have:=h.apart;rw[BM] at this;cases c:t.isHole with
 | true =>
   have e:∀i,eJ l (t.kid i)=[]:=fun i=>by rw[gR c];exact BL l
   exact⟨fun i _=>by rw[e];exact List.nodup_nil,fun i j _ _ _ x f=>by rw[e] at f;cases f⟩
 | false =>
   rw[c] at this;exact Af.1 (List.nodup_append.1 this).2.1
theorem jU.parts{S:Kor}{t:Tr}(h:jU S (l+1) t):rX S S l t t.kid:=
 ⟨Ext.refl S,fun i c=>h.ok.kid c,fun i c=>(h.aged i c).2,h.kids.1,fun i c=>jH.refl S l _,h.kids.2⟩
theorem jU.kid{S:Kor}{t:Tr}(h:jU S (l+1) t)(c:i<4):jU S l (t.kid i):=⟨h.ok.kid c,(h.aged i c).2,h.kids.1 i c⟩
theorem rX.put{S T U:Kor}{t:Tr}{k:Nat->Tr}(h:rX S T l t k)(F:i<4)(G:k i=t.kid i){u:Tr}(e:Ext T U)(v:jU U l u)(A:jH T l (t.kid i) u):rX S U l t (fC k i u):=by
 have o:∀j,j<4->j≠i->∀x∈eJ l (k j),∀y∈eJ l u,x≠y:=fun j f g x n y z=>by
  rcases A.ads y z with r|r
  ·exact h.ap j i f F g x n y (by rw[G];exact r)
  ·rintro rfl
   exact r (Fu (h.ok j f) x n)
 refine⟨h.ext.trans e,fun j f=>?_,fun j f=>?_,fun j f=>?_,fun j f=>?_,fun j q f C g=>?_⟩
 ·by_cases c:j=i
  ·rw[c,iH];exact v.ok
  ·rw[iI _ _ c];exact(h.ok j f).ext e
 ·by_cases c:j=i
  ·rw[c,iH];exact v.aged
  ·rw[iI _ _ c];exact h.aged j f
 ·by_cases c:j=i
  ·rw[c,iH];exact v.apart
  ·rw[iI _ _ c];exact h.nd j f
 ·by_cases c:j=i
  ·rw[c,iH];exact fun x n=>(A x n).imp id fun g=>⟨g.1.trans h.ext.cp,fun a E H=>g.2 a E (h.ext.L a H)⟩
  ·rw[iI _ _ c];exact h.old j f
 ·by_cases c:j=i
  ·subst c
   rw[iH,iI _ _ (Ne.symm g)];exact fun x n y z=>(o q C (Ne.symm g) y z x n).symm
  ·rw[iI _ _ c]
   by_cases d:q=i
   ·subst d
    rw[iH];exact o j f g
   ·rw[iI _ _ d]
    exact h.ap j q f C g
theorem JL{S:Kor}(j:S.Bd)(k:b.length=256){u:Tr}{T:Kor}(h:S.leaf b=(some u,T))(t:Tr):jU T 0 u/\jH S 0 t u:=by
 have h0:=Fk j k h;unfold Kor.leaf at h
 by_cases o:b=zB
 ·rw[if_pos o] at h
  injection h with c f
  injection c with c
  subst c f;exact⟨jU.hole S 0,jH.hole _ _ _⟩
 ·rw[if_neg o] at h
  cases g:S.put 0 b with
  | none=>rw[g] at h;injection h with c f;cases c
  | some x =>
    obtain⟨p,U⟩:=x;rw[g] at h;injection h with c f
    injection c with c
    subst c f;obtain⟨y,z,A,C,-,r,v,-⟩:=pQ j (by omega) k g;have e:eJ 0 (.leaf p b)=p.addrs:=by rw[JJ];rfl
    refine⟨⟨(h0.2 _ rfl).1,trivial,by rw[e];exact v⟩,fun x n=>.inr ?_⟩;rw[JK] at n;obtain rfl:=List.mem_singleton.1 n;exact⟨(Ae j g).1,r⟩
theorem rX.lay{S T U:Kor}{t:Tr}{k:Nat->Tr}(h:rX S T l t k)(r:T.Bd)(I:l≤2){u:Tr}(g:T.lay (l+1) k=(some u,U)):jU U (l+1) u/\jH S (l+1) t u:=by
 have h0:=IZ r I h.ok g;unfold Kor.lay at g
 by_cases E:gH k=true
 ·rw[if_pos E] at g
  injection g with f n
  injection f with f
  subst f n;exact⟨jU.hole _ _,jH.hole _ _ _⟩
 ·rw[if_neg E] at g
  cases o:T.put (l+1) (cW (l+1) (fI k)) with
  | none=>rw[o] at g;injection g with f n;cases f
  | some x =>
    obtain⟨p,V⟩:=x;rw[o] at g;injection g with f n
    injection f with f
    subst f n;obtain⟨K,L,P,Q,F,A,G,-⟩:=pQ r (by omega) (AH h.ok) o;have e:eJ (l+1) (.node p k)=p.addrs++(List.range 4).flatMap fun i=>eJ l (k i):=by rw[BM];rfl
    refine⟨⟨(h0.2 _ rfl).1,fun i j=>⟨?_,h.aged i j⟩,?_⟩,?_⟩
    ·cases C:(k i).isHole with
     | true=>exact .inl C
     | false =>
       right;show (k i).ptr.birth≤p.birth;rw[F];exact((h.ok i j).born C).2.1
    ·rw[e,List.nodup_append]
     refine⟨G,Af.2 ⟨h.nd,h.ap⟩,fun x c y z v=>?_⟩;obtain⟨i,j,z⟩:=List.mem_flatMap.1 z;rw[v] at c;exact A y c (Fu (h.ok i (List.mem_range.1 j)) y z)
    ·intro x c
     have c:x∈p::(List.range 4).flatMap fun i=>fX l (k i):=by rw[BO] at c;exact c
     rcases List.mem_cons.1 c with rfl|c
     ·exact .inr ⟨(Ae r o).1.trans h.ext.cp,fun a H J=>A a H (h.ext.L a J)⟩
     ·obtain⟨i,j,c⟩:=List.mem_flatMap.1 c
      exact(h.old i (List.mem_range.1 j) x c).imp (LA i (List.mem_range.1 j) x) id
theorem BP(c:b.length=256)(n:Nat):∀{l:Nat},l≤3->∀{S:Kor}{t:Tr},S.Bd->jU S l t->∀{u:Tr}{T:Kor},eI l S t n b=(some u,T)->jU T l u/\jH S l t u
 | 0,_,S,t,e,f,u,T,h=>by
   exact JL e c h t
 | l+1,C,S,t,e,f,u,T,h=>by
   unfold eI at h;cases g:eI l S (t.kid (n / 4 ^ l % 4)) n b with
   | mk v y =>
     rw[g] at h;cases v with
     | none=>injection h with k A;cases k
     | some E =>
       obtain⟨j,z⟩:=pC c n (by omega) e (f.ok.kid (gI n l)) g;obtain⟨o,r⟩:=BP c n (by omega) e (f.kid (gI n l)) g;exact(f.parts.put (gI n l) rfl j.ext o r).lay j.bd (by omega) h
def unl:Nat->Tr->Tr->Nat->List Nat
 | 0,s,t,a=>if s.ptr.eqB t.ptr then [] else [a]
 | l+1,s,t,a=>if s.ptr.eqB t.ptr then [] else (List.range 4).flatMap fun i=>unl l (s.kid i) (t.kid i) (a+i*4 ^ l)
theorem yD(s t:Tr)(a:Nat):unl 0 s t a=if s.ptr.eqB t.ptr then [] else [a]:=rfl
theorem lF(l:Nat)(s t:Tr)(a:Nat):unl (l+1) s t a=if s.ptr.eqB t.ptr then [] else (List.range 4).flatMap fun i=>unl l (s.kid i) (t.kid i) (a+i*4 ^ l):=rfl
theorem mV(l:Nat)(t:Tr)(a:Nat):unl l t t a=[]:=by
 cases l with
 | zero=>rw[yD,Dp];rfl
 | succ l=>rw[lF,Dp];rfl
theorem Tr.Ok.pmay{S:Kor}{t:Tr}(h:Tr.Ok S l t):t.ptr.may=true:=by
 cases t with
 | hole=>exact jM iQ
 | leaf p b=>cases l with
   | zero=>exact h.1.may
   | succ l=>exact h.elim
 | node p k=>cases l with
   | zero=>exact h.elim
   | succ l=>exact h.1.may
theorem Ag{S:Kor}:∀{l:Nat}{t:Tr},Tr.Ok S l t->∀(a:Nat),thr (bF 0) l t a=thr kV l t a
 | 0,t,h,a=>by
   rw[gZ,gZ];cases c:t.isHole with
   | true=>rfl
   | false =>
     have e:bF 0 t.ptr=true:=decide_eq_true (by have:=(h.born c).1;omega);rw[e];rfl
 | l+1,t,h,a=>by
   rw[hE,hE];cases c:t.isHole with
   | true=>rfl
   | false =>
     have e:bF 0 t.ptr=true:=decide_eq_true (by have:=(h.born c).1;omega);rw[e]
     have g:((List.range 4).flatMap fun i=>thr (bF 0) l (t.kid i) (a+i*4 ^ l))=(List.range 4).flatMap fun i=>thr kV l (t.kid i) (a+i*4 ^ l):=
      lX fun i f=>Ag (h.kid (List.mem_range.1 f)) _
     rw[g];rfl
end
end Go.Proofs.YtiinnfhjpaeffaaGreat
