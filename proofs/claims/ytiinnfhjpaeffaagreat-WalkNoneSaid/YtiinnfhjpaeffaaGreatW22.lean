import Derived.Test.YtiinnfhjpaeffaaGreatW1
import Derived.Test.YtiinnfhjpaeffaaGreatW10
import Derived.Test.YtiinnfhjpaeffaaGreatW21
namespace Go.Proofs.YtiinnfhjpaeffaaGreat
set_option maxHeartbeats 64000000
set_option maxRecDepth 100000
set_option linter.unusedVariables false
section
open Go.RowKit Go.Maps Go.ChangeMaps
structure Kor where
 D:Nat
 Z:Nat
 cp:Nat
 L:List Ad
 M:Nat->Nat->List UInt8
 txg:Int
structure Kor.Bd(S:Kor):Prop where
 d2:2≤S.D
 d8:S.D≤8
 z8:8≤S.Z
 z4:S.Z≤4096
 c1:1≤S.cp
 c3:S.cp≤3
 cD:S.cp≤S.D
 t0:0≤S.txg
 t1:S.txg<2147483648
def kX(b:List UInt8):List Ad->(Nat->Nat->List UInt8)->Nat->Nat->List UInt8
 | [],M=>M
 | a::l,M=>kX b l (fP M a.dev.toNat a.sec.toNat b)
theorem AZ(b:List UInt8)(a:Ad):∀(l:List Ad) (M:Nat->Nat->List UInt8),kX b (l++[a]) M=fP (kX b l M) a.dev.toNat a.sec.toNat b
 | [],M=>rfl
 | x::l,M=>AZ b a l _
theorem EV(b:List UInt8):∀(l:List Ad) (M:Nat->Nat->List UInt8) (d s:Nat),((∃a∈l,d=a.dev.toNat/\s=a.sec.toNat)\/M d s=b)->kX b l M d s=b
 | [],M,d,s,h=>by
   rcases h with⟨a,ha,-⟩|h
   ·cases ha
   ·exact h
 | x::l,M,d,s,h=>by
   refine EV b l _ d s ?_;rcases h with⟨a,ha,h1,h2⟩|h
   ·rcases List.mem_cons.1 ha with rfl|ha
    ·right;unfold fP;rw[if_pos ⟨h1,h2⟩]
    ·exact .inl ⟨a,ha,h1,h2⟩
   ·right;unfold fP;split
    ·rfl
    ·exact h
theorem xE(b:List UInt8):∀(l:List Ad) (M:Nat->Nat->List UInt8) (d s:Nat),(∀a∈l,¬(d=a.dev.toNat/\s=a.sec.toNat))->kX b l M d s=M d s
 | [],M,d,s,h=>rfl
 | x::l,M,d,s,h=>by
   rw[kX,xE b l _ d s fun a ha=>h a (List.mem_cons_of_mem _ ha)];unfold fP;rw[if_neg (h x (List.mem_cons_self ..))]
def Kor.allUp(S:Kor):List Bool:=List.replicate S.D true
def Kor.put(S:Kor)(lv:Nat)(b:List UInt8):Option (Pt×Kor):=
 match bV (bX S.L S.D S.Z) S.allUp S.cp with
 | none=>none
 | some l=>some (⟨bB S.L S.Z l,S.txg+1,(lv:Int),cR b⟩,⟨S.D,S.Z,S.cp,S.L++bB S.L S.Z l,kX b (bB S.L S.Z l) S.M,S.txg⟩)
structure Ext(S T:Kor):Prop where
 D:T.D=S.D
 Z:T.Z=S.Z
 cp:T.cp=S.cp
 txg:S.txg≤T.txg
 L:∀a∈S.L,a∈T.L
 M:∀a∈S.L,dZ a S.D S.Z->T.M a.dev.toNat a.sec.toNat=S.M a.dev.toNat a.sec.toNat
theorem Ext.refl(S:Kor):Ext S S:=⟨rfl,rfl,rfl,Int.le_refl _,fun _ h=>h,fun _ _ _=>rfl⟩
theorem Ext.trans{S T U:Kor}(h:Ext S T)(k:Ext T U):Ext S U:=
 ⟨k.D.trans h.D,k.Z.trans h.Z,k.cp.trans h.cp,Int.le_trans h.txg k.txg,fun a ha=>k.L a (h.L a ha),fun a ha hp=>(k.M a (h.L a ha) (by rw[h.D,h.Z];exact hp)).trans (h.M a ha hp)⟩
structure jB(S:Kor)(p:Pt)(lv:Nat)(b:List UInt8):Prop where
 may:p.may=true
 ne:p.addrs≠[]
 lev:p.level=(lv:Int)
 sum:p.sum=cR b
 len:b.length=256
 born:1≤p.birth/\p.birth≤S.txg+1
 lies:∀a∈p.addrs,dZ a S.D S.Z/\a∈S.L/\S.M a.dev.toNat a.sec.toNat=b
theorem jB.ext{S T:Kor}{p:Pt}{lv:Nat}{b:List UInt8}(h:jB S p lv b)(e:Ext S T):jB T p lv b:=
 ⟨h.may,h.ne,h.lev,h.sum,h.len,⟨h.born.1,Int.le_trans h.born.2 (Int.add_le_add_right e.txg 1)⟩,fun a ha=>by
  obtain⟨h1,h2,h3⟩:=h.lies a ha;exact⟨by rw[e.D,e.Z];exact h1,e.L a h2,(e.M a h2 h1).trans h3⟩⟩
theorem jB.sl{S:Kor}{p:Pt}{lv:Nat}{b:List UInt8}(h:jB S p lv b):p.sum.length=32:=by rw[h.sum,cP]
theorem jB.ne_hole{S:Kor}{p:Pt}{lv:Nat}{b:List UInt8}(h:jB S p lv b):p.hole=false:=by
 unfold Pt.hole
 have:((p.addrs.length:Int) == 0)=false:=by
  rw[beq_eq_false_iff_ne];intro e;exact h.ne (List.eq_nil_of_length_eq_zero (by omega))
 rw[this,Bool.false_and]
theorem iI:zPt.hole=true:=by decide
theorem pN{S:Kor}(hb:S.Bd){lv:Nat}(hlv:lv≤3){b:List UInt8}(hl:b.length=256){p:Pt}{T:Kor}(h:S.put lv b=some (p,T)) :
 jB T p lv b/\Ext S T/\T.Bd/\T.txg=S.txg/\p.birth=S.txg+1/\(∀a∈p.addrs,a ∉ S.L)/\p.addrs.Nodup/\∃l,bV (bX S.L S.D S.Z) S.allUp S.cp=some l/\T.L=S.L++bB S.L S.Z l/\p.addrs=bB S.L S.Z l:=by
 unfold Kor.put at h;cases hc:bV (bX S.L S.D S.Z) S.allUp S.cp with
 | none=>rw[hc] at h;cases h
 | some l =>
   rw[hc] at h;have h:=Option.some.inj h;injection h with h1 h2
   subst h1 h2;have hbd:2≤S.D/\S.D≤8/\8≤S.Z/\S.Z≤4096:=⟨hb.d2,hb.d8,hb.z8,hb.z4⟩
   have hnew:=fun x hx=>AQ hbd hc (x:=x) hx
   obtain⟨-,hlen,hup,hnd,hmem⟩:=eZ hc;have hin:∀a∈bB S.L S.Z l,dZ a S.D S.Z:=fun a ha=>(zZ hbd).1 (hnew a ha).1
   have hup2:upN S.allUp=S.D:=by
    unfold upN Kor.allUp;rw[List.countP_replicate];rfl
   have hlcp:l.length=S.cp:=by
    rw[hlen];unfold kO;rw[hup2];exact Nat.min_eq_left hb.cD
   have hnd2:=Ea hc
   have hdevs:((bB S.L S.Z l).map (·.dev)).Nodup:=by
    unfold bB;rw[List.map_map];have:((fun(x:Ad)=>x.dev) ∘ fun(d:Nat)=>(⟨(d:Int),(aY S.L d S.Z).headD 0⟩:Ad))=fun(d:Nat)=>(d:Int):=rfl
    rw[this];show List.Pairwise _ _;rw[List.pairwise_map];exact hnd.imp fun h e=>h (by exact_mod_cast e)
   refine⟨⟨?_,?_,rfl,rfl,hl,⟨?_,Int.le_refl _⟩,?_⟩,⟨rfl,rfl,rfl,Int.le_refl _,fun a ha=>List.mem_append_left _ ha,?_⟩,⟨hb.d2,hb.d8,hb.z8,hb.z4,hb.c1,hb.c3,hb.cD,hb.t0,hb.t1⟩,rfl,rfl,fun a ha=>(hnew a ha).2.1,hnd2,l,rfl,rfl,rfl⟩
   ·unfold Pt.may qS Pt.numsB
    rw[Bool.or_eq_true];right;have t0:=hb.t0;have t1:=hb.t1;have c1:=hb.c1;have c3:=hb.c3;simp only[Bool.and_eq_true,decide_eq_true_eq,List.all_eq_true,lK];refine⟨⟨⟨⟨fun a ha=>?_,hdevs⟩,by omega⟩,by omega⟩,⟨⟨by omega,by omega⟩,by omega⟩,by omega⟩;obtain⟨h1,h2,h3,h4⟩:=hin a ha;unfold kG;have d8:=hb.d8;have z4:=hb.z4;simp only[Bool.and_eq_true,decide_eq_true_eq];exact⟨⟨⟨h1,by show a.1<8;omega⟩,h3⟩,by show a.2<4096;omega⟩
   ·intro e
    have:=congrArg List.length e;rw[lK] at this;have c1:=hb.c1;simp at this;rw[this] at hlcp;simp at hlcp;omega
   ·have t0:=hb.t0
    show 1≤S.txg+1;omega
   ·exact fun a ha=>⟨hin a ha,List.mem_append_right _ ha,EV b _ _ _ _ (.inl ⟨a,ha,rfl,rfl⟩)⟩
   ·intro a ha hp
    refine xE b _ _ _ _ fun x hx e=>(hnew x hx).2.1 ?_
    obtain⟨x1,x2,x3,x4⟩:=hin x hx;obtain⟨a1,a2,a3,a4⟩:=hp
    have:x=a:=by
     obtain⟨xd,xs⟩:=x;obtain⟨ad,at2⟩:=a;simp only[] at *;have e1:xd=ad:=by have:=e.1;omega
     have e2:xs=at2:=by have:=e.2;omega
     rw[e1,e2]
    rw[this];exact ha
def cQ(lv:Nat)(ps:List Pt):List UInt8:=UInt8.ofNat lv::ps.flatMap bY++List.replicate 67 0
theorem Nq{lv:Nat}{p q r s:Pt}(h0:p.sum.length=32)(h1:q.sum.length=32)(h2:r.sum.length=32)(h3:s.sum.length=32):(cQ lv [p,q,r,s]).length=256:=by
 unfold cQ;simp[eP h0,eP h1,eP h2,eP h3]
inductive Tr where
 | hole:Tr
 | leaf:Pt->List UInt8->Tr
 | node:Pt->(Nat->Tr)->Tr
def Tr.ptr:Tr->Pt
 | .hole=>zPt
 | .leaf p _=>p
 | .node p _=>p
def Tr.isHole:Tr->Bool
 | .hole=>true
 | _=>false
def Tr.kid:Tr->Nat->Tr
 | .node _ k,i=>k i
 | _,_=>.hole
def fB(k:Nat->Tr):List Pt:=[(k 0).ptr,(k 1).ptr,(k 2).ptr,(k 3).ptr]
def gA(k:Nat->Tr):Bool:=(k 0).isHole && (k 1).isHole && (k 2).isHole && (k 3).isHole
def Tr.Ok(S:Kor):Nat->Tr->Prop
 | _,.hole=>True
 | 0,.leaf p b=>jB S p 0 b/\b≠zB
 | 0,.node _ _=>False
 | _+1,.leaf _ _=>False
 | l+1,.node p k=>jB S p (l+1) (cQ (l+1) (fB k))/\(∀i,i<4->Tr.Ok S l (k i))/\gA k=false
def Tr.many:Nat->Tr->Nat
 | _,.hole=>0
 | _,.leaf _ _=>1
 | 0,.node _ _=>0
 | l+1,.node _ k=>(k 0).many l+(k 1).many l+(k 2).many l+(k 3).many l
def eX(k:Nat->Tr)(i:Nat)(t:Tr):Nat->Tr:=fun j=>if j=i then t else k j
def Kor.leaf(S:Kor)(b:List UInt8):Option Tr×Kor:=if b=zB then (some .hole,S) else match S.put 0 b with
 | none=>(none,S)
 | some (p,T)=>(some (.leaf p b),T)
def Kor.lay(S:Kor)(l:Nat)(k:Nat->Tr):Option Tr×Kor:=if gA k then (some .hole,S) else match S.put l (cQ l (fB k)) with
 | none=>(none,S)
 | some (p,T)=>(some (.node p k),T)
def eG:Nat->Kor->Tr->Nat->List UInt8->Option Tr×Kor
 | 0,S,_,_,b=>S.leaf b
 | l+1,S,t,n,b=>match eG l S (t.kid (n / 4 ^ l % 4)) n b with
   | (none,T)=>(none,T)
   | (some u,T)=>T.lay (l+1) (eX t.kid (n / 4 ^ l % 4) u)
def Tr.blk:Nat->Tr->Nat->List UInt8
 | 0,.leaf _ b,_=>b
 | 0,.hole,_=>zB
 | 0,.node _ _,_=>zB
 | l+1,.node _ k,i=>(k (i / 4 ^ l % 4)).blk l i
 | _+1,.hole,_=>zB
 | _+1,.leaf _ _,_=>zB
theorem Tr.blk_hole(l i:Nat):Tr.blk l .hole i=zB:=by cases l<;>rfl
theorem Tr.ok_hole(S:Kor)(l:Nat):Tr.Ok S l .hole:=by cases l<;>exact trivial
theorem Tr.Ok.kid{S:Kor}{l:Nat}{t:Tr}(h:Tr.Ok S (l+1) t){i:Nat}(hi:i<4):Tr.Ok S l (t.kid i):=by
 cases t with
 | hole=>exact Tr.ok_hole S l
 | leaf p b=>exact h.elim
 | node p k=>exact h.2.1 i hi
theorem Tr.Ok.blk_succ{S:Kor}{l:Nat}{t:Tr}(h:Tr.Ok S (l+1) t)(i:Nat):t.blk (l+1) i=(t.kid (i / 4 ^ l % 4)).blk l i:=by
 cases t with
 | hole=>exact(Tr.blk_hole l i).symm
 | leaf p b=>exact h.elim
 | node p k=>rfl
theorem Tr.Ok.ext{S T:Kor}(e:Ext S T):∀{l:Nat}{t:Tr},Tr.Ok S l t->Tr.Ok T l t
 | l,.hole,_=>Tr.ok_hole T l
 | 0,.leaf p b,h=>⟨h.1.ext e,h.2⟩
 | 0,.node p k,h=>h
 | l+1,.leaf p b,h=>h
 | l+1,.node p k,h=>⟨h.1.ext e,fun i hi=>Tr.Ok.ext e (h.2.1 i hi),h.2.2⟩
theorem Tr.Ok.sl{S:Kor}{l:Nat}{t:Tr}(h:Tr.Ok S l t):t.ptr.sum.length=32:=by
 cases t with
 | hole=>rfl
 | leaf p b=>cases l with
   | zero=>exact h.1.sl
   | succ l=>exact h.elim
 | node p k=>cases l with
   | zero=>exact h.elim
   | succ l=>exact h.1.sl
theorem Tr.Ok.hole_eq{S:Kor}{l:Nat}{t:Tr}(h:Tr.Ok S l t):t.ptr.hole=t.isHole:=by
 cases t with
 | hole=>exact iI
 | leaf p b=>cases l with
   | zero=>exact h.1.ne_hole
   | succ l=>exact h.elim
 | node p k=>cases l with
   | zero=>exact h.elim
   | succ l=>exact h.1.ne_hole
theorem Tr.Ok.lies{S:Kor}{l:Nat}{t:Tr}(h:Tr.Ok S l t)(hh:t.isHole=false):t.ptr.addrs≠[]/\∀a∈t.ptr.addrs,a∈S.L:=by
 cases t with
 | hole=>cases hh
 | leaf p b=>cases l with
   | zero=>exact⟨h.1.ne,fun a ha=>(h.1.lies a ha).2.1⟩
   | succ l=>exact h.elim
 | node p k=>cases l with
   | zero=>exact h.elim
   | succ l=>exact⟨h.1.ne,fun a ha=>(h.1.lies a ha).2.1⟩
theorem gL{t:Tr}(h:t.isHole=true):t=.hole:=by cases t<;>first|rfl|cases h
theorem yT{k:Nat->Tr}(h:gA k=true){i:Nat}(hi:i<4):k i=.hole:=by
 unfold gA at h;simp only[Bool.and_eq_true] at h;obtain⟨⟨⟨h0,h1⟩,h2⟩,h3⟩:=h;rcases i with _|_|_|_|i
 ·exact gL h0
 ·exact gL h1
 ·exact gL h2
 ·exact gL h3
 ·omega
theorem gB(i l:Nat):i / 4 ^ l % 4<4:=Nat.mod_lt _ (by omega)
theorem A4(i l:Nat):i % 4 ^ (l+1)=i / 4 ^ l % 4*4 ^ l+i % 4 ^ l:=by
 rw[Nat.pow_succ,Nat.mod_mul,Nat.add_comm,Nat.mul_comm]
theorem C4(i n l:Nat):i % 4 ^ (l+1)=n % 4 ^ (l+1)↔i / 4 ^ l % 4=n / 4 ^ l % 4/\i % 4 ^ l=n % 4 ^ l:=by
 have hp:0<4 ^ l:=Nat.pos_of_ne_zero (by simp);have hi:=Nat.mod_lt i hp;have hn:=Nat.mod_lt n hp;rw[A4 i l,A4 n l];constructor
 ·intro h
  have h1:(i / 4 ^ l % 4*4 ^ l+i % 4 ^ l) / 4 ^ l=(n / 4 ^ l % 4*4 ^ l+n % 4 ^ l) / 4 ^ l:=by rw[h]
  rw[Nat.mul_comm _ (4 ^ l),Nat.mul_comm _ (4 ^ l),Nat.mul_add_div hp,Nat.mul_add_div hp,Nat.div_eq_of_lt hi,Nat.div_eq_of_lt hn,Nat.add_zero,Nat.add_zero] at h1;refine⟨h1,?_⟩;rw[h1] at h;omega
 ·rintro⟨h1,h2⟩
  rw[h1,h2]
def Fr(S:Kor)(u:Tr):Prop:=∀a∈u.ptr.addrs,a ∉ S.L
theorem Fr.hole(S:Kor):Fr S .hole:=fun a ha=>by cases ha
theorem Fr.ext{S T:Kor}{u:Tr}(h:Fr T u)(e:Ext S T):Fr S u:=fun a ha hl=>h a ha (e.L a hl)
theorem C5(p:Pt):p.eqB p=true:=by unfold Pt.eqB;simp
theorem C6{p q:Pt}(h:p.eqB q=true):p=q:=by
 obtain⟨a,b,c,d⟩:=p;obtain⟨a',b',c',d'⟩:=q;unfold Pt.eqB at h;simp only[Bool.and_eq_true,beq_iff_eq,decide_eq_true_eq] at h;obtain⟨⟨⟨rfl,rfl⟩,rfl⟩,rfl⟩:=h;rfl
theorem Fr.ne{S:Kor}{l:Nat}{t u:Tr}(h:Tr.Ok S l t)(hh:t.isHole=false)(hf:Fr S u):u.ptr.eqB t.ptr=false:=by
 cases e:u.ptr.eqB t.ptr with
 | false=>rfl
 | true =>
   have:=C6 e;obtain⟨h1,h2⟩:=h.lies hh;unfold Fr at hf;rw[this] at hf;cases ha:t.ptr.addrs with
   | nil=>exact absurd ha h1
   | cons a r=>exact absurd (h2 a (by rw[ha];exact List.mem_cons_self ..)) (hf a (by rw[ha];exact List.mem_cons_self ..))
theorem Fr.ne_hole{S T:Kor}{l:Nat}{u:Tr}(h:Tr.Ok T l u)(hh:u.isHole=false):u.ptr.eqB zPt=false:=by
 cases e:u.ptr.eqB zPt with
 | false=>rfl
 | true =>
   have:=C6 e;have h2:=h.hole_eq;rw[this,iI,hh] at h2;cases h2
structure Beh(S T:Kor):Prop where
 ext:Ext S T
 bd:T.Bd
 txg:T.txg=S.txg
theorem Beh.refl{S:Kor}(h:S.Bd):Beh S S:=⟨Ext.refl S,h,rfl⟩
theorem Beh.trans{S T U:Kor}(h:Beh S T)(k:Beh T U):Beh S U:=⟨h.ext.trans k.ext,k.bd,k.txg.trans h.txg⟩
theorem EW{S:Kor}(hb:S.Bd){b:List UInt8}(hl:b.length=256){r:Option Tr}{T:Kor}(h:S.leaf b=(r,T)):Beh S T/\∀u,r=some u->Tr.Ok T 0 u/\(∀i,u.blk 0 i=b)/\Fr S u:=by
 unfold Kor.leaf at h
 by_cases hz:b=zB
 ·rw[if_pos hz] at h
  injection h with h1 h2
  subst h1 h2;refine⟨Beh.refl hb,fun u hu=>?_⟩;cases hu
  exact⟨trivial,fun i=>hz.symm,Fr.hole S⟩
 ·rw[if_neg hz] at h
  cases hp:S.put 0 b with
  | none =>
    rw[hp] at h;injection h with h1 h2
    subst h1 h2;exact⟨Beh.refl hb,fun u hu=>by cases hu⟩
  | some x =>
    obtain⟨p,U⟩:=x;rw[hp] at h;injection h with h1 h2
    subst h1 h2;obtain⟨g1,g2,g3,g4,-,g6,-⟩:=pN hb (by omega) hl hp;refine⟨⟨g2,g3,g4⟩,fun u hu=>?_⟩;cases hu
    exact⟨⟨g1,hz⟩,fun i=>rfl,g6⟩
theorem Am{S:Kor}{l lv:Nat}{k:Nat->Tr}(hk:∀i,i<4->Tr.Ok S l (k i)):(cQ lv (fB k)).length=256:=
 Nq (hk 0 (by omega)).sl (hk 1 (by omega)).sl (hk 2 (by omega)).sl (hk 3 (by omega)).sl
theorem Is{S:Kor}(hb:S.Bd){l:Nat}(hl:l≤2){k:Nat->Tr}(hk:∀i,i<4->Tr.Ok S l (k i)){r:Option Tr}{T:Kor}(h:S.lay (l+1) k=(r,T)):Beh S T/\∀u,r=some u->Tr.Ok T (l+1) u/\(∀i,u.blk (l+1) i=(k (i / 4 ^ l % 4)).blk l i)/\Fr S u:=by
 unfold Kor.lay at h
 by_cases hz:gA k=true
 ·rw[if_pos hz] at h
  injection h with h1 h2
  subst h1 h2;refine⟨Beh.refl hb,fun u hu=>?_⟩;cases hu
  exact⟨trivial,fun i=>by rw[yT hz (gB i l),Tr.blk_hole,Tr.blk_hole],Fr.hole S⟩
 ·rw[if_neg hz] at h
  cases hp:S.put (l+1) (cQ (l+1) (fB k)) with
  | none =>
    rw[hp] at h;injection h with h1 h2
    subst h1 h2;exact⟨Beh.refl hb,fun u hu=>by cases hu⟩
  | some x =>
    obtain⟨p,U⟩:=x;rw[hp] at h;injection h with h1 h2
    subst h1 h2;obtain⟨g1,g2,g3,g4,-,g6,-⟩:=pN hb (by omega) (Am hk) hp;refine⟨⟨g2,g3,g4⟩,fun u hu=>?_⟩;cases hu
    exact⟨⟨g1,fun i hi=>(hk i hi).ext g2,by simpa using hz⟩,fun i=>rfl,g6⟩
theorem hE(k:Nat->Tr)(i:Nat)(t:Tr):eX k i t i=t:=by unfold eX;rw[if_pos rfl]
theorem iA(k:Nat->Tr){i j:Nat}(t:Tr)(h:j≠i):eX k i t j=k j:=by unfold eX;rw[if_neg h]
theorem oZ{b:List UInt8}(hbl:b.length=256)(n:Nat):∀{l:Nat},l≤3->∀{S:Kor}{t:Tr},S.Bd->Tr.Ok S l t->∀{r:Option Tr}{T:Kor},eG l S t n b=(r,T) ->
 Beh S T/\∀u,r=some u->Tr.Ok T l u/\(∀i,u.blk l i=if i % 4 ^ l=n % 4 ^ l then b else t.blk l i)/\Fr S u
 | 0,_,S,t,hb,ht,r,T,h=>by
   obtain⟨h1,h2⟩:=EW hb hbl h;refine⟨h1,fun u hu=>?_⟩;obtain⟨h3,h4,h5⟩:=h2 u hu;exact⟨h3,fun i=>by rw[h4,if_pos (by rw[Nat.pow_zero,Nat.mod_one,Nat.mod_one])],h5⟩
 | l+1,hl,S,t,hb,ht,r,T,h=>by
   unfold eG at h;cases hs:eG l S (t.kid (n / 4 ^ l % 4)) n b with
   | mk r1 T1 =>
     rw[hs] at h;obtain⟨e1,e2⟩:=oZ hbl n (by omega) hb (ht.kid (gB n l)) hs;cases r1 with
     | none =>
       injection h with h1 h2
       subst h1 h2;exact⟨e1,fun u hu=>by cases hu⟩
     | some u1 =>
       obtain⟨o1,o2,o3⟩:=e2 u1 rfl
       have hk:∀i,i<4->Tr.Ok T1 l (eX t.kid (n / 4 ^ l % 4) u1 i):=fun i hi=>by
        by_cases e:i=n / 4 ^ l % 4
        ·rw[e,hE];exact o1
        ·rw[iA _ _ e];exact(ht.kid hi).ext e1.ext
       obtain⟨l1,l2⟩:=Is e1.bd (by omega) hk h;refine⟨e1.trans l1,fun u hu=>?_⟩;obtain⟨q1,q2,q3⟩:=l2 u hu;refine⟨q1,fun i=>?_,q3.ext e1.ext⟩;rw[q2]
       by_cases e:i / 4 ^ l % 4=n / 4 ^ l % 4
       ·rw[e,hE,o2]
        by_cases e3:i % 4 ^ l=n % 4 ^ l
        ·rw[if_pos e3,if_pos ((C4 i n l).2 ⟨e,e3⟩)]
        ·rw[if_neg e3,if_neg fun h=>e3 ((C4 i n l).1 h).2,ht.blk_succ,e]
       ·rw[iA _ _ e,if_neg fun h=>e ((C4 i n l).1 h).1,ht.blk_succ]
def Kor.room(S:Kor)(N:Nat):Prop:=oL S.allUp S.cp (bX S.L S.D S.Z) N
theorem C7{S:Kor}{N:Nat}(h:S.room (N+1))(lv:Nat)(b:List UInt8):∃p T,S.put lv b=some (p,T)/\T.room N:=by
 obtain⟨l,h1,h2⟩:=FA h;refine⟨⟨bB S.L S.Z l,S.txg+1,(lv:Int),cR b⟩,⟨S.D,S.Z,S.cp,S.L++bB S.L S.Z l,kX b (bB S.L S.Z l) S.M,S.txg⟩,?_,?_⟩
 ·unfold Kor.put;rw[h1]
 ·unfold Kor.room
  show oL S.allUp S.cp (bX (S.L++bB S.L S.Z l) S.D S.Z) N;rw[wF h1];exact h2
theorem It{S:Kor}{N:Nat}(h:S.room (N+1)){b:List UInt8}(hz:b≠zB):∃u T,S.leaf b=(some u,T)/\T.room N/\u.isHole=false:=by
 obtain⟨p,T,h1,h2⟩:=C7 h 0 b;refine⟨.leaf p b,T,?_,h2,rfl⟩;unfold Kor.leaf;rw[if_neg hz,h1]
theorem Kp{S:Kor}{N l:Nat}(h:S.room (N+1)){k:Nat->Tr}(hz:gA k=false):∃u T,S.lay l k=(some u,T)/\T.room N/\u.isHole=false:=by
 obtain⟨p,T,h1,h2⟩:=C7 h l (cQ l (fB k));refine⟨.node p k,T,?_,h2,rfl⟩;unfold Kor.lay;rw[hz,h1];rfl
theorem FZ{k:Nat->Tr}{i:Nat}(hi:i<4){u:Tr}(hu:u.isHole=false):gA (eX k i u)=false:=by
 cases h:gA (eX k i u) with
 | false=>rfl
 | true =>
   have:=yT h hi;rw[hE] at this;rw[this] at hu;cases hu
theorem A5{b:List UInt8}(hz:b≠zB)(n:Nat):∀(l:Nat){S:Kor}(t:Tr){N:Nat},S.room (N+(l+1))->∃u T,eG l S t n b=(some u,T)/\T.room N/\u.isHole=false
 | 0,S,t,N,h=>It h hz
 | l+1,S,t,N,h=>by
   have h9:S.room (N+1+(l+1)):=by
    have e:N+1+(l+1)=N+(l+1+1):=by omega
    rw[e];exact h
   obtain⟨u1,T1,h1,h2,h3⟩:=A5 hz n l (S:=S) (t.kid (n / 4 ^ l % 4)) (N:=N+1) h9;obtain⟨u,T,h4,h5,h6⟩:=Kp (l:=l+1) h2 (FZ (k:=t.kid) (gB n l) h3);refine⟨u,T,?_,h5,h6⟩;unfold eG;rw[h1];exact h4
theorem LA{x:Int}(h:0<x):cU [x,x] [true,true] 2=[0,1]:=by
 have h0:eJ [x,x] [true,true] 0=true:=by simp[eJ,h]
 have h1:eJ [x,x] [true,true] 1=true:=by simp[eJ,h]
 rw[qN,qN,if_pos h0,if_pos h1];rfl
theorem Mi{x:Int}(h:0<x):bV [x,x] [true,true] 2=some [0,1]:=by
 have e:iW [x,x] [true,true]=[0,1]:=(vV (by show [0,1].Perm (cU [x,x] [true,true] 2);rw[LA h]) (by
  show List.Pairwise _ [0,1];simp[cX])).symm
 unfold bV;rw[e];show (if cU [x,x] [true,true] 2=[]\/(cU [x,x] [true,true] 2).length<kO [true,true] 2 then none else some (List.take (kO [true,true] 2) [0,1]))=_;rw[LA h];rfl
theorem A6:∀n:Nat,oL [true,true] 2 [(n:Int),(n:Int)] n
 | 0=>.none (by decide)
 | n+1=>.more (Mi (by omega)) (by
    have:mB [((n+1:Nat):Int),((n+1:Nat):Int)] [0,1]=[(n:Int),(n:Int)]:=by simp[mB]
    rw[this];exact A6 n)
theorem qX(d:Nat):∀Z,(aY [] d Z).length=Z-5
 | 0=>rfl
 | Z+1=>by
   rw[qQ,List.length_append,qX d Z]
   by_cases h:5≤Z
   ·rw[if_pos (by simp[fX,dR,h])]
    show Z-5+1=_;omega
   ·rw[if_neg (by simp[fX,h])]
    show Z-5+0=_;omega
theorem Kor.room_new(Z:Nat)(M:Nat->Nat->List UInt8)(t:Int):Kor.room ⟨2,Z,2,[],M,t⟩ (Z-5):=by
 show oL [true,true] 2 (bX [] 2 Z) (Z-5)
 have:bX [] 2 Z=[((Z-5:Nat):Int),((Z-5:Nat):Int)]:=by
  show [((aY [] 0 Z).length:Int),((aY [] 1 Z).length:Int)]=_;rw[qX,qX]
 rw[this];exact A6 _
theorem Tr.Ok.top{S:Kor}{t:Tr}(h:Tr.Ok S 3 t)(hh:t.isHole=false):t.ptr.level=3/\1≤t.ptr.birth/\t.ptr.birth≤S.txg+1:=by
 cases t with
 | hole=>cases hh
 | leaf p b=>exact h.elim
 | node p k=>exact⟨h.1.lev,h.1.born⟩
theorem Db:Hid (∀w,(zeroValue 293).run Tryz.prog w=.ok (.agg #[.int .i64 0,.slice none 0 0]) w):=O fun w=>by kernel_rfl
def B6(a:Nat):List Value:=.pointer (some ⟨a,0,none⟩)::List.replicate 24 (.int .i64 0)
def eL(w:World)(m a:Nat):Prop:=w.heap[m]?=some (.cells (B6 a).toArray 243 (0,0))
theorem eL.c0{w:World}{m a:Nat}(h:eL w m a):w.cell? ⟨m,0,none⟩=some (.pointer (some ⟨a,0,none⟩)):=aC h rfl
theorem kK{w:World}{a D Z nw:Nat}{B:Nat->Prop}{M:Nat->Nat->List UInt8}(h:bM w a B D Z M nw):Calls Tryz.prog 76 #[.pointer (some ⟨a,0,none⟩)] w (aK w (.int .i64 (D:Int))):=by
 obtain⟨dv,dc,lv,st,f,F,W,h1,-⟩:=h;exact NY h1
theorem uM{w:World}{a D Z nw:Nat}{B:Nat->Prop}{M:Nat->Nat->List UInt8}(h:bM w a B D Z M nw):Calls Tryz.prog 120 #[.pointer (some ⟨a,0,none⟩)] w (aK w (.int .i64 (Z:Int))):=by
 obtain⟨dv,dc,lv,st,f,F,W,h1,-⟩:=h;exact BZ h1
theorem Om{w:World}{a D Z nw:Nat}{B:Nat->Prop}{M:Nat->Nat->List UInt8}(h:bM w a B D Z M nw)(d:Int):Calls Tryz.prog 82 #[.pointer (some ⟨a,0,none⟩),.int .i64 d] w (aK w (.bool (decide (0≤d) && decide (d<(D:Int))))):=by
 obtain⟨dv,dc,lv,st,f,F,W,h1,-⟩:=h;exact aup h1 d
theorem N5{w:World}{a D Z nw:Nat}{B:Nat->Prop}{M:Nat->Nat->List UInt8}(h:bM w a B D Z M nw){d s:Nat}(hd:d<D)(hs:s<Z):Calls Tryz.prog 115 #[.pointer (some ⟨a,0,none⟩),.int .i64 (d:Int),.int .i64 (s:Int)] w (sM w (M d s) (.int .i64 0)):=by
 obtain⟨dv,dc,lv,st,f,F,W,h1,-,-,h4⟩:=h;rw[h4 d s hd hs];exact Md h1 hd hs
theorem N6{w:World}{a D Z nw:Nat}{B:Nat->Prop}{M:Nat->Nat->List UInt8}(h:bM w a B D Z M nw){d s:Nat}(hd:d<D)(hs:s<Z):Calls Tryz.prog 185 #[.pointer (some ⟨a,0,none⟩),.int .i64 (d:Int),.int .i64 (s:Int)] w (sM w (M d s) (.bool true)):=by
 obtain⟨dv,dc,lv,st,f,F,W,h1,-,-,h4⟩:=h;rw[h4 d s hd hs];exact Kh h1 hd hs
theorem Mk{w:World}{a D Z nw:Nat}{B:Nat->Prop}{M:Nat->Nat->List UInt8}(h:bM w a B D Z M nw):Calls Tryz.prog 115 #[.pointer (some ⟨a,0,none⟩),.int .i64 (-1),.int .i64 0] w (aK w (.tuple #[.slice none 0 0,.int .i64 5])):=by
 obtain⟨dv,dc,lv,st,f,F,W,h1,-⟩:=h;exact Mf h1
theorem bM.len{w:World}{a D Z nw:Nat}{B:Nat->Prop}{M:Nat->Nat->List UInt8}(h:bM w a B D Z M nw){d s:Nat}(hd:d<D)(hs:s<Z):(M d s).length=256:=by
 obtain⟨dv,dc,lv,st,f,F,W,h1,-,-,h4⟩:=h;rw[h4 d s hd hs];exact sL h1.wok (h1.fok d s hd hs)
theorem A7(w:World)(m a:Nat)(hm:eL w m a):Calls Tryz.prog 208 #[.pointer (some ⟨m,0,none⟩)] w (aK w (.bool false)):=by
 have c0:=hm.c0;clear hm;go_in;go_wp2;go_ret;exact aK.of (aA.refl _ _)
theorem Kq(w:World)(n:Nat)(hn:0<n):Calls Tryz.prog 223 #[.int .i64 (n:Int)] w (aK w (.tuple #[.int .i64 (n:Int),.int .i64 0])):=by
 have e:((n:Int) == 0)=false:=by rw[beq_eq_false_iff_ne];omega
 go_in;go_wp2
 go_ret2
 exact aK.of (aA.refl _ _)
theorem Kr{w:World}{a D Z nw:Nat}{B:Nat->Prop}{M:Nat->Nat->List UInt8}(h:bM w a B D Z M nw):Calls Tryz.prog 116 #[.pointer (some ⟨a,0,none⟩)] w fun e w'=>∃m,e=.returned (.tuple #[.pointer (some ⟨m,0,none⟩),.int .i64 0])/\w.heap.size≤m/\eL w' m a/\aA aB w w':=by
 have HD:=O (kK h);have hbd:=h.bd;have e:((D:Int) == 0)=false:=by rw[beq_eq_false_iff_ne];omega
 have hbM:∀w,(Instr.build 243 #[(0,.pointer (some ⟨a,0,none⟩))]).run Tryz.prog w=.ok (.agg (B6 a).toArray) w:=fun w=>by kernel_rfl
 clear h hbd;go_in;go_wp2_with fail;refine HD.out.mono ?_;rintro e w1 ⟨rfl,hk⟩;have HK:=O hk;have hsz:=hk.size;clear hk HD
 go_wp2_with ((with_reducible show WL _ _);first
  | refine bld 243 #[(0,.tmp 7)] [(0,.pointer (some ⟨a,0,none⟩))] (.agg (B6 a).toArray) hbM ?_
  | refine bx 243 (.tmp 8) (B6 a).toArray ?_)
 intro b w2 hb hk2 hn;have HR:Hid (∃m,Ending.returned (.tuple #[.pointer (some ⟨b,0,none⟩),.int .i64 0])=.returned (.tuple #[.pointer (some ⟨m,0,none⟩),.int .i64 0])/\w.heap.size≤m/\eL w2 m a/\aA aB w w2):=O ⟨b,rfl,by omega,hn,HK.out.trans hk2⟩;clear hb hk2 hn;go_wp2
 go_ret2
 exact HR.out
theorem lO{x:Ad}{D Z:Nat}(h:dZ x D Z):∃d s:Nat,x=⟨(d:Int),(s:Int)⟩/\d<D/\5≤s/\s<Z:=by
 obtain⟨xd,xs⟩:=x;obtain⟨h1,h2,h3,h4⟩:=h;replace h1:0≤xd:=h1;replace h2:xd<(D:Int):=h2;replace h3:5≤xs:=h3;replace h4:xs<(Z:Int):=h4;exact⟨xd.toNat,xs.toNat,by rw[Int.toNat_of_nonneg h1,Int.toNat_of_nonneg (by omega)],by omega,by omega,by omega⟩
theorem uO{w:World}{m a D Z nw:Nat}{B:Nat->Prop}{Mm:Nat->Nat->List UInt8}(h:bM w a B D Z Mm nw)(hm:eL w m a)(v:Value)(l:List Ad)(hr:Rd w 2 v l.length (aQ l))(hl:∀x∈l,dZ x D Z):Calls Tryz.prog 209 #[.pointer (some ⟨m,0,none⟩),v] w (aK w (.bool true)):=by
 obtain⟨oa,ca,rfl,-,-⟩:=hr.form;obtain⟨n,hn⟩:∃n,l.length=n:=⟨_,rfl⟩
 have HN:=O hn;rw[hn] at hr ⊢;have hmx:n≤maxLen:=by obtain⟨_,a',c',h1,h2,h3,-⟩:=hr;omega
 unfold maxLen at hmx;have HR:=O hr;have HA:=O h;have HMM:=O hm;have HLL:=O hl;clear hr h hm hl hn;go_in;go_wp2_with fail
 go_loopw [9] (fun i wr=>∃k:Nat,k≤n/\i=.int .i64 k/\Hid (aA aB w wr)) (fun i _=>n-(intOf i).toNat)
 case atStart=>exact⟨0,by omega,rfl,O (aA.refl _ _)⟩
 case round =>
  obtain⟨k,hk,rfl,HK⟩:=hrel
  by_cases hk8:k<n
  ·obtain⟨x,hx⟩:∃x,l[k]?=some x:=⟨l[k]'(by rw[HN.out];exact hk8),List.getElem?_eq_getElem _⟩
   obtain⟨d,s,rfl,hd,hs5,hsZ⟩:=lO (HLL.out x (List.mem_of_getElem? hx));have hrr:=HR.out;rw[←HN.out] at hrr;obtain⟨g,o,cap',hv,hat⟩:=iX hrr hx;obtain rfl:oa=some ⟨g,o,none⟩:=by cases hv;rfl
   have HX:=O (HK.out.rangeAt hat);have HL:=lN wr;have HAW:=O (HA.out.keep0 HK.out);have HMW:Hid (eL wr m a):=O (HK.out.blk HMM.out id);have hk0:(0:Int)≤(k:Int):=by omega
   have hk1:(k:Int)<(n:Int):=by omega
   have e1:¬((d:Int)<0):=by omega
   have e2:¬((D:Int)≤(d:Int)):=by omega
   have e3:¬((s:Int)<5):=by omega
   have e4:¬((Z:Int)≤(s:Int)):=by omega
   clear hx hrr hat hv
   go_wp2_with ((with_reducible show WL _ _);first
    | refine wpList_load_mid rfl 82 (.tmp 11) rfl g (o+k*2) rfl (aO ⟨(d:Int),(s:Int)⟩) _ HX.out bS rfl (by rw[bC];exact iM) ?_
    | refine al 82 (.agg jJ.toArray) (jJ.toArray) uG ?_)
   intro b6 w1 hbs hk0 hb0_
   go_wp2_with ((with_reducible show WL _ _);refine sta 82 (.tmp 6) (.tmp 12) b6 0 (aO ⟨(d:Int),(s:Int)⟩) hb0_ (by first|decide|(rw[List.size_toArray,bC];exact Nat.le_refl _)|simp[bC]) (by rw[bC];exact iM) (bL _) ?_)
   intro w2 hk hb;rw[aI _ _ (by first|rfl|(rw[List.size_toArray,bC];rfl)|simp[bC])] at hb;replace hk:=tX hk0 hk (fun i hi e=>by omega);replace HL:=lW HL hbs hk hb;replace HX:=O (hk.rangeAt HX.out);replace HAW:=O (HAW.out.keep0 hk);replace HMW:=O (hk.blk HMW.out id);clear hbs hk hb hk0 hb0_;clear HX;go_wp2_with fail;refine dwA aB (by kernel_rfl) ?_;intro w3 S HSE HSI hS hkd;replace HL:=kL HL hkd;replace HAW:=O (HAW.out.keep0 hkd);replace HMW:=O (hkd.blk HMW.out id);clear hkd;have HLs:=HL;have HAWs:=HAW;have HMWs:=HMW;refine tnb 0 (.pointer (some ⟨b6,0,none⟩)) rfl hS ?_;refine tnd 1 (.int .i64 (d:Int)) rfl (.inl ⟨by rfl,fun w' hw'=>by have c:World.cell? w' ⟨b6,0,none⟩=some (.int .i64 (d:Int)):=(aC (i:=0) ((HSE.out w' hw').blk (HLs.out.b 0) id) rfl);go_simp⟩) hS ?_;refine tnd 2 (.bool false) rfl (.inl ⟨by rfl,fun _ _=>by go_simp<;>first|omega|(simp;omega)⟩) hS ?_;refine tna 3 (.bool false) rfl hS ?_;refine tnb 4 (.pointer (some ⟨b6,0,none⟩)) rfl hS ?_;refine tnd 5 (.int .i64 (d:Int)) rfl (.inl ⟨by rfl,fun w' hw'=>by have c:World.cell? w' ⟨b6,0,none⟩=some (.int .i64 (d:Int)):=(aC (i:=0) ((HSE.out w' hw').blk (HLs.out.b 0) id) rfl);go_simp⟩) hS ?_;refine tna 6 (.pointer (some ⟨m,0,none⟩)) rfl hS ?_;refine tnb 7 (.pointer (some ⟨m,0,none⟩)) rfl hS ?_;refine tnb 8 (.pointer (some ⟨m,0,none⟩)) rfl hS ?_;refine tnd 9 (.pointer (some ⟨a,0,none⟩)) rfl (.inl ⟨by rfl,fun w' hw'=>by have c:World.cell? w' ⟨m,0,none⟩=some (.pointer (some ⟨a,0,none⟩)):=(HSE.out w' hw').cell (eL.c0 HMWs.out) id;go_simp⟩) hS ?_;refine wA9 10 ?_;go_wp2_with fail;refine(kK HAW.out).mono ?_;rintro e w4 ⟨rfl,hk⟩;have hS1:=HSI.out _ ((HSE.out _ hS).trans hk);replace HL:=kL HL hk;replace HAW:=O (HAW.out.keep0 hk);replace HMW:=O (hk.blk HMW.out id);clear hS hk;go_wp2_with fail;refine⟨hS1,?_⟩;refine tnd 11 (.bool false) rfl (.inl ⟨by rfl,fun _ _=>by go_simp<;>first|omega|(simp;omega)⟩) hS1 ?_;refine tna 12 (.bool false) rfl hS1 ?_;refine tna 13 (.bool false) rfl hS1 ?_;refine tnb 14 (.pointer (some ⟨b6,1,none⟩)) rfl hS1 ?_;refine tnd 15 (.int .i64 (s:Int)) rfl (.inl ⟨by rfl,fun w' hw'=>by have c:World.cell? w' ⟨b6,1,none⟩=some (.int .i64 (s:Int)):=(aC (i:=1) ((HSE.out w' hw').blk (HLs.out.b 0) id) rfl);go_simp⟩) hS1 ?_;refine tnd 16 (.bool false) rfl (.inl ⟨by rfl,fun _ _=>by go_simp<;>first|omega|(simp;omega)⟩) hS1 ?_;refine tna 17 (.bool false) rfl hS1 ?_;refine tna 18 (.bool false) rfl hS1 ?_;refine tnb 19 (.pointer (some ⟨b6,1,none⟩)) rfl hS1 ?_;refine tnd 20 (.int .i64 (s:Int)) rfl (.inl ⟨by rfl,fun w' hw'=>by have c:World.cell? w' ⟨b6,1,none⟩=some (.int .i64 (s:Int)):=(aC (i:=1) ((HSE.out w' hw').blk (HLs.out.b 0) id) rfl);go_simp⟩) hS1 ?_;refine tna 21 (.pointer (some ⟨m,0,none⟩)) rfl hS1 ?_;refine tnb 22 (.pointer (some ⟨m,0,none⟩)) rfl hS1 ?_;refine tnb 23 (.pointer (some ⟨m,0,none⟩)) rfl hS1 ?_;refine tnd 24 (.pointer (some ⟨a,0,none⟩)) rfl (.inl ⟨by rfl,fun w' hw'=>by have c:World.cell? w' ⟨m,0,none⟩=some (.pointer (some ⟨a,0,none⟩)):=(HSE.out w' hw').cell (eL.c0 HMWs.out) id;go_simp⟩) hS1 ?_;refine wA9 25 ?_;go_wp2_with fail;refine(uM HAW.out).mono ?_;rintro e w5 ⟨rfl,hk⟩;have hS2:=HSI.out _ ((HSE.out _ hS1).trans hk);replace HL:=kL HL hk;replace HAW:=O (HAW.out.keep0 hk);replace HMW:=O (hk.blk HMW.out id);clear hS1 hk;go_wp2_with fail;refine⟨hS2,?_⟩;refine tnd 26 (.bool false) rfl (.inl ⟨by rfl,fun _ _=>by go_simp<;>first|omega|(simp;omega)⟩) hS2 ?_;refine tna 27 (.bool false) rfl hS2 ?_;refine wpAnyH_done (by kernel_rfl) ?_ _;clear hS2 HSE HSI HLs HAWs HMWs;have HK2:=O (HK.out.trans HL.out.keep);clear HL HAW HMW;go_wp2
   go_roundw
   case rel=>exact⟨k+1,by omega,by go_num,HK2⟩
   case measure=>simp[intOf];omega
  ·obtain rfl:n=k:=by omega
   go_wp2;go_ret;exact aK.of HK.out
theorem F4(w:World)(v:Value)(l:List Ad)(hr:Rd w 2 v l.length (aQ l))(hl:(l.map (·.dev)).Nodup)(hl2:jU l):Calls Tryz.prog 222 #[v] w (aK w (.bool true)):=by
 obtain⟨oa,ca,rfl,-,-⟩:=hr.form;obtain⟨n,hn⟩:∃n,l.length=n:=⟨_,rfl⟩
 have HN:=O hn;rw[hn] at hr ⊢;have hnc:n≤ca:=by obtain⟨_,a',c',h1,h2,h3,-⟩:=hr;cases h1;exact h2
 have hmx:n≤maxLen:=by obtain⟨_,a',c',h1,h2,h3,-⟩:=hr;omega
 unfold maxLen at hmx;have HR:=O hr;have HLL:=O hl;have HOK:=O hl2;clear hr hl hl2 hn;go_in;go_wp2_with fail
 go_loopw [9] (fun i wr=>∃k:Nat,k≤n/\i=.int .i64 k/\Hid (aA aB w wr)) (fun i _=>n-(intOf i).toNat)
 case atStart=>exact⟨0,by omega,rfl,O (aA.refl _ _)⟩
 case round =>
  obtain⟨k,hk,rfl,HK⟩:=hrel
  by_cases hk8:k<n
  ·obtain⟨x,hx⟩:∃x,l[k]?=some x:=⟨l[k]'(by rw[HN.out];exact hk8),List.getElem?_eq_getElem _⟩
   have hrr:=HR.out;rw[←HN.out] at hrr;obtain⟨g,o,cap',hv,hat⟩:=iX hrr hx;obtain rfl:oa=some ⟨g,o,none⟩:=by cases hv;rfl
   have HX:=O (HK.out.rangeAt hat);have HXX:=O hx;have HL:=lN wr;have hk0:(0:Int)≤(k:Int):=by omega
   have hk1:(k:Int)<(n:Int):=by omega
   have hkc:(k:Int)≤(ca:Int):=by omega
   clear hx hrr hat hv
   go_wp2_with ((with_reducible show WL _ _);first
    | refine wpList_load_mid rfl 82 (.tmp 12) rfl g (o+k*2) rfl (aO x) _ HX.out bS rfl (by rw[bC];exact iM) ?_
    | refine al 82 (.agg jJ.toArray) (jJ.toArray) uG ?_)
   intro b4 w1 hbs hk0 hb0_
   go_wp2_with ((with_reducible show WL _ _);refine sta 82 (.tmp 4) (.tmp 13) b4 0 (aO x) hb0_ (by first|decide|(rw[List.size_toArray,bC];exact Nat.le_refl _)|simp[bC]) (by rw[bC];exact iM) (bL _) ?_)
   intro w2 hk hb;rw[aI _ _ (by first|rfl|(rw[List.size_toArray,bC];rfl)|simp[bC])] at hb;replace hk:=tX hk0 hk (fun i hi e=>by omega);replace HL:=lW HL hbs hk hb;replace HX:=O (hk.rangeAt HX.out);clear hbs hk hb hk0 hb0_;clear HX;go_wp2_with fail;have HB4:=O (HL.out.b 0);have HK1:=O (HK.out.trans HL.out.keep)
   go_loopw [18] (fun i wr2=>∃j:Nat,j≤k/\i=.int .i64 j/\Hid (aA aB w2 wr2)) (fun i _=>k-(intOf i).toNat)
   case atStart=>exact⟨0,by omega,rfl,O (aA.refl _ _)⟩
   case round =>
    rename_i wo;obtain⟨j,hj,rfl,HK2⟩:=hrel
    by_cases hj8:j<k
    ·obtain⟨y,hy⟩:∃y,l[j]?=some y:=⟨l[j]'(by rw[HN.out];omega),List.getElem?_eq_getElem _⟩
     have hrr:=HR.out;rw[←HN.out] at hrr;obtain⟨g',o',cap',hv,hat⟩:=iX hrr hy;cases hv
     have HX:=O ((HK1.out.trans HK2.out).rangeAt hat)
     have hne:x.dev≠y.dev:=by
      intro e;have h1:(l.map (·.dev))[k]?=some x.dev:=by rw[List.getElem?_map,HXX.out];rfl
      have h2:(l.map (·.dev))[j]?=some x.dev:=by rw[List.getElem?_map,hy,e];rfl
      have:=((List.getElem?_inj (List.getElem?_eq_some_iff.1 h1).1 HLL.out).1 (h1.trans h2.symm))
      omega
     have hee:(x.dev == y.dev)=false:=by rw[beq_eq_false_iff_ne];exact hne
     have HB5:=O (HK2.out.blk HB4.out id);have hj0:(0:Int)≤(j:Int):=by omega
     have hj1:(j:Int)<(k:Int):=by omega
     have hj2:(j:Int)<(n:Int):=by omega
     have HL:=lN wr;clear hy hrr hat hne
     go_wp2_with ((with_reducible show WL _ _);first
      | refine wpList_load_mid rfl 82 (.tmp 20) rfl g (o+j*2) rfl (aO y) _ HX.out bS rfl (by rw[bC];exact iM) ?_
      | refine al 82 (.agg jJ.toArray) (jJ.toArray) uG ?_)
     intro b6 w3 hbs hk0 hb0_
     go_wp2_with ((with_reducible show WL _ _);refine sta 82 (.tmp 6) (.tmp 21) b6 0 (aO y) hb0_ (by first|decide|(rw[List.size_toArray,bC];exact Nat.le_refl _)|simp[bC]) (by rw[bC];exact iM) (bL _) ?_)
     intro w4 hk hb;rw[aI _ _ (by first|rfl|(rw[List.size_toArray,bC];rfl)|simp[bC])] at hb;replace hk:=tX hk0 hk (fun i hi e=>by omega);replace HL:=lW HL hbs hk hb;replace HX:=O (hk.rangeAt HX.out);replace HB5:=O (hk.blk HB5.out id);clear hbs hk hb hk0 hb0_;have c1:w4.cell? ⟨b4,0,none⟩=some (.int .i64 x.dev):=aC (i:=0) HB5.out rfl;have c2:w4.cell? ⟨b6,0,none⟩=some (.int .i64 y.dev):=aC (i:=0) (HL.out.b 0) rfl;have HK3:=O (HK2.out.trans HL.out.keep);go_wp2
     go_roundw
     case rel=>exact⟨j+1,by omega,by go_num,HK3⟩
     case measure=>simp[intOf];omega
    ·obtain rfl:k=j:=by omega
     have HK3:=O (HK1.out.trans HK2.out);go_wp2
     go_roundw
     case rel=>exact⟨k+1,by omega,by go_num,HK3⟩
     case measure=>simp[intOf];omega
  ·obtain rfl:n=k:=by omega
   go_wp2;go_ret;exact aK.of HK.out
def pP(w:World)(a:Nat)(B:Nat->Prop)(D Z:Nat)(Mm:Nat->Nat->List UInt8)(nw:Nat)(l:List Ad)(b:List UInt8)(e:Ending)(w':World):Prop:=
 e=.returned (.tuple #[.int .i64 (l.length:Int),.int .i64 0])/\∃B',bM w' a B' D Z (kX b l Mm) (nw+l.length)/\(∀k,B' k->B k\/w.heap.size≤k)/\aA B w w'
theorem pP.keep{w w1 w2:World}{a D Z nw:Nat}{B:Nat->Prop}{Mm:Nat->Nat->List UInt8}{l:List Ad}{b:List UInt8}{e:Ending}(h:pP w a B D Z Mm nw l b e w1)(k:aA aB w1 w2):pP w a B D Z Mm nw l b e w2:=by
 obtain⟨h1,B',h2,h3,h4⟩:=h;exact⟨h1,B',h2.keep0 k,h3,h4.trans k.any⟩
structure MPI(w wr:World)(a:Nat)(B Bk:Nat->Prop)(D Z:Nat)(Mm:Nat->Nat->List UInt8)(nw k:Nat)(l:List Ad)(b:List UInt8):Prop where
 arr:bM wr a Bk D Z (kX b (l.take k) Mm) (nw+k)
 grow:∀i,Bk i->B i\/w.heap.size≤i
 keep:aA B w wr
theorem Ks{w:World}{m a D Z nw:Nat}{B:Nat->Prop}{Mm:Nat->Nat->List UInt8}(h:bM w a B D Z Mm nw)(hm:eL w m a)(hmB:¬B m)(v:Value)(l:List Ad)(hr:Rd w 2 v l.length (aQ l))(hl:∀x∈l,dZ x D Z)(hld:(l.map (·.dev)).Nodup)(hlo:jU l)(h1:1≤l.length)(h3:l.length≤3)
 (hv:∀i,v.ownBlock=some i->¬B i) (vb':Value) (b:List UInt8) (hbl:b.length=256) (hb:Rd w 1 vb' 256 (b.map vb)) (hvb:∀i,vb'.ownBlock=some i->¬B i) (hn:nw<90000000000) :
 Calls Tryz.prog 183 #[.pointer (some ⟨m,0,none⟩),v,vb'] w (pP w a B D Z Mm nw l b):=by
 obtain⟨oa,ca,rfl,-,-⟩:=hr.form
 obtain⟨g2,o2,c2,rfl⟩:∃g o c,vb'=.slice (some ⟨g,o,none⟩) 256 c:=by
  obtain⟨h1,a',c',rfl,-,-,-,h4⟩:=hb;obtain⟨g,o,rfl,hc⟩:=h4 (by rw[h1];decide);exact⟨g,o,c',rfl⟩
 obtain⟨n,hn_⟩:∃n,l.length=n:=⟨_,rfl⟩
 have HN:=O hn_
 have hg0:oa=none\/∃g o,oa=some ⟨g,o,none⟩/\g<w.heap.size:=by
  obtain⟨hl0,a',c',he,-,-,-,h4⟩:=hr;obtain⟨g,o,rfl,hc⟩:=h4 (by rw[hl0];omega);cases he
  obtain⟨u,hu⟩:∃u,(aQ l)[0]?=some u:=⟨_,List.getElem?_eq_getElem (by rw[hl0];omega)⟩
  exact .inr ⟨g,o,rfl,World.block_lt_of_cell? w _ (hc 0 u hu)⟩
 have hmlt:m<w.heap.size:=lt_of_block hm
 have hg2:g2<w.heap.size:=by
  obtain⟨hl0,a',c',he,-,-,-,h4⟩:=hb;obtain⟨g,o,e,hc⟩:=h4 (by rw[hl0];decide);cases he;cases e
  obtain⟨u,hu⟩:∃u,(b.map vb)[0]?=some u:=⟨_,List.getElem?_eq_getElem (by rw[hl0];decide)⟩
  exact World.block_lt_of_cell? w _ (hc 0 u hu)
 rw[hn_] at hr h1 h3 hv ⊢;have e1:¬((n:Int)<1):=by omega
 have e3:¬(3<(n:Int)):=by omega
 have HA:=O h;have HMM:=O hm;have HR:=O hr;have HRB:=O hb;have HLP:=O hl;have HLD:=O hld;have HLO:=O hlo;have HV:=O hv;have HVB:=O hvb;have HG0:=O hg0;have HS:=O (by have:=uO h hm _ l (by rw[hn_];exact hr) hl;exact this);have HK0:=O (aA.refl aB w);clear h hm hr hb hl hld hlo hv hvb hn_ hg0;have HL:=lN w;go_in;clear HS HK0;go_wp2_with fail;refine(A7 w m a HMM.out).mono ?_;rintro e w1 ⟨rfl,hk⟩;replace HL:=kL HL hk;replace HA:=O (HA.out.keep0 hk);replace HMM:=O (hk.blk HMM.out id);replace HR:=O (HR.out.keep hk fun _ _=>id);replace HRB:=O (HRB.out.keep hk fun _ _=>id);clear hk;go_wp2_with fail;refine(uO HA.out HMM.out _ l (by rw[HN.out];exact HR.out) HLP.out).mono ?_;rintro e w2 ⟨rfl,hk⟩;replace HL:=kL HL hk;replace HA:=O (HA.out.keep0 hk);replace HMM:=O (hk.blk HMM.out id);replace HR:=O (HR.out.keep hk fun _ _=>id);replace HRB:=O (HRB.out.keep hk fun _ _=>id);clear hk;go_wp2_with fail;refine(F4 w2 _ l (by rw[HN.out];exact HR.out) HLD.out HLO.out).mono ?_;rintro e w3 ⟨rfl,hk⟩;replace HL:=kL HL hk;replace HA:=O (HA.out.keep0 hk);replace HMM:=O (hk.blk HMM.out id);replace HR:=O (HR.out.keep hk fun _ _=>id);replace HRB:=O (HRB.out.keep hk fun _ _=>id);clear hk;go_wp2_with fail;have H0:Hid (MPI w3 w3 a B B D Z Mm nw 0 l b):=O ⟨by rw[List.take_zero];exact HA.out,fun i h=>.inl h,aA.refl _ _⟩;have hmw:m<w3.heap.size:=lt_of_block HMM.out;have HM0:Hid (w.heap.size≤w3.heap.size):=O HL.out.keep.size;have HK0:=O HL.out.keep;have hmw2:w.heap.size≤w3.heap.size:=HM0.out;have HRW:=O HR.out;have HRBW:=O HRB.out;have HMMW:=O HMM.out
 go_loopw [8,41] (fun c i wr=>∃(k:Nat) (Bk:Nat->Prop),k≤n/\i=.int .i64 k/\c=.int .i64 k/\Hid (MPI w3 wr a B Bk D Z Mm nw k l b)) (fun _ i _=>n-(intOf i).toNat)
 case atStart=>exact⟨0,B,by omega,rfl,rfl,H0⟩
 case round =>
  clear H0 HL HA;obtain⟨k,Bk,hk,rfl,rfl,HI⟩:=hrel
  by_cases hk8:k<n
  ·obtain⟨x,hx⟩:∃x,l[k]?=some x:=⟨l[k]'(by rw[HN.out];exact hk8),List.getElem?_eq_getElem _⟩
   obtain⟨d,s,rfl,hd,hs5,hsZ⟩:=lO (HLP.out x (List.mem_of_getElem? hx));have HKW:=O HI.out.keep;have hrr:=HRW.out.keep HKW.out HV.out;rw[←HN.out] at hrr;obtain⟨g,o,cap',hv,hat⟩:=iX hrr hx;obtain rfl:oa=some ⟨g,o,none⟩:=by cases hv;rfl
   have HX:=O hat;have HXX:=O hx;have hnB:¬Bk g2:=fun e=>(HI.out.grow g2 e).elim (HVB.out g2 rfl) (by omega)
   have hnm:¬Bk m:=fun e=>(HI.out.grow m e).elim hmB (by omega)
   have HRB2:=O (HRBW.out.keep HKW.out HVB.out);have HMM2:Hid (eL wr m a):=O (HKW.out.blk HMMW.out hmB);have HAW:=O HI.out.arr;have HL:=O (Loc.nil Bk Bk wr);have hk0:(0:Int)≤(k:Int):=by omega
   have hk1:(k:Int)<(n:Int):=by omega
   have hnk:nw+k<100000000000:=by omega
   clear hx hrr hat hv
   go_wp2_with ((with_reducible show WL _ _);first
    | refine wpList_load_mid rfl 82 (.tmp 43) rfl g (o+k*2) rfl (aO ⟨(d:Int),(s:Int)⟩) _ HX.out bS rfl (by rw[bC];exact iM) ?_
    | refine al 82 (.agg jJ.toArray) (jJ.toArray) uG ?_)
   intro b10 w4 hbs hk0 hb0_
   go_wp2_with ((with_reducible show WL _ _);refine sta 82 (.tmp 10) (.tmp 44) b10 0 (aO ⟨(d:Int),(s:Int)⟩) hb0_ (by first|decide|(rw[List.size_toArray,bC];exact Nat.le_refl _)|simp[bC]) (by rw[bC];exact iM) (bL _) ?_)
   intro w5 hk hb;rw[aI _ _ (by first|rfl|(rw[List.size_toArray,bC];rfl)|simp[bC])] at hb;replace hk:=tX hk0 hk (fun i hi e=>by omega);replace HL:=O (HL.out.new (fun _ hk=>HAW.out.lt hk) hbs hk hb);replace HX:=O (hk.rangeAt HX.out);replace HAW:=O (HAW.out.keep0 hk);replace HMM2:=O (hk.blk HMM2.out id);replace HRB2:=O (HRB2.out.keep hk fun _ _=>id);clear hbs hk hb hk0 hb0_;clear HX;go_wp2_with fail;refine dwA Bk (by kernel_rfl) ?_;intro w6 S HSE HSI hS hkd;replace HL:=kL HL hkd;replace HAW:=O (HAW.out.keep0 hkd);replace HMM2:=O (hkd.blk HMM2.out id);replace HRB2:=O (HRB2.out.keep hkd fun _ _=>id);clear hkd;have HLs:=HL;have HAWs:=HAW;have HMM2s:=HMM2;have HRB2s:=HRB2;refine tna 0 (.pointer (some ⟨m,0,none⟩)) rfl hS ?_;refine tnb 1 (.pointer (some ⟨m,0,none⟩)) rfl hS ?_;refine tnb 2 (.pointer (some ⟨m,0,none⟩)) rfl hS ?_;refine tnd 3 (.pointer (some ⟨a,0,none⟩)) rfl (.inl ⟨by rfl,fun w' hw'=>by have c:World.cell? w' ⟨m,0,none⟩=some (.pointer (some ⟨a,0,none⟩)):=(HSE.out w' hw').cell (eL.c0 HMM2s.out) hnm;go_simp⟩) hS ?_;refine tnb 4 (.pointer (some ⟨b10,0,none⟩)) rfl hS ?_;refine tnd 5 (.int .i64 (d:Int)) rfl (.inl ⟨by rfl,fun w' hw'=>by have c:World.cell? w' ⟨b10,0,none⟩=some (.int .i64 (d:Int)):=(aC (i:=0) ((HSE.out w' hw').blk (HLs.out.b 0) ((HLs.out.aq 0))) rfl);go_simp⟩) hS ?_;refine tnb 6 (.pointer (some ⟨b10,1,none⟩)) rfl hS ?_;refine tnd 7 (.int .i64 (s:Int)) rfl (.inl ⟨by rfl,fun w' hw'=>by have c:World.cell? w' ⟨b10,1,none⟩=some (.int .i64 (s:Int)):=(aC (i:=1) ((HSE.out w' hw').blk (HLs.out.b 0) ((HLs.out.aq 0))) rfl);go_simp⟩) hS ?_;refine tna 8 (.slice (some ⟨g2,o2,none⟩) 256 c2) rfl hS ?_;refine wA9 9 ?_;go_wp2_with fail;refine(oT HAW.out hd hsZ b hbl _ HRB2.out (fun i hi=>by cases hi;exact hnB) hnk).mono ?_;rintro e w7 ⟨rfl,B2,ha2,hg2,hk2⟩;have hS1:=HSI.out _ ((HSE.out _ hS).trans hk2);have hkk:=HI.out.keep.trans' ((HL.out.keep).trans hk2) (U:=B) (fun _ _ h=>h) (fun i hi e=>(HI.out.grow i e).elim id (fun h=>absurd hi (by omega)));have HI2:Hid (MPI w3 w7 a B B2 D Z Mm nw (k+1) l b):=O ⟨by rw[List.take_add_one,HXX.out];show bM _ _ _ _ _ (kX b (l.take k++[⟨(d:Int),(s:Int)⟩]) Mm) _;rw[AZ];exact ha2,fun i hi=>(hg2 i hi).elim (fun h=>HI.out.grow i h) (fun h=>.inr (Nat.le_trans (Nat.le_trans HI.out.keep.size HL.out.keep.size) h)),hkk⟩;clear ha2 hg2 hk2 hkk hS;go_wp2_with fail;refine⟨hS1,?_⟩;refine wpAnyH_done (by kernel_rfl) ?_ _;clear hS1 HSE HSI HLs HAWs HMM2s HRB2s;clear HL HAW HMM2 HRB2;go_wp2
   go_roundw
   case rel=>exact⟨k+1,_,by omega,by go_num,by go_num,HI2⟩
   case measure=>simp[intOf];omega
  ·obtain rfl:n=k:=by omega
   have HP:Hid (pP w a B D Z Mm nw l b (.returned (.tuple #[.int .i64 (n:Int),.int .i64 0])) wr):=O (by
    have h:=HI.out;refine⟨by rw[HN.out],Bk,?_,fun i hi=>(h.grow i hi).imp id fun h=>by omega,HK0.out.any.trans h.keep⟩;have ha:=h.arr;rw[List.take_of_length_le (by rw[HN.out];exact Nat.le_refl _)] at ha;rw[HN.out];exact ha)
   clear HI;go_wp2_with fail;refine(Kq wr n (by omega)).mono ?_;rintro e w2 ⟨rfl,hk2⟩;have HP2:=O (HP.out.keep hk2);clear hk2 HP;go_wp2
   go_ret2
   exact HP2.out
theorem lS{α β:Type}{l:List α}{f g:α->List β}(h:∀a∈l,f a=g a):l.flatMap f=l.flatMap g:=by
 induction l with
 | nil=>rfl
 | cons a l ih=>rw[List.flatMap_cons,List.flatMap_cons,h a (List.mem_cons_self ..),ih fun x hx=>h x (List.mem_cons_of_mem _ hx)]
def thr(f:Pt->Bool):Nat->Tr->Nat->List (Pt×Nat)
 | 0,t,a=>if t.isHole || !f t.ptr then [] else [(t.ptr,a)]
 | l+1,t,a=>if t.isHole || !f t.ptr then [] else (t.ptr,a)::(List.range 4).flatMap fun i=>thr f l (t.kid i) (a+i*4 ^ l)
def kR:Pt->Bool:=fun _=>true
def bD(x:Int):Pt->Bool:=fun p=>decide (x<p.birth)
theorem Dy(f:Pt->Bool)(l a:Nat):thr f l .hole a=[]:=by cases l<;>rfl
theorem gR(f:Pt->Bool)(t:Tr)(a:Nat):thr f 0 t a=if t.isHole || !f t.ptr then [] else [(t.ptr,a)]:=rfl
theorem gS(f:Pt->Bool)(l:Nat)(t:Tr)(a:Nat):thr f (l+1) t a=if t.isHole || !f t.ptr then [] else (t.ptr,a)::(List.range 4).flatMap fun i=>thr f l (t.kid i) (a+i*4 ^ l):=rfl
def GC:Nat->Tr->Prop
 | 0,_=>True
 | l+1,t=>∀i,i<4->((t.kid i).isHole=true\/(t.kid i).ptr.birth≤t.ptr.birth)/\GC l (t.kid i)
theorem Bn:∀l,GC l .hole
 | 0=>trivial
 | l+1=>fun i _=>⟨.inl rfl,Bn l⟩
theorem Tr.Ok.born{S:Kor}{l:Nat}{t:Tr}(h:Tr.Ok S l t)(hh:t.isHole=false):1≤t.ptr.birth/\t.ptr.birth≤S.txg+1/\t.ptr.level=(l:Int):=by
 cases t with
 | hole=>cases hh
 | leaf p b=>cases l with
   | zero=>exact⟨h.1.born.1,h.1.born.2,h.1.lev⟩
   | succ l=>exact h.elim
 | node p k=>cases l with
   | zero=>exact h.elim
   | succ l=>exact⟨h.1.born.1,h.1.born.2,h.1.lev⟩
theorem E3{S:Kor}:∀{l:Nat}{t:Tr},Tr.Ok S l t->∀{f:Pt->Bool}{a:Nat}{x:Pt×Nat},x∈thr f l t a->f x.1=true/\1≤x.1.birth/\0≤x.1.level/\x.1.level≤(l:Int)/\a≤x.2/\x.2<a+4 ^ l/\x.1.addrs≠[]/\∀y∈x.1.addrs,y∈S.L
 | 0,t,h,f,a,x,hx=>by
   rw[gR] at hx
   by_cases hc:(t.isHole || !f t.ptr)=true
   ·rw[if_pos hc] at hx;cases hx
   ·rw[if_neg hc] at hx
    simp only[Bool.or_eq_true,not_or,Bool.not_eq_true,Bool.not_eq_false'] at hc;obtain rfl:=List.mem_singleton.1 hx;obtain⟨h1,h2,h3⟩:=h.born hc.1;obtain⟨h4,h5⟩:=h.lies hc.1;exact⟨hc.2,h1,by show 0≤t.ptr.level;omega,by show t.ptr.level≤_;omega,Nat.le_refl _,by show a<a+4 ^ 0;rw[Nat.pow_zero];omega,h4,h5⟩
 | l+1,t,h,f,a,x,hx=>by
   have hp:0<4 ^ l:=Nat.pos_of_ne_zero (by simp);have hp4:4 ^ (l+1)=4*4 ^ l:=by rw[Nat.pow_succ,Nat.mul_comm]
   rw[gS] at hx
   by_cases hc:(t.isHole || !f t.ptr)=true
   ·rw[if_pos hc] at hx;cases hx
   ·rw[if_neg hc] at hx
    simp only[Bool.or_eq_true,not_or,Bool.not_eq_true,Bool.not_eq_false'] at hc;rcases List.mem_cons.1 hx with rfl|hx
    ·obtain⟨h1,h2,h3⟩:=h.born hc.1
     obtain⟨h4,h5⟩:=h.lies hc.1;exact⟨hc.2,h1,by show 0≤t.ptr.level;omega,by show t.ptr.level≤_;omega,Nat.le_refl _,by show a<a+4 ^ (l+1);omega,h4,h5⟩
    ·obtain⟨i,hi,hx⟩:=List.mem_flatMap.1 hx
     have hi:=List.mem_range.1 hi;obtain⟨g1,g2,g3,g4,g5,g6,g7,g8⟩:=E3 (h.kid hi) hx
     have:i*4 ^ l+4 ^ l≤4*4 ^ l:=by
      have:=Nat.mul_le_mul_right (4 ^ l) (Nat.succ_le_of_lt hi);rw[Nat.succ_mul] at this;exact this
     exact⟨g1,g2,g3,by omega,by omega,by omega,g7,g8⟩
def fR(l:Nat)(t:Tr):List Pt:=(thr kR l t 0).map fun x=>x.1
def eH(l:Nat)(t:Tr):List Ad:=(thr kR l t 0).flatMap fun x=>x.1.addrs
theorem Dz(f:Pt->Bool):∀(l:Nat) (t:Tr) (a b:Nat),(thr f l t (a+b))=(thr f l t a).map fun x=>(x.1,x.2+b)
 | 0,t,a,b=>by rw[gR,gR];split<;>rfl
 | l+1,t,a,b=>by
   rw[gS,gS];split
   ·rfl
   ·rw[List.map_cons,List.map_flatMap]
    congr 1
    refine lS fun i _=>?_
    rw[show a+b+i*4 ^ l=a+i*4 ^ l+b by omega,Dz f l (t.kid i) _ b]
theorem MJ(l:Nat)(t:Tr)(a:Nat):((thr kR l t a).flatMap fun x=>x.1.addrs)=eH l t:=by
 unfold eH;have:=Dz kR l t 0 a;rw[Nat.zero_add] at this;rw[this,List.flatMap_map]
theorem Bo(l:Nat):eH l .hole=[]:=by unfold eH;rw[Dy];rfl
theorem Je(t:Tr):eH 0 t=if t.isHole then [] else t.ptr.addrs:=by
 unfold eH;rw[gR];cases t.isHole<;>simp[kR]
theorem Bp(l:Nat)(t:Tr):eH (l+1) t=if t.isHole then [] else t.ptr.addrs++(List.range 4).flatMap fun i=>eH l (t.kid i):=by
 unfold eH;rw[gS];cases t.isHole with
 | true=>rfl
 | false =>
   simp only[kR,Bool.not_true,Bool.false_eq_true,if_false,List.flatMap_cons,List.flatMap_assoc,Bool.or_self]
   congr 1
   exact lS fun i _=>MJ l (t.kid i) _
theorem MK(l:Nat)(t:Tr)(a:Nat):((thr kR l t a).map fun x=>x.1)=fR l t:=by
 unfold fR;have:=Dz kR l t 0 a;rw[Nat.zero_add] at this;rw[this,List.map_map];rfl
theorem Bq(l:Nat):fR l .hole=[]:=by unfold fR;rw[Dy];rfl
theorem Jf(t:Tr):fR 0 t=if t.isHole then [] else [t.ptr]:=by
 unfold fR;rw[gR];cases t.isHole<;>simp[kR]
theorem Br(l:Nat)(t:Tr):fR (l+1) t=if t.isHole then [] else t.ptr::(List.range 4).flatMap fun i=>fR l (t.kid i):=by
 unfold fR;rw[gS];cases t.isHole with
 | true=>rfl
 | false =>
   simp only[kR,Bool.not_true,Bool.false_eq_true,if_false,List.map_cons,List.map_flatMap,Bool.or_self]
   congr 1
   exact lS fun i _=>MK l (t.kid i) _
theorem DA{l:Nat}{t:Tr}{a:Ad}:a∈eH l t↔∃x∈fR l t,a∈x.addrs:=by
 unfold eH fR;rw[List.mem_flatMap];constructor
 ·rintro⟨x,h1,h2⟩;exact⟨x.1,List.mem_map.2 ⟨x,h1,rfl⟩,h2⟩
 ·rintro⟨x,h1,h2⟩
  obtain⟨y,h3,rfl⟩:=List.mem_map.1 h1;exact⟨y,h3,h2⟩
theorem zM{S:Kor}(hb:S.Bd){lv:Nat}{b:List UInt8}{p:Pt}{T:Kor}(h:S.put lv b=some (p,T)):p.addrs.length=S.cp/\p.birth=S.txg+1/\p.level=(lv:Int):=by
 unfold Kor.put at h;cases hc:bV (bX S.L S.D S.Z) S.allUp S.cp with
 | none=>rw[hc] at h;cases h
 | some l =>
   rw[hc] at h;have h:=Option.some.inj h;injection h with h1 h2
   subst h1;refine⟨?_,rfl,rfl⟩;show (bB S.L S.Z l).length=S.cp
   have hup2:upN S.allUp=S.D:=by
    unfold upN Kor.allUp;rw[List.countP_replicate];rfl
   rw[lK,(eZ hc).2.1];unfold kO;rw[hup2];exact Nat.min_eq_left hb.cD
def jC(S:Kor)(l:Nat)(t u:Tr):Prop:=∀x∈fR l u,x∈fR l t\/(x.addrs.length=S.cp/\∀a∈x.addrs,a ∉ S.L)
theorem jC.ads{S:Kor}{l:Nat}{t u:Tr}(h:jC S l t u):∀a∈eH l u,a∈eH l t\/a ∉ S.L:=fun a ha=>by
 obtain⟨x,h1,h2⟩:=DA.1 ha;exact(h x h1).imp (fun h=>DA.2 ⟨x,h,h2⟩) fun h=>h.2 a h2
theorem jC.refl(S:Kor)(l:Nat)(t:Tr):jC S l t t:=fun x hx=>.inl hx
theorem jC.hole(S:Kor)(l:Nat)(t:Tr):jC S l t .hole:=fun x hx=>by rw[Bq] at hx;cases hx
theorem K8{l:Nat}{t:Tr}(i:Nat)(hi:i<4):∀a∈fR l (t.kid i),a∈fR (l+1) t:=fun a ha=>by
 rw[Br];cases hh:t.isHole with
 | true =>
   rw[gL hh] at ha;rw[show Tr.kid .hole i=.hole from rfl,Bq] at ha;cases ha
 | false=>exact List.mem_cons_of_mem _ (List.mem_flatMap.2 ⟨i,List.mem_range.2 hi,ha⟩)
theorem E4{S:Kor}{l:Nat}{t:Tr}(h:Tr.Ok S l t):∀a∈eH l t,a∈S.L:=fun a ha=>by
 unfold eH at ha;obtain⟨x,hx,h2⟩:=List.mem_flatMap.1 ha;exact(E3 h hx).2.2.2.2.2.2.2 a h2
theorem zN{A:Nat->List Ad}:((List.range 4).flatMap A).Nodup↔(∀i,i<4->(A i).Nodup)/\∀i j,i<4->j<4->i≠j->∀x∈A i,∀y∈A j,x≠y:=by
 unfold List.Nodup;rw[List.pairwise_flatMap];constructor
 ·rintro⟨h1,h2⟩
  refine⟨fun i hi=>h1 i (List.mem_range.2 hi),fun i j hi hj hn x hx y hy=>?_⟩;rw[List.pairwise_iff_getElem] at h2;rcases Nat.lt_or_gt_of_ne hn with h|h
  ·have:=h2 i j (by simpa using hi) (by simpa using hj) h
   simp only[List.getElem_range] at this;exact this x hx y hy
  ·have:=h2 j i (by simpa using hj) (by simpa using hi) h
   simp only[List.getElem_range] at this;exact(this y hy x hx).symm
 ·rintro⟨h1,h2⟩
  refine⟨fun i hi=>h1 i (List.mem_range.1 hi),List.Pairwise.imp_of_mem ?_ (List.nodup_range (n:=4))⟩;intro i j hi hj hn x hx y hy;exact h2 i j (List.mem_range.1 hi) (List.mem_range.1 hj) hn x hx y hy
structure jQ(S:Kor)(l:Nat)(t:Tr):Prop where
 ok:Tr.Ok S l t
 aged:GC l t
 apart:(eH l t).Nodup
theorem jQ.hole(S:Kor)(l:Nat):jQ S l .hole:=⟨Tr.ok_hole S l,Bn l,by rw[Bo];exact List.nodup_nil⟩
structure rP(S T:Kor)(l:Nat)(t:Tr)(k:Nat->Tr):Prop where
 ext:Ext S T
 ok:∀i,i<4->Tr.Ok T l (k i)
 aged:∀i,i<4->GC l (k i)
 nd:∀i,i<4->(eH l (k i)).Nodup
 old:∀i,i<4->jC S l (t.kid i) (k i)
 ap:∀i j,i<4->j<4->i≠j->∀x∈eH l (k i),∀y∈eH l (k j),x≠y
theorem jQ.kids{S:Kor}{l:Nat}{t:Tr}(h:jQ S (l+1) t):(∀i,i<4->(eH l (t.kid i)).Nodup)/\∀i j,i<4->j<4->i≠j->∀x∈eH l (t.kid i),∀y∈eH l (t.kid j),x≠y:=by
 have:=h.apart;rw[Bp] at this;cases hh:t.isHole with
 | true =>
   have e:∀i,eH l (t.kid i)=[]:=fun i=>by rw[gL hh];exact Bo l
   exact⟨fun i _=>by rw[e];exact List.nodup_nil,fun i j _ _ _ x hx=>by rw[e] at hx;cases hx⟩
 | false =>
   rw[hh] at this;exact zN.1 (List.nodup_append.1 this).2.1
theorem jQ.parts{S:Kor}{l:Nat}{t:Tr}(h:jQ S (l+1) t):rP S S l t t.kid:=
 ⟨Ext.refl S,fun i hi=>h.ok.kid hi,fun i hi=>(h.aged i hi).2,h.kids.1,fun i hi=>jC.refl S l _,h.kids.2⟩
theorem jQ.kid{S:Kor}{l:Nat}{t:Tr}(h:jQ S (l+1) t){i:Nat}(hi:i<4):jQ S l (t.kid i):=⟨h.ok.kid hi,(h.aged i hi).2,h.kids.1 i hi⟩
theorem rP.put{S T U:Kor}{l:Nat}{t:Tr}{k:Nat->Tr}(h:rP S T l t k){i:Nat}(hi:i<4)(hk:k i=t.kid i){u:Tr}(e:Ext T U)(hu:jQ U l u)(ho:jC T l (t.kid i) u):rP S U l t (eX k i u):=by
 have hap:∀j,j<4->j≠i->∀x∈eH l (k j),∀y∈eH l u,x≠y:=fun j hj hn x hx y hy=>by
  rcases ho.ads y hy with h1|h1
  ·exact h.ap j i hj hi hn x hx y (by rw[hk];exact h1)
  ·rintro rfl
   exact h1 (E4 (h.ok j hj) x hx)
 refine⟨h.ext.trans e,fun j hj=>?_,fun j hj=>?_,fun j hj=>?_,fun j hj=>?_,fun j q hj hq hn=>?_⟩
 ·by_cases c:j=i
  ·rw[c,hE];exact hu.ok
  ·rw[iA _ _ c];exact(h.ok j hj).ext e
 ·by_cases c:j=i
  ·rw[c,hE];exact hu.aged
  ·rw[iA _ _ c];exact h.aged j hj
 ·by_cases c:j=i
  ·rw[c,hE];exact hu.apart
  ·rw[iA _ _ c];exact h.nd j hj
 ·by_cases c:j=i
  ·rw[c,hE];exact fun x hx=>(ho x hx).imp id fun hn=>⟨hn.1.trans h.ext.cp,fun a ha hs=>hn.2 a ha (h.ext.L a hs)⟩
  ·rw[iA _ _ c];exact h.old j hj
 ·by_cases c:j=i
  ·subst c
   rw[hE,iA _ _ (Ne.symm hn)];exact fun x hx y hy=>(hap q hq (Ne.symm hn) y hy x hx).symm
  ·rw[iA _ _ c]
   by_cases d:q=i
   ·subst d
    rw[hE];exact hap j hj hn
   ·rw[iA _ _ d]
    exact h.ap j q hj hq hn
theorem Jg{S:Kor}(hb:S.Bd){b:List UInt8}(hl:b.length=256){u:Tr}{T:Kor}(h:S.leaf b=(some u,T))(t:Tr):jQ T 0 u/\jC S 0 t u:=by
 have h0:=EW hb hl h;unfold Kor.leaf at h
 by_cases hz:b=zB
 ·rw[if_pos hz] at h
  injection h with h1 h2
  injection h1 with h1
  subst h1 h2;exact⟨jQ.hole S 0,jC.hole _ _ _⟩
 ·rw[if_neg hz] at h
  cases hp:S.put 0 b with
  | none=>rw[hp] at h;injection h with h1 h2;cases h1
  | some x =>
    obtain⟨p,U⟩:=x;rw[hp] at h;injection h with h1 h2
    injection h1 with h1
    subst h1 h2;obtain⟨g1,g2,g3,g4,-,g6,g7,-⟩:=pN hb (by omega) hl hp;have e:eH 0 (.leaf p b)=p.addrs:=by rw[Je];rfl
    refine⟨⟨(h0.2 _ rfl).1,trivial,by rw[e];exact g7⟩,fun x hx=>.inr ?_⟩;rw[Jf] at hx;obtain rfl:=List.mem_singleton.1 hx;exact⟨(zM hb hp).1,g6⟩
theorem rP.lay{S T U:Kor}{l:Nat}{t:Tr}{k:Nat->Tr}(h:rP S T l t k)(hb:T.Bd)(hl:l≤2){u:Tr}(hu:T.lay (l+1) k=(some u,U)):jQ U (l+1) u/\jC S (l+1) t u:=by
 have h0:=Is hb hl h.ok hu;unfold Kor.lay at hu
 by_cases hz:gA k=true
 ·rw[if_pos hz] at hu
  injection hu with h1 h2
  injection h1 with h1
  subst h1 h2;exact⟨jQ.hole _ _,jC.hole _ _ _⟩
 ·rw[if_neg hz] at hu
  cases hp:T.put (l+1) (cQ (l+1) (fB k)) with
  | none=>rw[hp] at hu;injection hu with h1 h2;cases h1
  | some x =>
    obtain⟨p,V⟩:=x;rw[hp] at hu;injection hu with h1 h2
    injection h1 with h1
    subst h1 h2;obtain⟨g1,g2,g3,g4,g5,g6,g7,-⟩:=pN hb (by omega) (Am h.ok) hp;have e:eH (l+1) (.node p k)=p.addrs++(List.range 4).flatMap fun i=>eH l (k i):=by rw[Bp];rfl
    refine⟨⟨(h0.2 _ rfl).1,fun i hi=>⟨?_,h.aged i hi⟩,?_⟩,?_⟩
    ·cases hh:(k i).isHole with
     | true=>exact .inl hh
     | false =>
       right;show (k i).ptr.birth≤p.birth;rw[g5];exact((h.ok i hi).born hh).2.1
    ·rw[e,List.nodup_append]
     refine⟨g7,zN.2 ⟨h.nd,h.ap⟩,fun x hx y hy hxy=>?_⟩;obtain⟨i,hi,hy⟩:=List.mem_flatMap.1 hy;rw[hxy] at hx;exact g6 y hx (E4 (h.ok i (List.mem_range.1 hi)) y hy)
    ·intro x hx
     have hx:x∈p::(List.range 4).flatMap fun i=>fR l (k i):=by rw[Br] at hx;exact hx
     rcases List.mem_cons.1 hx with rfl|hx
     ·exact .inr ⟨(zM hb hp).1.trans h.ext.cp,fun a ha hs=>g6 a ha (h.ext.L a hs)⟩
     ·obtain⟨i,hi,hx⟩:=List.mem_flatMap.1 hx
      exact(h.old i (List.mem_range.1 hi) x hx).imp (K8 i (List.mem_range.1 hi) x) id
theorem Bt{b:List UInt8}(hbl:b.length=256)(n:Nat):∀{l:Nat},l≤3->∀{S:Kor}{t:Tr},S.Bd->jQ S l t->∀{u:Tr}{T:Kor},eG l S t n b=(some u,T)->jQ T l u/\jC S l t u
 | 0,_,S,t,hb,ht,u,T,h=>by
   exact Jg hb hbl h t
 | l+1,hl,S,t,hb,ht,u,T,h=>by
   unfold eG at h;cases hs:eG l S (t.kid (n / 4 ^ l % 4)) n b with
   | mk r1 T1 =>
     rw[hs] at h;cases r1 with
     | none=>injection h with h1 h2;cases h1
     | some u1 =>
       obtain⟨e1,e2⟩:=oZ hbl n (by omega) hb (ht.ok.kid (gB n l)) hs;obtain⟨k1,k2⟩:=Bt hbl n (by omega) hb (ht.kid (gB n l)) hs;exact(ht.parts.put (gB n l) rfl e1.ext k1 k2).lay e1.bd (by omega) h
def unl:Nat->Tr->Tr->Nat->List Nat
 | 0,s,t,a=>if s.ptr.eqB t.ptr then [] else [a]
 | l+1,s,t,a=>if s.ptr.eqB t.ptr then [] else (List.range 4).flatMap fun i=>unl l (s.kid i) (t.kid i) (a+i*4 ^ l)
theorem xP(s t:Tr)(a:Nat):unl 0 s t a=if s.ptr.eqB t.ptr then [] else [a]:=rfl
theorem lA(l:Nat)(s t:Tr)(a:Nat):unl (l+1) s t a=if s.ptr.eqB t.ptr then [] else (List.range 4).flatMap fun i=>unl l (s.kid i) (t.kid i) (a+i*4 ^ l):=rfl
theorem mT(l:Nat)(t:Tr)(a:Nat):unl l t t a=[]:=by
 cases l with
 | zero=>rw[xP,C5];rfl
 | succ l=>rw[lA,C5];rfl
theorem Tr.Ok.pmay{S:Kor}{l:Nat}{t:Tr}(h:Tr.Ok S l t):t.ptr.may=true:=by
 cases t with
 | hole=>exact jI iI
 | leaf p b=>cases l with
   | zero=>exact h.1.may
   | succ l=>exact h.elim
 | node p k=>cases l with
   | zero=>exact h.elim
   | succ l=>exact h.1.may
theorem zO{S:Kor}:∀{l:Nat}{t:Tr},Tr.Ok S l t->∀(a:Nat),thr (bD 0) l t a=thr kR l t a
 | 0,t,h,a=>by
   rw[gR,gR];cases hh:t.isHole with
   | true=>rfl
   | false =>
     have e:bD 0 t.ptr=true:=decide_eq_true (by have:=(h.born hh).1;omega);rw[e];rfl
 | l+1,t,h,a=>by
   rw[gS,gS];cases hh:t.isHole with
   | true=>rfl
   | false =>
     have e:bD 0 t.ptr=true:=decide_eq_true (by have:=(h.born hh).1;omega);rw[e]
     have g:((List.range 4).flatMap fun i=>thr (bD 0) l (t.kid i) (a+i*4 ^ l))=(List.range 4).flatMap fun i=>thr kR l (t.kid i) (a+i*4 ^ l):=
      lS fun i hi=>zO (h.kid (List.mem_range.1 hi)) _
     rw[g];rfl
end
end Go.Proofs.YtiinnfhjpaeffaaGreat
