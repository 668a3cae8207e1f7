/- A part of the proof. Conditions: those told. -/
import Derived.Test.YthihofpfonfjfaaGreatDoorB1
import Derived.Test.YthihofpfonfjfaaGreatDoorB18
import Derived.Test.YthihofpfonfjfaaGreatDoorB20
import Derived.Test.YthihofpfonfjfaaGreatDoorB21
namespace Go.Proofs.YthihofpfonfjfaaGreatDoor
set_option maxHeartbeats 64000000
set_option maxRecDepth 100000
set_option linter.unusedVariables false
section
open Go.RowKit Go.Maps Go.ChangeMaps
structure Kor where
 D:Nat
 Z:Nat
 cp:Nat
 L:List Ad
 M:Nat->Nat->List UInt8
 txg:Int
structure Kor.Bd(S:Kor):Prop where
 d2:2≤S.D
 d8:S.D≤8
 z8:8≤S.Z
 z4:S.Z≤4096
 c1:1≤S.cp
 c3:S.cp≤3
 cD:S.cp≤S.D
 t0:0≤S.txg
 t1:S.txg<2147483648
def kQ(b:List UInt8):List Ad->(Nat->Nat->List UInt8)->Nat->Nat->List UInt8
 | [],M=>M
 | a::l,M=>kQ b l (iF M a.dev.toNat a.sec.toNat b)
theorem AU(b:List UInt8)(a:Ad):∀(l:List Ad) (M:Nat->Nat->List UInt8),kQ b (l++[a]) M=iF (kQ b l M) a.dev.toNat a.sec.toNat b
 | [],M=>rfl
 | x::l,M=>AU b a l _
theorem Ev(b:List UInt8):∀(l:List Ad) (M:Nat->Nat->List UInt8) (d s:Nat),((∃a∈l,d=a.dev.toNat/\s=a.sec.toNat)\/M d s=b)->kQ b l M d s=b
 | [],M,d,s,h=>by
   rcases h with⟨a,ha,-⟩|h
   ·cases ha
   ·exact h
 | x::l,M,d,s,h=>by
   refine Ev b l _ d s ?_;rcases h with⟨a,ha,h1,h2⟩|h
   ·rcases List.mem_cons.1 ha with rfl|ha
    ·right;unfold iF;rw[if_pos ⟨h1,h2⟩]
    ·exact .inl ⟨a,ha,h1,h2⟩
   ·right;unfold iF;split
    ·rfl
    ·exact h
theorem wP(b:List UInt8):∀(l:List Ad) (M:Nat->Nat->List UInt8) (d s:Nat),(∀a∈l,¬(d=a.dev.toNat/\s=a.sec.toNat))->kQ b l M d s=M d s
 | [],M,d,s,h=>rfl
 | x::l,M,d,s,h=>by
   rw[kQ,wP b l _ d s fun a ha=>h a (List.mem_cons_of_mem _ ha)];unfold iF;rw[if_neg (h x (List.mem_cons_self ..))]
def Kor.allUp(S:Kor):List Bool:=List.replicate S.D true
def Kor.put(S:Kor)(lv:Nat)(b:List UInt8):Option (Pt×Kor):=
 match bT (bU S.L S.D S.Z) S.allUp S.cp with
 | none=>none
 | some l=>some (⟨bB S.L S.Z l,S.txg+1,(lv:Int),cS b⟩,⟨S.D,S.Z,S.cp,S.L++bB S.L S.Z l,kQ b (bB S.L S.Z l) S.M,S.txg⟩)
structure Ext(S T:Kor):Prop where
 D:T.D=S.D
 Z:T.Z=S.Z
 cp:T.cp=S.cp
 txg:S.txg≤T.txg
 L:∀a∈S.L,a∈T.L
 M:∀a∈S.L,dW a S.D S.Z->T.M a.dev.toNat a.sec.toNat=S.M a.dev.toNat a.sec.toNat
theorem Ext.refl(S:Kor):Ext S S:=⟨rfl,rfl,rfl,Int.le_refl _,fun _ h=>h,fun _ _ _=>rfl⟩
theorem Ext.trans{S T U:Kor}(h:Ext S T)(k:Ext T U):Ext S U:=
 ⟨k.D.trans h.D,k.Z.trans h.Z,k.cp.trans h.cp,Int.le_trans h.txg k.txg,fun a ha=>k.L a (h.L a ha),fun a ha hp=>(k.M a (h.L a ha) (by rw[h.D,h.Z];exact hp)).trans (h.M a ha hp)⟩
structure jA(S:Kor)(p:Pt)(lv:Nat)(b:List UInt8):Prop where
 may:p.may=true
 ne:p.addrs≠[]
 lev:p.level=(lv:Int)
 sum:p.sum=cS b
 len:b.length=256
 born:1≤p.birth/\p.birth≤S.txg+1
 lies:∀a∈p.addrs,dW a S.D S.Z/\a∈S.L/\S.M a.dev.toNat a.sec.toNat=b
theorem jA.ext{S T:Kor}{p:Pt}{lv:Nat}{b:List UInt8}(h:jA S p lv b)(e:Ext S T):jA T p lv b:=
 ⟨h.may,h.ne,h.lev,h.sum,h.len,⟨h.born.1,Int.le_trans h.born.2 (Int.add_le_add_right e.txg 1)⟩,fun a ha=>by
  obtain⟨h1,h2,h3⟩:=h.lies a ha;exact⟨by rw[e.D,e.Z];exact h1,e.L a h2,(e.M a h2 h1).trans h3⟩⟩
theorem jA.sl{S:Kor}{p:Pt}{lv:Nat}{b:List UInt8}(h:jA S p lv b):p.sum.length=32:=by rw[h.sum,dS]
theorem jA.ne_hole{S:Kor}{p:Pt}{lv:Nat}{b:List UInt8}(h:jA S p lv b):p.hole=false:=by
 unfold Pt.hole
 have:((p.addrs.length:Int) == 0)=false:=by
  rw[beq_eq_false_iff_ne];intro e;exact h.ne (List.eq_nil_of_length_eq_zero (by omega))
 rw[this,Bool.false_and]
theorem gP:zPt.hole=true:=by decide
theorem oZ{S:Kor}(hb:S.Bd){lv:Nat}(hlv:lv≤3){b:List UInt8}(hl:b.length=256){p:Pt}{T:Kor}(h:S.put lv b=some (p,T)) :
 jA T p lv b/\Ext S T/\T.Bd/\T.txg=S.txg/\p.birth=S.txg+1/\(∀a∈p.addrs,a ∉ S.L)/\p.addrs.Nodup/\∃l,bT (bU S.L S.D S.Z) S.allUp S.cp=some l/\T.L=S.L++bB S.L S.Z l/\p.addrs=bB S.L S.Z l:=by
 unfold Kor.put at h;cases hc:bT (bU S.L S.D S.Z) S.allUp S.cp with
 | none=>rw[hc] at h;cases h
 | some l =>
   rw[hc] at h;have h:=Option.some.inj h;injection h with h1 h2
   subst h1 h2;have hbd:2≤S.D/\S.D≤8/\8≤S.Z/\S.Z≤4096:=⟨hb.d2,hb.d8,hb.z8,hb.z4⟩
   have hnew:=fun x hx=>AR hbd hc (x:=x) hx
   obtain⟨-,hlen,hup,hnd,hmem⟩:=eJ hc;have hin:∀a∈bB S.L S.Z l,dW a S.D S.Z:=fun a ha=>(zX hbd).1 (hnew a ha).1
   have hup2:upN S.allUp=S.D:=by
    unfold upN Kor.allUp;rw[List.countP_replicate];rfl
   have hlcp:l.length=S.cp:=by
    rw[hlen];unfold kI;rw[hup2];exact Nat.min_eq_left hb.cD
   have hnd2:=DL hc
   have hdevs:((bB S.L S.Z l).map (·.dev)).Nodup:=by
    unfold bB;rw[List.map_map];have:((fun(x:Ad)=>x.dev) ∘ fun(d:Nat)=>(⟨(d:Int),(aV S.L d S.Z).headD 0⟩:Ad))=fun(d:Nat)=>(d:Int):=rfl
    rw[this];show List.Pairwise _ _;rw[List.pairwise_map];exact hnd.imp fun h e=>h (by exact_mod_cast e)
   refine⟨⟨?_,?_,rfl,rfl,hl,⟨?_,Int.le_refl _⟩,?_⟩,⟨rfl,rfl,rfl,Int.le_refl _,fun a ha=>List.mem_append_left _ ha,?_⟩,⟨hb.d2,hb.d8,hb.z8,hb.z4,hb.c1,hb.c3,hb.cD,hb.t0,hb.t1⟩,rfl,rfl,fun a ha=>(hnew a ha).2.1,hnd2,l,rfl,rfl,rfl⟩
   ·unfold Pt.may pW Pt.numsB
    rw[Bool.or_eq_true];right;have t0:=hb.t0;have t1:=hb.t1;have c1:=hb.c1;have c3:=hb.c3;simp only[Bool.and_eq_true,decide_eq_true_eq,List.all_eq_true,nZ];refine⟨⟨⟨⟨fun a ha=>?_,hdevs⟩,by omega⟩,by omega⟩,⟨⟨by omega,by omega⟩,by omega⟩,by omega⟩;obtain⟨h1,h2,h3,h4⟩:=hin a ha;unfold jW;have d8:=hb.d8;have z4:=hb.z4;simp only[Bool.and_eq_true,decide_eq_true_eq];exact⟨⟨⟨h1,by show a.1<8;omega⟩,h3⟩,by show a.2<4096;omega⟩
   ·intro e
    have:=congrArg List.length e;rw[nZ] at this;have c1:=hb.c1;simp at this;rw[this] at hlcp;simp at hlcp;omega
   ·have t0:=hb.t0
    show 1≤S.txg+1;omega
   ·exact fun a ha=>⟨hin a ha,List.mem_append_right _ ha,Ev b _ _ _ _ (.inl ⟨a,ha,rfl,rfl⟩)⟩
   ·intro a ha hp
    refine wP b _ _ _ _ fun x hx e=>(hnew x hx).2.1 ?_
    obtain⟨x1,x2,x3,x4⟩:=hin x hx;obtain⟨a1,a2,a3,a4⟩:=hp
    have:x=a:=by
     obtain⟨xd,xs⟩:=x;obtain⟨ad,at2⟩:=a;simp only[] at *;have e1:xd=ad:=by have:=e.1;omega
     have e2:xs=at2:=by have:=e.2;omega
     rw[e1,e2]
    rw[this];exact ha
def cY(lv:Nat)(ps:List Pt):List UInt8:=UInt8.ofNat lv::ps.flatMap dG++List.replicate 67 0
theorem MD{lv:Nat}{p q r s:Pt}(h0:p.sum.length=32)(h1:q.sum.length=32)(h2:r.sum.length=32)(h3:s.sum.length=32):(cY lv [p,q,r,s]).length=256:=by
 unfold cY;simp[fS h0,fS h1,fS h2,fS h3]
inductive Tr where
 | hole:Tr
 | leaf:Pt->List UInt8->Tr
 | node:Pt->(Nat->Tr)->Tr
def Tr.ptr:Tr->Pt
 | .hole=>zPt
 | .leaf p _=>p
 | .node p _=>p
def Tr.isHole:Tr->Bool
 | .hole=>true
 | _=>false
def Tr.kid:Tr->Nat->Tr
 | .node _ k,i=>k i
 | _,_=>.hole
def fO(k:Nat->Tr):List Pt:=[(k 0).ptr,(k 1).ptr,(k 2).ptr,(k 3).ptr]
def fL(k:Nat->Tr):Bool:=(k 0).isHole && (k 1).isHole && (k 2).isHole && (k 3).isHole
def Tr.Ok(S:Kor):Nat->Tr->Prop
 | _,.hole=>True
 | 0,.leaf p b=>jA S p 0 b/\b≠zB
 | 0,.node _ _=>False
 | _+1,.leaf _ _=>False
 | l+1,.node p k=>jA S p (l+1) (cY (l+1) (fO k))/\(∀i,i<4->Tr.Ok S l (k i))/\fL k=false
def Tr.blocks:Nat->Tr->List (List UInt8)
 | l,.hole=>List.replicate (4 ^ l) zB
 | _,.leaf _ b=>[b]
 | 0,.node _ _=>[]
 | l+1,.node _ k=>(k 0).blocks l++(k 1).blocks l++(k 2).blocks l++(k 3).blocks l
def Tr.many:Nat->Tr->Nat
 | _,.hole=>0
 | _,.leaf _ _=>1
 | 0,.node _ _=>0
 | l+1,.node _ k=>(k 0).many l+(k 1).many l+(k 2).many l+(k 3).many l
def tV(k:Nat->Tr)(i:Nat)(t:Tr):Nat->Tr:=fun j=>if j=i then t else k j
def Kor.leaf(S:Kor)(b:List UInt8):Option Tr×Kor:=if b=zB then (some .hole,S) else match S.put 0 b with
 | none=>(none,S)
 | some (p,T)=>(some (.leaf p b),T)
def Kor.lay(S:Kor)(l:Nat)(k:Nat->Tr):Option Tr×Kor:=if fL k then (some .hole,S) else match S.put l (cY l (fO k)) with
 | none=>(none,S)
 | some (p,T)=>(some (.node p k),T)
def Tr.blk:Nat->Tr->Nat->List UInt8
 | 0,.leaf _ b,_=>b
 | 0,.hole,_=>zB
 | 0,.node _ _,_=>zB
 | l+1,.node _ k,i=>(k (i / 4 ^ l % 4)).blk l i
 | _+1,.hole,_=>zB
 | _+1,.leaf _ _,_=>zB
theorem Tr.blk_hole(l i:Nat):Tr.blk l .hole i=zB:=by cases l<;>rfl
theorem Tr.ok_hole(S:Kor)(l:Nat):Tr.Ok S l .hole:=by cases l<;>exact trivial
theorem Tr.Ok.kid{S:Kor}{l:Nat}{t:Tr}(h:Tr.Ok S (l+1) t){i:Nat}(hi:i<4):Tr.Ok S l (t.kid i):=by
 cases t with
 | hole=>exact Tr.ok_hole S l
 | leaf p b=>exact h.elim
 | node p k=>exact h.2.1 i hi
theorem Tr.Ok.blk_succ{S:Kor}{l:Nat}{t:Tr}(h:Tr.Ok S (l+1) t)(i:Nat):t.blk (l+1) i=(t.kid (i / 4 ^ l % 4)).blk l i:=by
 cases t with
 | hole=>exact(Tr.blk_hole l i).symm
 | leaf p b=>exact h.elim
 | node p k=>rfl
theorem Tr.Ok.ext{S T:Kor}(e:Ext S T):∀{l:Nat}{t:Tr},Tr.Ok S l t->Tr.Ok T l t
 | l,.hole,_=>Tr.ok_hole T l
 | 0,.leaf p b,h=>⟨h.1.ext e,h.2⟩
 | 0,.node p k,h=>h
 | l+1,.leaf p b,h=>h
 | l+1,.node p k,h=>⟨h.1.ext e,fun i hi=>Tr.Ok.ext e (h.2.1 i hi),h.2.2⟩
theorem Tr.Ok.sl{S:Kor}{l:Nat}{t:Tr}(h:Tr.Ok S l t):t.ptr.sum.length=32:=by
 cases t with
 | hole=>rfl
 | leaf p b=>cases l with
   | zero=>exact h.1.sl
   | succ l=>exact h.elim
 | node p k=>cases l with
   | zero=>exact h.elim
   | succ l=>exact h.1.sl
theorem Tr.Ok.hole_eq{S:Kor}{l:Nat}{t:Tr}(h:Tr.Ok S l t):t.ptr.hole=t.isHole:=by
 cases t with
 | hole=>exact gP
 | leaf p b=>cases l with
   | zero=>exact h.1.ne_hole
   | succ l=>exact h.elim
 | node p k=>cases l with
   | zero=>exact h.elim
   | succ l=>exact h.1.ne_hole
theorem Tr.Ok.lies{S:Kor}{l:Nat}{t:Tr}(h:Tr.Ok S l t)(hh:t.isHole=false):t.ptr.addrs≠[]/\∀a∈t.ptr.addrs,a∈S.L:=by
 cases t with
 | hole=>cases hh
 | leaf p b=>cases l with
   | zero=>exact⟨h.1.ne,fun a ha=>(h.1.lies a ha).2.1⟩
   | succ l=>exact h.elim
 | node p k=>cases l with
   | zero=>exact h.elim
   | succ l=>exact⟨h.1.ne,fun a ha=>(h.1.lies a ha).2.1⟩
theorem gK{t:Tr}(h:t.isHole=true):t=.hole:=by cases t<;>first|rfl|cases h
theorem yL{k:Nat->Tr}(h:fL k=true){i:Nat}(hi:i<4):k i=.hole:=by
 unfold fL at h;simp only[Bool.and_eq_true] at h;obtain⟨⟨⟨h0,h1⟩,h2⟩,h3⟩:=h;rcases i with _|_|_|_|i
 ·exact gK h0
 ·exact gK h1
 ·exact gK h2
 ·exact gK h3
 ·omega
theorem DO{k:Nat->Tr}(h:fL k=false):∃i,i<4/\(k i).isHole=false:=by
 unfold fL at h;cases h0:(k 0).isHole with
 | false=>exact⟨0,by omega,h0⟩
 | true=>cases h1:(k 1).isHole with
   | false=>exact⟨1,by omega,h1⟩
   | true=>cases h2:(k 2).isHole with
     | false=>exact⟨2,by omega,h2⟩
     | true=>cases h3:(k 3).isHole with
       | false=>exact⟨3,by omega,h3⟩
       | true=>rw[h0,h1,h2,h3] at h;cases h
theorem tW(i l:Nat):i / 4 ^ l % 4<4:=Nat.mod_lt _ (by omega)
theorem tX(i l:Nat):i % 4 ^ (l+1)=i / 4 ^ l % 4*4 ^ l+i % 4 ^ l:=by
 rw[Nat.pow_succ,Nat.mod_mul,Nat.add_comm,Nat.mul_comm]
theorem ME(i n l:Nat):i % 4 ^ (l+1)=n % 4 ^ (l+1)↔i / 4 ^ l % 4=n / 4 ^ l % 4/\i % 4 ^ l=n % 4 ^ l:=by
 have hp:0<4 ^ l:=Nat.pos_of_ne_zero (by simp);have hi:=Nat.mod_lt i hp;have hn:=Nat.mod_lt n hp;rw[tX i l,tX n l];constructor
 ·intro h
  have h1:(i / 4 ^ l % 4*4 ^ l+i % 4 ^ l) / 4 ^ l=(n / 4 ^ l % 4*4 ^ l+n % 4 ^ l) / 4 ^ l:=by rw[h]
  rw[Nat.mul_comm _ (4 ^ l),Nat.mul_comm _ (4 ^ l),Nat.mul_add_div hp,Nat.mul_add_div hp,Nat.div_eq_of_lt hi,Nat.div_eq_of_lt hn,Nat.add_zero,Nat.add_zero] at h1;refine⟨h1,?_⟩;rw[h1] at h;omega
 ·rintro⟨h1,h2⟩
  rw[h1,h2]
theorem Tr.Ok.blk_mod{S:Kor}:∀{l:Nat}{t:Tr},Tr.Ok S l t->∀{i n:Nat},i % 4 ^ l=n % 4 ^ l->t.blk l i=t.blk l n
 | 0,t,h,i,n,e=>by cases t<;>rfl
 | l+1,t,h,i,n,e=>by
   obtain⟨e1,e2⟩:=(ME i n l).1 e;rw[h.blk_succ,h.blk_succ,e1];exact(h.kid (tW n l)).blk_mod e2
theorem Tr.Ok.some_blk{S:Kor}:∀{l:Nat}{t:Tr},Tr.Ok S l t->t.isHole=false->∃i,i<4 ^ l/\t.blk l i≠zB
 | 0,.hole,_,hh=>by cases hh
 | 0,.leaf p b,h,_=>⟨0,by simp,h.2⟩
 | 0,.node p k,h,_=>h.elim
 | l+1,.hole,_,hh=>by cases hh
 | l+1,.leaf p b,h,_=>h.elim
 | l+1,.node p k,h,_=>by
   obtain⟨j,hj,hk⟩:=DO h.2.2;obtain⟨i,hi,hb⟩:=(h.2.1 j hj).some_blk hk;have hp:0<4 ^ l:=Nat.pos_of_ne_zero (by simp)
   have e1:(j*4 ^ l+i) / 4 ^ l % 4=j:=by
    rw[Nat.mul_comm,Nat.mul_add_div hp,Nat.div_eq_of_lt hi,Nat.add_zero,Nat.mod_eq_of_lt hj]
   have e2:(j*4 ^ l+i) % 4 ^ l=i % 4 ^ l:=by rw[Nat.mul_comm,Nat.mul_add_mod]
   refine⟨j*4 ^ l+i,?_,?_⟩
   ·rw[Nat.pow_succ]
    have:j*4 ^ l+4 ^ l≤4 ^ l*4:=by
     have:(j+1)*4 ^ l≤4*4 ^ l:=Nat.mul_le_mul_right _ hj;rw[Nat.succ_mul] at this;omega
    omega
   ·show (k ((j*4 ^ l+i) / 4 ^ l % 4)).blk l (j*4 ^ l+i)≠zB
    rw[e1,(h.2.1 j hj).blk_mod e2];exact hb
def Fr(S:Kor)(u:Tr):Prop:=∀a∈u.ptr.addrs,a ∉ S.L
theorem Fr.hole(S:Kor):Fr S .hole:=fun a ha=>by cases ha
theorem Fr.ext{S T:Kor}{u:Tr}(h:Fr T u)(e:Ext S T):Fr S u:=fun a ha hl=>h a ha (e.L a hl)
theorem Hl{p q:Pt}(h:p.eqB q=true):p=q:=by
 obtain⟨a,b,c,d⟩:=p;obtain⟨a',b',c',d'⟩:=q;unfold Pt.eqB at h;simp only[Bool.and_eq_true,beq_iff_eq,decide_eq_true_eq] at h;obtain⟨⟨⟨rfl,rfl⟩,rfl⟩,rfl⟩:=h;rfl
theorem Fr.ne{S:Kor}{l:Nat}{t u:Tr}(h:Tr.Ok S l t)(hh:t.isHole=false)(hf:Fr S u):u.ptr.eqB t.ptr=false:=by
 cases e:u.ptr.eqB t.ptr with
 | false=>rfl
 | true =>
   have:=Hl e;obtain⟨h1,h2⟩:=h.lies hh;unfold Fr at hf;rw[this] at hf;cases ha:t.ptr.addrs with
   | nil=>exact absurd ha h1
   | cons a r=>exact absurd (h2 a (by rw[ha];exact List.mem_cons_self ..)) (hf a (by rw[ha];exact List.mem_cons_self ..))
theorem Fr.ne_hole{S T:Kor}{l:Nat}{u:Tr}(h:Tr.Ok T l u)(hh:u.isHole=false):u.ptr.eqB zPt=false:=by
 cases e:u.ptr.eqB zPt with
 | false=>rfl
 | true =>
   have:=Hl e;have h2:=h.hole_eq;rw[this,gP,hh] at h2;cases h2
structure Beh(S T:Kor):Prop where
 ext:Ext S T
 bd:T.Bd
 txg:T.txg=S.txg
theorem Beh.refl{S:Kor}(h:S.Bd):Beh S S:=⟨Ext.refl S,h,rfl⟩
theorem Beh.trans{S T U:Kor}(h:Beh S T)(k:Beh T U):Beh S U:=⟨h.ext.trans k.ext,k.bd,k.txg.trans h.txg⟩
theorem Ew{S:Kor}(hb:S.Bd){b:List UInt8}(hl:b.length=256){r:Option Tr}{T:Kor}(h:S.leaf b=(r,T)):Beh S T/\∀u,r=some u->Tr.Ok T 0 u/\(∀i,u.blk 0 i=b)/\Fr S u:=by
 unfold Kor.leaf at h
 by_cases hz:b=zB
 ·rw[if_pos hz] at h
  injection h with h1 h2
  subst h1 h2;refine⟨Beh.refl hb,fun u hu=>?_⟩;cases hu
  exact⟨trivial,fun i=>hz.symm,Fr.hole S⟩
 ·rw[if_neg hz] at h
  cases hp:S.put 0 b with
  | none =>
    rw[hp] at h;injection h with h1 h2
    subst h1 h2;exact⟨Beh.refl hb,fun u hu=>by cases hu⟩
  | some x =>
    obtain⟨p,U⟩:=x;rw[hp] at h;injection h with h1 h2
    subst h1 h2;obtain⟨g1,g2,g3,g4,-,g6,-⟩:=oZ hb (by omega) hl hp;refine⟨⟨g2,g3,g4⟩,fun u hu=>?_⟩;cases hu
    exact⟨⟨g1,hz⟩,fun i=>rfl,g6⟩
theorem Ab{S:Kor}{l lv:Nat}{k:Nat->Tr}(hk:∀i,i<4->Tr.Ok S l (k i)):(cY lv (fO k)).length=256:=
 MD (hk 0 (by omega)).sl (hk 1 (by omega)).sl (hk 2 (by omega)).sl (hk 3 (by omega)).sl
theorem Hm{S:Kor}(hb:S.Bd){l:Nat}(hl:l≤2){k:Nat->Tr}(hk:∀i,i<4->Tr.Ok S l (k i)){r:Option Tr}{T:Kor}(h:S.lay (l+1) k=(r,T)):Beh S T/\∀u,r=some u->Tr.Ok T (l+1) u/\(∀i,u.blk (l+1) i=(k (i / 4 ^ l % 4)).blk l i)/\Fr S u:=by
 unfold Kor.lay at h
 by_cases hz:fL k=true
 ·rw[if_pos hz] at h
  injection h with h1 h2
  subst h1 h2;refine⟨Beh.refl hb,fun u hu=>?_⟩;cases hu
  exact⟨trivial,fun i=>by rw[yL hz (tW i l),Tr.blk_hole,Tr.blk_hole],Fr.hole S⟩
 ·rw[if_neg hz] at h
  cases hp:S.put (l+1) (cY (l+1) (fO k)) with
  | none =>
    rw[hp] at h;injection h with h1 h2
    subst h1 h2;exact⟨Beh.refl hb,fun u hu=>by cases hu⟩
  | some x =>
    obtain⟨p,U⟩:=x;rw[hp] at h;injection h with h1 h2
    subst h1 h2;obtain⟨g1,g2,g3,g4,-,g6,-⟩:=oZ hb (by omega) (Ab hk) hp;refine⟨⟨g2,g3,g4⟩,fun u hu=>?_⟩;cases hu
    exact⟨⟨g1,fun i hi=>(hk i hi).ext g2,by simpa using hz⟩,fun i=>rfl,g6⟩
theorem iQ(k:Nat->Tr)(i:Nat)(t:Tr):tV k i t i=t:=by unfold tV;rw[if_pos rfl]
theorem gE(k:Nat->Tr){i j:Nat}(t:Tr)(h:j≠i):tV k i t j=k j:=by unfold tV;rw[if_neg h]
def Kor.room(S:Kor)(N:Nat):Prop:=eV S.allUp S.cp (bU S.L S.D S.Z) N
theorem CU{S:Kor}{N:Nat}(h:S.room (N+1))(lv:Nat)(b:List UInt8):∃p T,S.put lv b=some (p,T)/\T.room N:=by
 obtain⟨l,h1,h2⟩:=Fo h;refine⟨⟨bB S.L S.Z l,S.txg+1,(lv:Int),cS b⟩,⟨S.D,S.Z,S.cp,S.L++bB S.L S.Z l,kQ b (bB S.L S.Z l) S.M,S.txg⟩,?_,?_⟩
 ·unfold Kor.put;rw[h1]
 ·unfold Kor.room
  show eV S.allUp S.cp (bU (S.L++bB S.L S.Z l) S.D S.Z) N;rw[vO h1];exact h2
theorem AV{S:Kor}(h:S.room 0)(lv:Nat)(b:List UInt8):S.put lv b=none:=by
 unfold Kor.put;rw[Fp h]
theorem Hp{S:Kor}{N:Nat}(h:S.room (N+1)){b:List UInt8}(hz:b≠zB):∃u T,S.leaf b=(some u,T)/\T.room N/\u.isHole=false:=by
 obtain⟨p,T,h1,h2⟩:=CU h 0 b;refine⟨.leaf p b,T,?_,h2,rfl⟩;unfold Kor.leaf;rw[if_neg hz,h1]
theorem JU{S:Kor}{N l:Nat}(h:S.room (N+1)){k:Nat->Tr}(hz:fL k=false):∃u T,S.lay l k=(some u,T)/\T.room N/\u.isHole=false:=by
 obtain⟨p,T,h1,h2⟩:=CU h l (cY l (fO k));refine⟨.node p k,T,?_,h2,rfl⟩;unfold Kor.lay;rw[hz,h1];rfl
theorem MF(W:Nat)(f:Nat->List UInt8):(List.range (4*W)).map f=(List.range W).map f++(List.range W).map (fun i=>f (W+i))++(List.range W).map (fun i=>f (2*W+i))++(List.range W).map (fun i=>f (3*W+i)):=by
 have e:4*W=W+W+W+W:=by omega
 have e2:W+W=2*W:=by omega
 have e3:2*W+W=3*W:=by omega
 rw[e,List.range_add,List.range_add,List.range_add];simp only[List.map_append,List.map_map,Function.comp_def,e2,e3]
theorem Tr.Ok.blocks_eq{S:Kor}:∀{l:Nat}{t:Tr},Tr.Ok S l t->t.blocks l=(List.range (4 ^ l)).map (t.blk l)
 | l,.hole,h=>by
   have:(List.range (4 ^ l)).map (Tr.blk l .hole)=List.replicate (4 ^ l) zB:=by
    rw[List.eq_replicate_iff];refine⟨by simp,fun b hb=>?_⟩;obtain⟨i,-,rfl⟩:=List.mem_map.1 hb;exact Tr.blk_hole l i
   rw[this];cases l<;>rfl
 | 0,.leaf p b,h=>rfl
 | 0,.node p k,h=>h.elim
 | l+1,.leaf p b,h=>h.elim
 | l+1,.node p k,h=>by
   have hp:0<4 ^ l:=Nat.pos_of_ne_zero (by simp);rw[Nat.pow_succ,Nat.mul_comm,MF]
   have hkid:∀j,j<4->(k j).blocks l=(List.range (4 ^ l)).map fun i=>Tr.blk (l+1) (.node p k) (j*4 ^ l+i):=fun j hj=>by
    rw[(h.2.1 j hj).blocks_eq];refine List.map_congr_left fun i hi=>?_
    have hi:=List.mem_range.1 hi;show _=(k ((j*4 ^ l+i) / 4 ^ l % 4)).blk l (j*4 ^ l+i);rw[show (j*4 ^ l+i) / 4 ^ l % 4=j by rw[Nat.mul_comm,Nat.mul_add_div hp,Nat.div_eq_of_lt hi,Nat.add_zero,Nat.mod_eq_of_lt hj]];exact(h.2.1 j hj).blk_mod (by rw[Nat.mul_comm,Nat.mul_add_mod])
   show (k 0).blocks l++(k 1).blocks l++(k 2).blocks l++(k 3).blocks l=_;rw[hkid 0 (by omega),hkid 1 (by omega),hkid 2 (by omega),hkid 3 (by omega)];simp only[Nat.zero_mul,Nat.zero_add,Nat.one_mul]
theorem Tr.Ok.blocks_len{S:Kor}{l:Nat}{t:Tr}(h:Tr.Ok S l t):(t.blocks l).length=4 ^ l:=by rw[h.blocks_eq];simp
theorem KX{x:Int}(h:0<x):cN [x,x] [true,true] 2=[0,1]:=by
 have h0:dV [x,x] [true,true] 0=true:=by simp[dV,h]
 have h1:dV [x,x] [true,true] 1=true:=by simp[dV,h]
 rw[pZ,pZ,if_pos h0,if_pos h1];rfl
theorem LM{x:Int}(h:0<x):bT [x,x] [true,true] 2=some [0,1]:=by
 have e:iZ [x,x] [true,true]=[0,1]:=(vH (by show [0,1].Perm (cN [x,x] [true,true] 2);rw[KX h]) (by
  show List.Pairwise _ [0,1];simp[cX])).symm
 unfold bT;rw[e];show (if cN [x,x] [true,true] 2=[]\/(cN [x,x] [true,true] 2).length<kI [true,true] 2 then none else some (List.take (kI [true,true] 2) [0,1]))=_;rw[KX h];rfl
theorem AW:∀n:Nat,eV [true,true] 2 [(n:Int),(n:Int)] n
 | 0=>.none (by decide)
 | n+1=>.more (LM (by omega)) (by
    have:eI [((n+1:Nat):Int),((n+1:Nat):Int)] [0,1]=[(n:Int),(n:Int)]:=by simp[eI]
    rw[this];exact AW n)
theorem qD(d:Nat):∀Z,(aV [] d Z).length=Z-5
 | 0=>rfl
 | Z+1=>by
   rw[qA,List.length_append,qD d Z]
   by_cases h:5≤Z
   ·rw[if_pos (by simp[fY,dM,h])]
    show Z-5+1=_;omega
   ·rw[if_neg (by simp[fY,h])]
    show Z-5+0=_;omega
theorem Kor.room_new(Z:Nat)(M:Nat->Nat->List UInt8)(t:Int):Kor.room ⟨2,Z,2,[],M,t⟩ (Z-5):=by
 show eV [true,true] 2 (bU [] 2 Z) (Z-5)
 have:bU [] 2 Z=[((Z-5:Nat):Int),((Z-5:Nat):Int)]:=by
  show [((aV [] 0 Z).length:Int),((aV [] 1 Z).length:Int)]=_;rw[qD,qD]
 rw[this];exact AW _
theorem Kor.room.unique{S:Kor}{n m:Nat}(h:S.room n)(k:S.room m):n=m:=eV.unique h k
theorem lF{α β:Type}{l:List α}{f g:α->List β}(h:∀a∈l,f a=g a):l.flatMap f=l.flatMap g:=by
 induction l with
 | nil=>rfl
 | cons a l ih=>rw[List.flatMap_cons,List.flatMap_cons,h a (List.mem_cons_self ..),ih fun x hx=>h x (List.mem_cons_of_mem _ hx)]
def thr(f:Pt->Bool):Nat->Tr->Nat->List (Pt×Nat)
 | 0,t,a=>if t.isHole || !f t.ptr then [] else [(t.ptr,a)]
 | l+1,t,a=>if t.isHole || !f t.ptr then [] else (t.ptr,a)::(List.range 4).flatMap fun i=>thr f l (t.kid i) (a+i*4 ^ l)
def kK:Pt->Bool:=fun _=>true
def dB(x:Int):Pt->Bool:=fun p=>decide (x<p.birth)
theorem CV(f:Pt->Bool)(l a:Nat):thr f l .hole a=[]:=by cases l<;>rfl
theorem gQ(f:Pt->Bool)(t:Tr)(a:Nat):thr f 0 t a=if t.isHole || !f t.ptr then [] else [(t.ptr,a)]:=rfl
theorem gR(f:Pt->Bool)(l:Nat)(t:Tr)(a:Nat):thr f (l+1) t a=if t.isHole || !f t.ptr then [] else (t.ptr,a)::(List.range 4).flatMap fun i=>thr f l (t.kid i) (a+i*4 ^ l):=rfl
def Fw:Nat->Tr->Prop
 | 0,_=>True
 | l+1,t=>∀i,i<4->((t.kid i).isHole=true\/(t.kid i).ptr.birth≤t.ptr.birth)/\Fw l (t.kid i)
theorem AX:∀l,Fw l .hole
 | 0=>trivial
 | l+1=>fun i _=>⟨.inl rfl,AX l⟩
theorem Tr.Ok.born{S:Kor}{l:Nat}{t:Tr}(h:Tr.Ok S l t)(hh:t.isHole=false):1≤t.ptr.birth/\t.ptr.birth≤S.txg+1/\t.ptr.level=(l:Int):=by
 cases t with
 | hole=>cases hh
 | leaf p b=>cases l with
   | zero=>exact⟨h.1.born.1,h.1.born.2,h.1.lev⟩
   | succ l=>exact h.elim
 | node p k=>cases l with
   | zero=>exact h.elim
   | succ l=>exact⟨h.1.born.1,h.1.born.2,h.1.lev⟩
theorem Ex{S:Kor}:∀{l:Nat}{t:Tr},Tr.Ok S l t->∀{f:Pt->Bool}{a:Nat}{x:Pt×Nat},x∈thr f l t a->f x.1=true/\1≤x.1.birth/\0≤x.1.level/\x.1.level≤(l:Int)/\a≤x.2/\x.2<a+4 ^ l/\x.1.addrs≠[]/\∀y∈x.1.addrs,y∈S.L
 | 0,t,h,f,a,x,hx=>by
   rw[gQ] at hx
   by_cases hc:(t.isHole || !f t.ptr)=true
   ·rw[if_pos hc] at hx;cases hx
   ·rw[if_neg hc] at hx
    simp only[Bool.or_eq_true,not_or,Bool.not_eq_true,Bool.not_eq_false'] at hc;obtain rfl:=List.mem_singleton.1 hx;obtain⟨h1,h2,h3⟩:=h.born hc.1;obtain⟨h4,h5⟩:=h.lies hc.1;exact⟨hc.2,h1,by show 0≤t.ptr.level;omega,by show t.ptr.level≤_;omega,Nat.le_refl _,by show a<a+4 ^ 0;rw[Nat.pow_zero];omega,h4,h5⟩
 | l+1,t,h,f,a,x,hx=>by
   have hp:0<4 ^ l:=Nat.pos_of_ne_zero (by simp);have hp4:4 ^ (l+1)=4*4 ^ l:=by rw[Nat.pow_succ,Nat.mul_comm]
   rw[gR] at hx
   by_cases hc:(t.isHole || !f t.ptr)=true
   ·rw[if_pos hc] at hx;cases hx
   ·rw[if_neg hc] at hx
    simp only[Bool.or_eq_true,not_or,Bool.not_eq_true,Bool.not_eq_false'] at hc;rcases List.mem_cons.1 hx with rfl|hx
    ·obtain⟨h1,h2,h3⟩:=h.born hc.1
     obtain⟨h4,h5⟩:=h.lies hc.1;exact⟨hc.2,h1,by show 0≤t.ptr.level;omega,by show t.ptr.level≤_;omega,Nat.le_refl _,by show a<a+4 ^ (l+1);omega,h4,h5⟩
    ·obtain⟨i,hi,hx⟩:=List.mem_flatMap.1 hx
     have hi:=List.mem_range.1 hi;obtain⟨g1,g2,g3,g4,g5,g6,g7,g8⟩:=Ex (h.kid hi) hx
     have:i*4 ^ l+4 ^ l≤4*4 ^ l:=by
      have:=Nat.mul_le_mul_right (4 ^ l) (Nat.succ_le_of_lt hi);rw[Nat.succ_mul] at this;exact this
     exact⟨g1,g2,g3,by omega,by omega,by omega,g7,g8⟩
def fC(l:Nat)(t:Tr):List Pt:=(thr kK l t 0).map fun x=>x.1
def eN(l:Nat)(t:Tr):List Ad:=(thr kK l t 0).flatMap fun x=>x.1.addrs
theorem CW(f:Pt->Bool):∀(l:Nat) (t:Tr) (a b:Nat),(thr f l t (a+b))=(thr f l t a).map fun x=>(x.1,x.2+b)
 | 0,t,a,b=>by rw[gQ,gQ];split<;>rfl
 | l+1,t,a,b=>by
   rw[gR,gR];split
   ·rfl
   ·rw[List.map_cons,List.map_flatMap]
    congr 1
    refine lF fun i _=>?_
    rw[show a+b+i*4 ^ l=a+i*4 ^ l+b by omega,CW f l (t.kid i) _ b]
theorem LN(l:Nat)(t:Tr)(a:Nat):((thr kK l t a).flatMap fun x=>x.1.addrs)=eN l t:=by
 unfold eN;have:=CW kK l t 0 a;rw[Nat.zero_add] at this;rw[this,List.flatMap_map]
theorem AY(l:Nat):eN l .hole=[]:=by unfold eN;rw[CV];rfl
theorem Hr(t:Tr):eN 0 t=if t.isHole then [] else t.ptr.addrs:=by
 unfold eN;rw[gQ];cases t.isHole<;>simp[kK]
theorem AZ(l:Nat)(t:Tr):eN (l+1) t=if t.isHole then [] else t.ptr.addrs++(List.range 4).flatMap fun i=>eN l (t.kid i):=by
 unfold eN;rw[gR];cases t.isHole with
 | true=>rfl
 | false =>
   simp only[kK,Bool.not_true,Bool.false_eq_true,if_false,List.flatMap_cons,List.flatMap_assoc,Bool.or_self]
   congr 1
   exact lF fun i _=>LN l (t.kid i) _
theorem LO(l:Nat)(t:Tr)(a:Nat):((thr kK l t a).map fun x=>x.1)=fC l t:=by
 unfold fC;have:=CW kK l t 0 a;rw[Nat.zero_add] at this;rw[this,List.map_map];rfl
theorem mY(l:Nat):fC l .hole=[]:=by unfold fC;rw[CV];rfl
theorem A0(t:Tr):fC 0 t=if t.isHole then [] else [t.ptr]:=by
 unfold fC;rw[gQ];cases t.isHole<;>simp[kK]
theorem pP(l:Nat)(t:Tr):fC (l+1) t=if t.isHole then [] else t.ptr::(List.range 4).flatMap fun i=>fC l (t.kid i):=by
 unfold fC;rw[gR];cases t.isHole with
 | true=>rfl
 | false =>
   simp only[kK,Bool.not_true,Bool.false_eq_true,if_false,List.map_cons,List.map_flatMap,Bool.or_self]
   congr 1
   exact lF fun i _=>LO l (t.kid i) _
theorem CX{l:Nat}{t:Tr}{a:Ad}:a∈eN l t↔∃x∈fC l t,a∈x.addrs:=by
 unfold eN fC;rw[List.mem_flatMap];constructor
 ·rintro⟨x,h1,h2⟩;exact⟨x.1,List.mem_map.2 ⟨x,h1,rfl⟩,h2⟩
 ·rintro⟨x,h1,h2⟩
  obtain⟨y,h3,rfl⟩:=List.mem_map.1 h1;exact⟨y,h3,h2⟩
def fP(S:Kor)(l:Nat)(t u:Tr):Prop:=∀x∈fC l u,x∈fC l t\/∀a∈x.addrs,a ∉ S.L
theorem fP.ads{S:Kor}{l:Nat}{t u:Tr}(h:fP S l t u):∀a∈eN l u,a∈eN l t\/a ∉ S.L:=fun a ha=>by
 obtain⟨x,h1,h2⟩:=CX.1 ha;exact(h x h1).imp (fun h=>CX.2 ⟨x,h,h2⟩) fun h=>h a h2
theorem fP.refl(S:Kor)(l:Nat)(t:Tr):fP S l t t:=fun x hx=>.inl hx
theorem fP.hole(S:Kor)(l:Nat)(t:Tr):fP S l t .hole:=fun x hx=>by rw[mY] at hx;cases hx
theorem fP.trans{S T:Kor}{l:Nat}{t u v:Tr}(h:fP S l t u)(e:Ext S T)(k:fP T l u v):fP S l t v:=fun x hx=>(k x hx).elim (h x) fun hn=>.inr fun a ha hs=>hn a ha (e.L a hs)
theorem JV{l:Nat}{t:Tr}(i:Nat)(hi:i<4):∀a∈fC l (t.kid i),a∈fC (l+1) t:=fun a ha=>by
 rw[pP];cases hh:t.isHole with
 | true =>
   rw[gK hh] at ha;rw[show Tr.kid .hole i=.hole from rfl,mY] at ha;cases ha
 | false=>exact List.mem_cons_of_mem _ (List.mem_flatMap.2 ⟨i,List.mem_range.2 hi,ha⟩)
theorem Ey{S:Kor}{l:Nat}{t:Tr}(h:Tr.Ok S l t):∀a∈eN l t,a∈S.L:=fun a ha=>by
 unfold eN at ha;obtain⟨x,hx,h2⟩:=List.mem_flatMap.1 ha;exact(Ex h hx).2.2.2.2.2.2.2 a h2
theorem yM{A:Nat->List Ad}:((List.range 4).flatMap A).Nodup↔(∀i,i<4->(A i).Nodup)/\∀i j,i<4->j<4->i≠j->∀x∈A i,∀y∈A j,x≠y:=by
 unfold List.Nodup;rw[List.pairwise_flatMap];constructor
 ·rintro⟨h1,h2⟩
  refine⟨fun i hi=>h1 i (List.mem_range.2 hi),fun i j hi hj hn x hx y hy=>?_⟩;rw[List.pairwise_iff_getElem] at h2;rcases Nat.lt_or_gt_of_ne hn with h|h
  ·have:=h2 i j (by simpa using hi) (by simpa using hj) h
   simp only[List.getElem_range] at this;exact this x hx y hy
  ·have:=h2 j i (by simpa using hj) (by simpa using hi) h
   simp only[List.getElem_range] at this;exact(this y hy x hx).symm
 ·rintro⟨h1,h2⟩
  refine⟨fun i hi=>h1 i (List.mem_range.1 hi),List.Pairwise.imp_of_mem ?_ (List.nodup_range (n:=4))⟩;intro i j hi hj hn x hx y hy;exact h2 i j (List.mem_range.1 hi) (List.mem_range.1 hj) hn x hx y hy
structure iA(S:Kor)(l:Nat)(t:Tr):Prop where
 ok:Tr.Ok S l t
 aged:Fw l t
 apart:(eN l t).Nodup
theorem iA.hole(S:Kor)(l:Nat):iA S l .hole:=⟨Tr.ok_hole S l,AX l,by rw[AY];exact List.nodup_nil⟩
theorem iA.ext{S T:Kor}{l:Nat}{t:Tr}(h:iA S l t)(e:Ext S T):iA T l t:=⟨h.ok.ext e,h.aged,h.apart⟩
structure pA(S T:Kor)(l:Nat)(t:Tr)(k:Nat->Tr):Prop where
 ext:Ext S T
 ok:∀i,i<4->Tr.Ok T l (k i)
 aged:∀i,i<4->Fw l (k i)
 nd:∀i,i<4->(eN l (k i)).Nodup
 old:∀i,i<4->fP S l (t.kid i) (k i)
 ap:∀i j,i<4->j<4->i≠j->∀x∈eN l (k i),∀y∈eN l (k j),x≠y
theorem iA.kids{S:Kor}{l:Nat}{t:Tr}(h:iA S (l+1) t):(∀i,i<4->(eN l (t.kid i)).Nodup)/\∀i j,i<4->j<4->i≠j->∀x∈eN l (t.kid i),∀y∈eN l (t.kid j),x≠y:=by
 have:=h.apart;rw[AZ] at this;cases hh:t.isHole with
 | true =>
   have e:∀i,eN l (t.kid i)=[]:=fun i=>by rw[gK hh];exact AY l
   exact⟨fun i _=>by rw[e];exact List.nodup_nil,fun i j _ _ _ x hx=>by rw[e] at hx;cases hx⟩
 | false =>
   rw[hh] at this;exact yM.1 (List.nodup_append.1 this).2.1
theorem iA.parts{S:Kor}{l:Nat}{t:Tr}(h:iA S (l+1) t):pA S S l t t.kid:=
 ⟨Ext.refl S,fun i hi=>h.ok.kid hi,fun i hi=>(h.aged i hi).2,h.kids.1,fun i hi=>fP.refl S l _,h.kids.2⟩
theorem iA.kid{S:Kor}{l:Nat}{t:Tr}(h:iA S (l+1) t){i:Nat}(hi:i<4):iA S l (t.kid i):=⟨h.ok.kid hi,(h.aged i hi).2,h.kids.1 i hi⟩
theorem pA.put{S T U:Kor}{l:Nat}{t:Tr}{k:Nat->Tr}(h:pA S T l t k){i:Nat}(hi:i<4)(hk:k i=t.kid i){u:Tr}(e:Ext T U)(hu:iA U l u)(ho:fP T l (t.kid i) u):pA S U l t (tV k i u):=by
 have hap:∀j,j<4->j≠i->∀x∈eN l (k j),∀y∈eN l u,x≠y:=fun j hj hn x hx y hy=>by
  rcases ho.ads y hy with h1|h1
  ·exact h.ap j i hj hi hn x hx y (by rw[hk];exact h1)
  ·rintro rfl
   exact h1 (Ey (h.ok j hj) x hx)
 refine⟨h.ext.trans e,fun j hj=>?_,fun j hj=>?_,fun j hj=>?_,fun j hj=>?_,fun j q hj hq hn=>?_⟩
 ·by_cases c:j=i
  ·rw[c,iQ];exact hu.ok
  ·rw[gE _ _ c];exact(h.ok j hj).ext e
 ·by_cases c:j=i
  ·rw[c,iQ];exact hu.aged
  ·rw[gE _ _ c];exact h.aged j hj
 ·by_cases c:j=i
  ·rw[c,iQ];exact hu.apart
  ·rw[gE _ _ c];exact h.nd j hj
 ·by_cases c:j=i
  ·rw[c,iQ];exact fun x hx=>(ho x hx).imp id fun hn a ha hs=>hn a ha (h.ext.L a hs)
  ·rw[gE _ _ c];exact h.old j hj
 ·by_cases c:j=i
  ·subst c
   rw[iQ,gE _ _ (Ne.symm hn)];exact fun x hx y hy=>(hap q hq (Ne.symm hn) y hy x hx).symm
  ·rw[gE _ _ c]
   by_cases d:q=i
   ·subst d
    rw[iQ];exact hap j hj hn
   ·rw[gE _ _ d]
    exact h.ap j q hj hq hn
theorem Hs{S:Kor}(hb:S.Bd){b:List UInt8}(hl:b.length=256){u:Tr}{T:Kor}(h:S.leaf b=(some u,T))(t:Tr):iA T 0 u/\fP S 0 t u:=by
 have h0:=Ew hb hl h;unfold Kor.leaf at h
 by_cases hz:b=zB
 ·rw[if_pos hz] at h
  injection h with h1 h2
  injection h1 with h1
  subst h1 h2;exact⟨iA.hole S 0,fP.hole _ _ _⟩
 ·rw[if_neg hz] at h
  cases hp:S.put 0 b with
  | none=>rw[hp] at h;injection h with h1 h2;cases h1
  | some x =>
    obtain⟨p,U⟩:=x;rw[hp] at h;injection h with h1 h2
    injection h1 with h1
    subst h1 h2;obtain⟨g1,g2,g3,g4,-,g6,g7,-⟩:=oZ hb (by omega) hl hp;have e:eN 0 (.leaf p b)=p.addrs:=by rw[Hr];rfl
    refine⟨⟨(h0.2 _ rfl).1,trivial,by rw[e];exact g7⟩,fun x hx=>.inr ?_⟩;rw[A0] at hx;obtain rfl:=List.mem_singleton.1 hx;exact g6
theorem pA.lay{S T U:Kor}{l:Nat}{t:Tr}{k:Nat->Tr}(h:pA S T l t k)(hb:T.Bd)(hl:l≤2){u:Tr}(hu:T.lay (l+1) k=(some u,U)):iA U (l+1) u/\fP S (l+1) t u:=by
 have h0:=Hm hb hl h.ok hu;unfold Kor.lay at hu
 by_cases hz:fL k=true
 ·rw[if_pos hz] at hu
  injection hu with h1 h2
  injection h1 with h1
  subst h1 h2;exact⟨iA.hole _ _,fP.hole _ _ _⟩
 ·rw[if_neg hz] at hu
  cases hp:T.put (l+1) (cY (l+1) (fO k)) with
  | none=>rw[hp] at hu;injection hu with h1 h2;cases h1
  | some x =>
    obtain⟨p,V⟩:=x;rw[hp] at hu;injection hu with h1 h2
    injection h1 with h1
    subst h1 h2;obtain⟨g1,g2,g3,g4,g5,g6,g7,-⟩:=oZ hb (by omega) (Ab h.ok) hp;have e:eN (l+1) (.node p k)=p.addrs++(List.range 4).flatMap fun i=>eN l (k i):=by rw[AZ];rfl
    refine⟨⟨(h0.2 _ rfl).1,fun i hi=>⟨?_,h.aged i hi⟩,?_⟩,?_⟩
    ·cases hh:(k i).isHole with
     | true=>exact .inl hh
     | false =>
       right;show (k i).ptr.birth≤p.birth;rw[g5];exact((h.ok i hi).born hh).2.1
    ·rw[e,List.nodup_append]
     refine⟨g7,yM.2 ⟨h.nd,h.ap⟩,fun x hx y hy hxy=>?_⟩;obtain⟨i,hi,hy⟩:=List.mem_flatMap.1 hy;rw[hxy] at hx;exact g6 y hx (Ey (h.ok i (List.mem_range.1 hi)) y hy)
    ·intro x hx
     have hx:x∈p::(List.range 4).flatMap fun i=>fC l (k i):=by rw[pP] at hx;exact hx
     rcases List.mem_cons.1 hx with rfl|hx
     ·exact .inr fun a ha hs=>g6 a ha (h.ext.L a hs)
     ·obtain⟨i,hi,hx⟩:=List.mem_flatMap.1 hx
      exact(h.old i (List.mem_range.1 hi) x hx).imp (JV i (List.mem_range.1 hi) x) id
def bZ(b:List UInt8):Bool:=b.all fun x=>x == 0
theorem eL{b:List UInt8}:bZ b=true↔∀x∈b,x=0:=by unfold bZ;simp
def bG(l:Nat)(b:List UInt8)(i:Nat):List UInt8:=(b.drop (i*(256*4 ^ l))).take (256*4 ^ l)
theorem gL{l:Nat}{b:List UInt8}(hb:b.length=256*4 ^ (l+1)){i:Nat}(hi:i<4):(bG l b i).length=256*4 ^ l:=by
 unfold bG;rw[List.length_take,List.length_drop,hb];have h4:256*4 ^ (l+1)=4*(256*4 ^ l):=by rw[Nat.pow_succ];omega
 rw[h4];have:=Nat.mul_le_mul_right (256*4 ^ l) (Nat.succ_le_of_lt hi);rw[Nat.succ_mul] at this;omega
def aZ:Nat->List UInt8->Nat
 | 0,b=>if bZ b then 0 else 1
 | l+1,b=>if bZ b then 0 else 1+(aZ l (bG l b 0)+aZ l (bG l b 1)+aZ l (bG l b 2)+aZ l (bG l b 3))
def eG(l:Nat)(b:List UInt8):Nat->Nat
 | 0=>0
 | i+1=>eG l b i+aZ l (bG l b i)
theorem rT(l:Nat)(b:List UInt8):aZ (l+1) b=if bZ b then 0 else 1+eG l b 4:=by
 show (if bZ b then 0 else 1+(aZ l (bG l b 0)+aZ l (bG l b 1)+aZ l (bG l b 2)+aZ l (bG l b 3)))=if bZ b then 0 else 1+(0+aZ l (bG l b 0)+aZ l (bG l b 1)+aZ l (bG l b 2)+aZ l (bG l b 3))
 rw[Nat.zero_add]
def eP(lay:Kor->List UInt8->Option Tr×Kor)(l:Nat)(S:Kor)(b:List UInt8):Nat->Option (Nat->Tr)×Kor
 | 0=>(some fun _=>.hole,S)
 | i+1=>match eP lay l S b i with
   | (none,T)=>(none,T)
   | (some k,T)=>match lay T (bG l b i) with
     | (none,U)=>(none,U)
     | (some u,U)=>(some (tV k i u),U)
def dD:Nat->Kor->List UInt8->Option Tr×Kor
 | 0,S,b=>S.leaf b
 | l+1,S,b=>if bZ b then (some .hole,S) else match eP (dD l) l S b 4 with
   | (none,T)=>(none,T)
   | (some k,T)=>T.lay (l+1) k
theorem lV{b:List UInt8}(hl:b.length=256):bZ b=true↔b=zB:=by
 rw[eL];constructor
 ·intro h
  exact List.eq_replicate_iff.2 ⟨hl,h⟩
 ·rintro rfl x hx
  exact(List.mem_replicate.1 hx).2
def bkM(b:List UInt8)(i:Nat):List UInt8:=(b.drop (256*i)).take 256
theorem CY(l:Nat)(b:List UInt8)(q i:Nat)(hi:i<4 ^ l):bkM (bG l b q) i=bkM b (q*4 ^ l+i):=by
 unfold bkM bG;rw[List.drop_take,List.drop_drop,List.take_take,Nat.min_eq_left (by omega)]
 congr 2
 rw[Nat.mul_add,←Nat.mul_assoc,Nat.mul_comm q 256,Nat.mul_assoc]
theorem Fx{l:Nat}{b:List UInt8}(hb:b.length=256*4 ^ (l+1))(h:∀i,i<4->bZ (bG l b i)=true):bZ b=true:=by
 rw[eL];intro x hx;obtain⟨n,hn,rfl⟩:=List.getElem_of_mem hx;have hp:0<256*4 ^ l:=Nat.mul_pos (by omega) (Nat.pos_of_ne_zero (by simp));have h4:256*4 ^ (l+1)=4*(256*4 ^ l):=by rw[Nat.pow_succ];omega
 obtain⟨W,hW⟩:∃W,256*4 ^ l=W:=⟨_,rfl⟩
 rw[h4,hW] at hb;rw[hW] at hp;have hq:n / W<4:=(Nat.div_lt_iff_lt_mul hp).2 (by omega);have:=h (n / W) hq;rw[eL] at this;refine this _ ?_;unfold bG;rw[hW];have e:n=n / W*W+n % W:=by rw[Nat.mul_comm];exact(Nat.div_add_mod n W).symm
 have hm:=Nat.mod_lt n hp;refine List.mem_iff_getElem.2 ⟨n % W,?_,?_⟩
 ·rw[List.length_take,List.length_drop]
  omega
 ·rw[List.getElem_take,List.getElem_drop]
  congr 1
  exact e.symm
theorem oC{b:List UInt8}:∀{l:Nat},bZ b=true->aZ l b=0
 | 0,h=>by unfold aZ;rw[if_pos h]
 | l+1,h=>by unfold aZ;rw[if_pos h]
theorem CZ{b:List UInt8}(h:bZ b=true){i l:Nat}(hl:b.length=256*4 ^ l)(hi:i<4 ^ l):bkM b i=zB:=by
 refine(lV ?_).1 ?_
 ·unfold bkM
  rw[List.length_take,List.length_drop];omega
 ·rw[eL] at *
  exact fun x hx=>h x (List.mem_of_mem_drop (List.mem_of_mem_take hx))
structure M7(S T:Kor)(l:Nat)(b:List UInt8)(j:Nat)(k:Nat->Tr):Prop where
 beh:Beh S T
 parts:pA S T l .hole k
 rest:∀i,j≤i->k i=.hole
 blks:∀i,i<j->∀n,n<4 ^ l->(k i).blk l n=bkM (bG l b i) n
 many:∀i,i<j->(fC l (k i)).length=aZ l (bG l b i)
theorem BD{S:Kor}{N:Nat}(h:S.room N){b:List UInt8}(hl:b.length=256):if aZ 0 b≤N then ∃u T,S.leaf b=(some u,T)/\T.room (N-aZ 0 b) else ∃T,S.leaf b=(none,T):=by
 unfold aZ
 by_cases hz:bZ b=true
 ·rw[if_pos hz,if_pos (Nat.zero_le _)]
  exact⟨.hole,S,by unfold Kor.leaf;rw[if_pos ((lV hl).1 hz)],h⟩
 ·rw[if_neg hz]
  have hz2:b≠zB:=fun e=>hz ((lV hl).2 e)
  cases N with
  | zero =>
    rw[if_neg (by omega)];exact⟨S,by unfold Kor.leaf;rw[if_neg hz2,AV h]⟩
  | succ N =>
    rw[if_pos (by omega)];obtain⟨u,T,h1,h2,-⟩:=Hp h hz2;exact⟨u,T,h1,h2⟩
theorem rU{l:Nat}{b:List UInt8}{k:Nat->Tr}{S:Kor}(hb:b.length=256*4 ^ (l+1))(hk:∀i,i<4->∀n,n<4 ^ l->(k i).blk l n=bkM (bG l b i) n)(h:fL k=true):bZ b=true:=by
 refine Fx hb fun i hi=>?_
 rw[eL];intro x hx;obtain⟨n,hn,rfl⟩:=List.getElem_of_mem hx;have hl:=gL hb hi;rw[hl] at hn;have hq:n / 256<4 ^ l:=(Nat.div_lt_iff_lt_mul (by omega)).2 (by rw[Nat.mul_comm];exact hn);have hz:=hk i hi (n / 256) hq;rw[yL h hi,Tr.blk_hole] at hz;have e:n=256*(n / 256)+n % 256:=(Nat.div_add_mod n 256).symm;have hm:=Nat.mod_lt n (show 0<256 by omega)
 have hin:(bG l b i)[n]∈bkM (bG l b i) (n / 256):=by
  unfold bkM;refine List.mem_iff_getElem.2 ⟨n % 256,?_,?_⟩
  ·rw[List.length_take,List.length_drop,hl];omega
  ·rw[List.getElem_take,List.getElem_drop]
   congr 1
   exact e.symm
 rw[←hz] at hin;exact(List.mem_replicate.1 hin).2
structure Fy(S T:Kor)(l:Nat)(b:List UInt8)(u:Tr):Prop where
 beh:Beh S T
 kept:iA T l u
 new:fP S l .hole u
 blks:∀n,n<4 ^ l->u.blk l n=bkM b n
 many:(fC l u).length=aZ l b
theorem lG{l:Nat}{b:List UInt8}{S:Kor}(hb:S.Bd)(hbl:b.length=256*4 ^ (l+1))(hlay:∀{S:Kor}{b:List UInt8}{u:Tr}{T:Kor},S.Bd->b.length=256*4 ^ l->dD l S b=(some u,T)->Fy S T l b u) :
 ∀(j:Nat),j≤4->∀{k:Nat->Tr}{T:Kor},eP (dD l) l S b j=(some k,T)->M7 S T l b j k
 | 0,_,k,T,h=>by
   unfold eP at h;injection h with h1 h2
   injection h1 with h1
   subst h1 h2;exact⟨Beh.refl hb,(iA.hole S (l+1)).parts,fun _ _=>rfl,fun i hi=>by omega,fun i hi=>by omega⟩
 | j+1,hj,k,T,h=>by
   unfold eP at h;cases h1:eP (dD l) l S b j with
   | mk r1 T1 =>
     rw[h1] at h;cases r1 with
     | none=>injection h with h2 h3;cases h2
     | some k1 =>
       have g:=lG hb hbl hlay j (by omega) h1;simp only[] at h;cases h2:dD l T1 (bG l b j) with
       | mk r2 T2 =>
         rw[h2] at h;cases r2 with
         | none=>injection h with h3 h4;cases h3
         | some u =>
           have gu:=hlay g.beh.bd (gL hbl (by omega)) h2;injection h with h3 h4
           injection h3 with h3
           subst h3 h4;refine⟨g.beh.trans gu.beh,g.parts.put (by omega) (g.rest j (Nat.le_refl _)) gu.beh.ext gu.kept gu.new,fun i hi=>by rw[gE _ _ (by omega)];exact g.rest i (by omega),fun i hi n hn=>?_,fun i hi=>?_⟩
           ·by_cases e:i=j
            ·subst e;rw[iQ];exact gu.blks n hn
            ·rw[gE _ _ e];exact g.blks i (by omega) n hn
           ·by_cases e:i=j
            ·subst e;rw[iQ];exact gu.many
            ·rw[gE _ _ e];exact g.many i (by omega)
theorem mZ:∀{l:Nat},l≤3->∀{S:Kor}{b:List UInt8}{u:Tr}{T:Kor},S.Bd->b.length=256*4 ^ l->dD l S b=(some u,T)->Fy S T l b u
 | 0,_,S,b,u,T,hb,hl,h=>by
   have hl:b.length=256:=by rw[hl]
   have h:S.leaf b=(some u,T):=h;obtain⟨h1,h2⟩:=Ew hb hl h;obtain⟨h3,h4,-⟩:=h2 u rfl;obtain⟨h5,h6⟩:=Hs hb hl h .hole;have hbb:bkM b 0=b:=by unfold bkM;rw[Nat.mul_zero,List.drop_zero,List.take_of_length_le (by omega)]
   refine⟨h1,h5,h6,fun n hn=>?_,?_⟩
   ·obtain rfl:n=0:=by rw[Nat.pow_zero] at hn;omega
    rw[h4,hbb]
   ·rw[A0]
    unfold aZ;cases hh:u.isHole with
    | true =>
      have e:=gK hh;subst e;rw[if_pos ((lV hl).2 (by rw[←h4 0,Tr.blk_hole]))];rfl
    | false =>
      obtain⟨i,hi,hz⟩:=h3.some_blk hh;rw[h4] at hz;rw[if_neg fun e=>hz ((lV hl).1 e)];rfl
 | l+1,hl3,S,b,u,T,hb,hl,h=>by
   unfold dD at h
   by_cases hz:bZ b=true
   ·rw[if_pos hz] at h
    injection h with h1 h2
    injection h1 with h1
    subst h1 h2;refine⟨Beh.refl hb,iA.hole _ _,fP.hole _ _ _,fun n hn=>?_,?_⟩
    ·rw[Tr.blk_hole,CZ hz hl hn]
    ·rw[mY,oC hz];rfl
   ·rw[if_neg hz] at h
    cases h1:eP (dD l) l S b 4 with
    | mk r1 T1 =>
      rw[h1] at h;cases r1 with
      | none=>injection h with h2 h3;cases h2
      | some k =>
        simp only[] at h;have g:=lG hb hl (fun hb hl h=>mZ (by omega) hb hl h) 4 (by omega) h1;obtain⟨k1,k2⟩:=g.parts.lay g.beh.bd (by omega) h;obtain⟨o1,o2⟩:=Hm g.beh.bd (by omega) g.parts.ok h;obtain⟨o3,o4,-⟩:=o2 u rfl;have hp:0<4 ^ l:=Nat.pos_of_ne_zero (by simp);refine⟨g.beh.trans o1,k1,k2,fun n hn=>?_,?_⟩
        ·have hm:n % 4 ^ l<4 ^ l:=Nat.mod_lt _ hp
         have e:=tX n l;rw[Nat.mod_eq_of_lt hn] at e;rw[o4,(g.parts.ok _ (tW n l)).blk_mod (n:=n % 4 ^ l) (Nat.mod_mod _ _).symm,g.blks _ (tW n l) _ hm,CY l b _ _ hm,←e]
        ·have hh:fL k=false:=by
          cases hh:fL k with
          | false=>rfl
          | true=>exact absurd (rU (S:=S) hl g.blks hh) hz
         have hu:∃p,u=.node p k:=by
          unfold Kor.lay at h;rw[hh] at h;cases hp:T1.put (l+1) (cY (l+1) (fO k)) with
          | none=>rw[hp] at h;injection h with h2 h3;cases h2
          | some x =>
            rw[hp] at h;injection h with h2 h3
            injection h2 with h2
            exact⟨x.1,h2.symm⟩
         obtain⟨p,rfl⟩:=hu;rw[pP,rT,if_neg hz];show (p::(List.range 4).flatMap fun i=>fC l (k i)).length=_;have e:List.range 4=[0,1,2,3]:=rfl;have l0:=g.many 0 (by omega);have l1:=g.many 1 (by omega);have l2:=g.many 2 (by omega);have l3:=g.many 3 (by omega);rw[e];simp only[List.flatMap_cons,List.flatMap_nil,List.append_nil,List.length_append,List.length_cons];rw[l0,l1,l2,l3];show _=1+(0+aZ l (bG l b 0)+aZ l (bG l b 1)+aZ l (bG l b 2)+aZ l (bG l b 3));omega
theorem yN{l:Nat}(hl2:l≤2){b:List UInt8}{S:Kor}{N:Nat}(hb:S.Bd)(h:S.room N)(hbl:b.length=256*4 ^ (l+1))(hlay:∀{S:Kor}{b:List UInt8}{N:Nat},S.Bd->S.room N->b.length=256*4 ^ l->if aZ l b≤N then ∃u T,dD l S b=(some u,T)/\T.room (N-aZ l b) else ∃T,dD l S b=(none,T)) :
 ∀(j:Nat),j≤4->if eG l b j≤N then ∃k T,eP (dD l) l S b j=(some k,T)/\T.room (N-eG l b j) else ∃T,eP (dD l) l S b j=(none,T)
 | 0,_=>by
   rw[if_pos (by unfold eG;exact Nat.zero_le _)];exact⟨fun _=>.hole,S,rfl,h⟩
 | j+1,hj=>by
   have ih:=yN hl2 hb h hbl hlay j (by omega);have e:eG l b (j+1)=eG l b j+aZ l (bG l b j):=rfl
   by_cases c:eG l b j≤N
   ·rw[if_pos c] at ih
    obtain⟨k,T,h1,h2⟩:=ih;have g:=lG hb hbl (fun hb hl h=>mZ (by omega) hb hl h) j (by omega) h1;have h3:=hlay g.beh.bd h2 (gL hbl (show j<4 by omega))
    by_cases d:aZ l (bG l b j)≤N-eG l b j
    ·rw[if_pos d] at h3
     obtain⟨u,U,h4,h5⟩:=h3;rw[if_pos (by omega)];refine⟨tV k j u,U,?_,by rw[e,←Nat.sub_sub];exact h5⟩;unfold eP;rw[h1];simp only[];rw[h4]
    ·rw[if_neg d] at h3
     obtain⟨U,h4⟩:=h3;rw[if_neg (by omega)];refine⟨U,?_⟩;unfold eP;rw[h1];simp only[];rw[h4]
   ·rw[if_neg c] at ih
    obtain⟨T,h1⟩:=ih;rw[if_neg (by omega)];refine⟨T,?_⟩;unfold eP;rw[h1]
theorem tY:∀{l:Nat},l≤3->∀{S:Kor}{b:List UInt8}{N:Nat},S.Bd->S.room N->b.length=256*4 ^ l->if aZ l b≤N then ∃u T,dD l S b=(some u,T)/\T.room (N-aZ l b) else ∃T,dD l S b=(none,T)
 | 0,_,S,b,N,hb,h,hl=>BD h (by rw[hl])
 | l+1,hl3,S,b,N,hb,h,hl=>by
   rw[rT]
   by_cases hz:bZ b=true
   ·rw[if_pos hz,if_pos (Nat.zero_le _)]
    exact⟨.hole,S,by unfold dD;rw[if_pos hz],h⟩
   ·rw[if_neg hz]
    have ih:=yN (by omega) hb h hl (fun hb h hl=>tY (by omega) hb h hl) 4 (Nat.le_refl _)
    by_cases c:eG l b 4≤N
    ·rw[if_pos c] at ih
     obtain⟨k,T,h1,h2⟩:=ih;have g:=lG hb hl (fun hb hl h=>mZ (by omega) hb hl h) 4 (by omega) h1
     have hh:fL k=false:=by
      cases hh:fL k with
      | false=>rfl
      | true=>exact absurd (rU (S:=S) hl g.blks hh) hz
     have e:dD (l+1) S b=T.lay (l+1) k:=by unfold dD;rw[if_neg hz,h1]
     rw[e]
     by_cases d:1+eG l b 4≤N
     ·rw[if_pos d]
      obtain⟨u,U,h3,h4,-⟩:=JU (N:=N-(1+eG l b 4)) (l:=l+1) (by rw[show N-(1+eG l b 4)+1=N-eG l b 4 by omega];exact h2) hh;exact⟨u,U,h3,h4⟩
     ·rw[if_neg d]
      rw[show N-eG l b 4=0 by omega] at h2;refine⟨T,?_⟩;unfold Kor.lay;rw[hh,AV h2];rfl
    ·rw[if_neg c] at ih
     obtain⟨T,h1⟩:=ih;rw[if_neg (by omega)];exact⟨T,by unfold dD;rw[if_neg hz,h1]⟩
theorem wQ{w:World}{v:Value}{b:List UInt8}(h:Rd w 1 v b.length (b.map vb)):∃a cap,v=.slice a b.length cap/\(b.length≤cap/\cap≤maxLen)/\(b.length≠0->∃g o,a=some ⟨g,o,none⟩/\w.rangeAt g o (b.map vb)):=by
 obtain⟨h0,a,cap,rfl,h1,h2,h3,h4⟩:=h;exact⟨a,cap,rfl,⟨h1,h2⟩,fun hn=>h4 (by rw[List.length_map];omega)⟩
def M8(w:World)(a:Option Addr)(cap:Nat)(b:List UInt8)(e:Ending)(w':World):Prop:=
 ∃m,m≤b.length/\e=.returned (.slice a m cap)/\(∀i (h:i<b.length),m≤i->b[i]=0)/\(∀h:m-1<b.length,0<m->b[m-1]≠0)/\aA aB w w'
theorem Ht(w:World)(g o cap:Nat)(b:List UInt8)(hc:b.length≤cap)(hm:cap≤maxLen)(hr:w.rangeAt g o (b.map vb)) :
 Calls Tryz.prog 99 #[.slice (some ⟨g,o,none⟩) b.length cap,.int .u8 0] w (M8 w (some ⟨g,o,none⟩) cap b):=by
 unfold maxLen at hm;obtain⟨n,hn⟩:∃n,b.length=n:=⟨_,rfl⟩
 have HN:=O hn;have HR:=O hr;rw[hn] at hc ⊢;clear hn hr;go_enter Tryz.func99,Tryz.ntmps99;go_wp2_with fail
 go_loopw [0] (fun v wr=>∃m:Nat,m≤n/\v=.slice (some ⟨g,o,none⟩) m cap/\Hid (∀i (h:i<b.length),m≤i->b[i]=0)/\w=wr) (fun v _=>match v with|.slice _ m _=>m|_=>0)
 case atStart=>exact⟨n,Nat.le_refl _,rfl,O (fun i h hi=>by have:=HN.out;omega),rfl⟩
 case round =>
  obtain⟨m,hmn,rfl,HZ,rfl⟩:=hrel;rcases m with _|m
  ·go_wp2_with fail
   go_ret;exact⟨0,Nat.zero_le _,rfl,HZ.out,fun _ h=>absurd h (by omega),aA.refl _ _⟩
  ·have hml:m<b.length:=by have:=HN.out;omega
   obtain⟨x,hx⟩:∃x,b[m]=x:=⟨_,rfl⟩
   have HX:Hid (∀h:m<b.length,b[m]=x):=O (fun _=>hx);have hp:((m:Int)+1 > 0):=by omega
   have c1:w.cell? ⟨g,o+m,none⟩=some (.int .u8 (x.toNat:Int)):=HR.out m _ (by rw[List.getElem?_map,List.getElem?_eq_getElem hml,hx];rfl);have hb0:(0:Int)≤(m:Int):=by omega
   have hb1:(m:Int)<(cap:Int):=by omega
   clear hx hml
   by_cases hz:x=0
   ·have e0:(x.toNat:Int)=0:=by rw[hz];rfl
    rw[e0] at c1;go_wp2_with fail
    go_roundw
    case rel=>exact⟨m,by omega,rfl,O (fun i h hi=>by
     rcases Nat.lt_or_ge m i with h2|h2
     ·exact HZ.out i h h2
     ·obtain rfl:i=m:=by omega
      rw[HX.out h,hz]),trivial⟩
    case measure=>simp
   ·have e0:¬(x.toNat:Int)=0:=fun e=>hz (UInt8.toNat_inj.1 (by simpa using e))
    go_wp2_with fail;go_ret;exact⟨m+1,by have:=HN.out;omega,rfl,HZ.out,fun h _ e=>hz (by rw[←HX.out h];exact e),aA.refl _ _⟩
theorem Hu(w:World)(g o cap m:Nat)(b:List UInt8)(hmb:m≤b.length)(hc:b.length≤cap)(hm:cap≤maxLen)(hr:w.rangeAt g o (b.map vb))(hlast:∀h:m-1<b.length,0<m->b[m-1]≠0) :
 Calls Tryz.prog 98 #[.slice (some ⟨g,o,none⟩) m cap,.int .u8 0] w (fun e w'=>∃a k c,e=.returned (.slice a k c)/\(k=0↔m=0)/\aA aB w w'):=by
 unfold maxLen at hm;have HR:=O hr;have HL:=O hlast;have HMB:=O hmb;obtain⟨n,hn⟩:∃n,b.length=n:=⟨_,rfl⟩
 have HN:=O hn;rw[hn] at hc hmb;clear hn hr hlast;go_enter Tryz.func98,Tryz.ntmps98;go_wp2_with fail
 go_loopw [0] (fun v wr=>∃j q p c:Nat,q+j=m/\(0<m->0<q)/\p=o+j/\c+j=cap/\v=.slice (some ⟨g,p,none⟩) q c/\w=wr) (fun v _=>match v with|.slice _ m _=>m|_=>0)
 case atStart=>exact⟨0,m,o,cap,rfl,fun h=>h,rfl,rfl,rfl,rfl⟩
 case round =>
  obtain⟨j,q,p,c,hq,hq0,hp,hcc,rfl,rfl⟩:=hrel;rcases q with _|q
  ·have HJ:=O hq;have H0:=O hq0
   clear hq hq0;go_wp2_with fail;go_ret;exact⟨_,_,_,rfl,⟨fun _=>by have:=H0.out;omega,fun _=>rfl⟩,aA.refl _ _⟩
  ·have hjl:j<b.length:=by have:=HN.out;omega
   obtain⟨x,hx⟩:∃x,b[j]=x:=⟨_,rfl⟩
   have HX:Hid (∀h:j<b.length,b[j]=x):=O (fun _=>hx);have c1:w.cell? ⟨g,p,none⟩=some (.int .u8 (x.toNat:Int)):=by rw[hp];exact HR.out j _ (by rw[List.getElem?_map,List.getElem?_eq_getElem hjl,hx];rfl)
   have hb1:(q:Int)+1≤(c:Int):=by have:=HN.out;omega
   have hpos:((q:Int)+1 > 0):=by omega
   have HQ:=O hq;have HP:=O hp;have HC:=O hcc;clear hx hq hp hcc hq0
   by_cases hz:x=0
   ·have e0:(x.toNat:Int)=0:=by rw[hz];rfl
    rw[e0] at c1
    have hq1:1≤q:=by
     rcases q with _|q
     ·exfalso
      have h1:=HQ.out;have h2:m-1=j:=by omega
      have h3:=HL.out;rw[h2] at h3;exact h3 hjl (by omega) ((HX.out hjl).trans hz)
     ·omega
    have hc1:¬c=1:=by omega
    go_wp2_with fail
    go_roundw
    case rel=>exact⟨j+1,q,p+1,c-1,by have:=HQ.out;omega,fun _=>by omega,by have:=HP.out;omega,by have:=HC.out;omega,rfl,trivial⟩
    case measure=>simp
   ·have e0:¬(x.toNat:Int)=0:=fun e=>hz (UInt8.toNat_inj.1 (by simpa using e))
    go_wp2_with fail;go_ret;exact⟨_,_,_,rfl,⟨fun h=>by omega,fun h=>by have:=HQ.out;omega⟩,aA.refl _ _⟩
theorem JW(w:World)(v:Value)(b:List UInt8)(hr:Rd w 1 v b.length (b.map vb)) :
 Calls Tryz.prog 72 #[v,.string ⟨#[0]⟩] w (fun e w'=>∃a k c,e=.returned (.slice a k c)/\(k=0↔bZ b=true)/\aA aB w w'):=by
 obtain⟨a,cap,rfl,h0,h4⟩:=wQ hr;have HA:Hid (b=[]->bZ b=true):=O (fun e=>by rw[e];rfl)
 by_cases hn:b.length=0
 ·have HN:=O hn
  rw[hn];clear h0 h4 hr;go_enter Tryz.func72,Tryz.ntmps72;go_wp2_with fail;go_ret;exact⟨_,_,_,rfl,⟨fun _=>HA.out (List.eq_nil_of_length_eq_zero HN.out),fun _=>rfl⟩,aA.refl _ _⟩
 ·obtain⟨g,o,rfl,hra⟩:=h4 hn
  have HR:=O hra;have H0:=O h0;have HN:=O hn;have hnn:¬((b.length:Int)=0):=by omega
  clear hra h0 hr h4 hn;go_enter Tryz.func72,Tryz.ntmps72;go_wp2_with fail;have HL:=O (Loc.nil aB aB w);obtain⟨S,hS0⟩:∃S:World->Prop,S=fun w'=>aA aB w.drew w':=⟨_,rfl⟩
  have HSE:=O (show ∀w',S w'->aA aB w.drew w' from fun w' h=>by rw[hS0] at h;exact h);have HSI:=O (show ∀w',aA aB w.drew w'->S w' from fun w' h=>by rw[hS0];exact h);have hS:S w.drew:=by rw[hS0];exact aA.refl _ _
  have hkd:=(aA.refl aB w).drew;clear hS0;refine wp_region_held (S:=S) (by kernel_rfl) ?_;change wpAnyH _ _ _ _ _ _ _ _ w.drew;generalize w.drew=w1 at HSE HSI hS hkd ⊢;replace HL:=O (HL.out.keeps hkd);clear hkd;have HLs:=HL;refine tna 0 (.slice (some ⟨g,o,none⟩) b.length cap) rfl hS ?_;refine tna 1 (.string ⟨#[0]⟩) rfl hS ?_;refine tnd 2 (.int .u8 0) rfl (.inl ⟨by rfl,fun w' hw'=>by go_simp;rfl⟩) hS ?_;refine tna 4 (.string ⟨#[0]⟩) rfl hS ?_;refine tnd 5 (.int .u8 0) rfl (.inl ⟨by rfl,fun w' hw'=>by go_simp;rfl⟩) hS ?_;refine wA9 3 ?_;go_wp2_with fail;refine(Ht w1 g o cap b H0.out.1 H0.out.2 (HL.out.keep.rangeAt HR.out)).mono ?_;rintro e w2 ⟨m,hm1,rfl,hm2,hm3,hk⟩;have hS1:=HSI.out _ ((HSE.out _ hS).trans hk);replace HL:=O (HL.out.keeps hk);clear hS hk;go_wp2_with fail;refine⟨hS1,?_⟩;refine wA9 6 ?_;go_wp2_with fail;refine(Hu w2 g o cap m b hm1 H0.out.1 H0.out.2 (HL.out.keep.rangeAt HR.out) hm3).mono ?_;rintro e w3 ⟨ra,rk,rc,rfl,hk2,hk⟩;have hS2:=HSI.out _ ((HSE.out _ hS1).trans hk);replace HL:=O (HL.out.keeps hk);clear hS1 hk;go_wp2_with fail;refine⟨hS2,?_⟩;refine tna 7 (.slice ra rk rc) rfl hS2 ?_;refine wpAnyH_done (by kernel_rfl) ?_ _;clear hS2 HSE HSI HLs;have HK:=O HL.out.keep;go_wp2_with fail;go_ret;refine⟨_,_,_,rfl,hk2.trans ?_,HK.out⟩;rw[eL];constructor
  ·rintro rfl x hx
   obtain⟨i,hi,rfl⟩:=List.getElem_of_mem hx;exact hm2 i hi (Nat.zero_le _)
  ·intro h
   rcases Nat.eq_zero_or_pos m with e|e
   ·exact e
   ·exact absurd (h _ (List.getElem_mem (show m-1<b.length by omega))) (hm3 (by omega) e)
theorem fT(w:World)(v:Value)(b:List UInt8)(hr:Rd w 1 v b.length (b.map vb)):Calls Tryz.prog 36 #[v] w (aF w (.bool (bZ b))):=by
 have C:=O (JW w v b hr);obtain⟨a,c,rfl,-,-⟩:=hr.form;clear hr;go_enter Tryz.func36,Tryz.ntmps36;go_wp2_with fail;refine C.out.mono ?_;rintro e w1 ⟨a2,k,c2,rfl,hk2,hk⟩
 have hq:((k:Int) == 0)=bZ b:=by
  cases h:bZ b with
  | true=>simp[hk2.2 h]
  | false =>
    have:¬k=0:=fun e=>by rw[hk2.1 e] at h;cases h
    simp[this]
 have HQ:=O hq;have HK:=O hk;clear hk hk2 hq;go_wp2_with fail;go_ret;exact⟨by rw[←HQ.out];first|rfl|simp,HK.out⟩
theorem C0:Hid (∀w,(zeroValue 294).run Tryz.prog w=.ok (.agg #[.int .i64 0,.slice none 0 0]) w):=O fun w=>by kernel_rfl
def BT(a:Nat):List Value:=.pointer (some ⟨a,0,none⟩)::List.replicate 24 (.int .i64 0)
def eM(w:World)(m a:Nat):Prop:=w.heap[m]?=some (.cells (BT a).toArray 179 (0,0))
theorem eM.c0{w:World}{m a:Nat}(h:eM w m a):w.cell? ⟨m,0,none⟩=some (.pointer (some ⟨a,0,none⟩)):=aC h rfl
theorem kD{w:World}{a D Z nw:Nat}{B:Nat->Prop}{M:Nat->Nat->List UInt8}(h:bI w a B D Z M nw):Calls Tryz.prog 37 #[.pointer (some ⟨a,0,none⟩)] w (aF w (.int .i64 (D:Int))):=by
 obtain⟨dv,dc,lv,st,f,F,W,h1,-⟩:=h;exact M4 h1
theorem tZ{w:World}{a D Z nw:Nat}{B:Nat->Prop}{M:Nat->Nat->List UInt8}(h:bI w a B D Z M nw):Calls Tryz.prog 79 #[.pointer (some ⟨a,0,none⟩)] w (aF w (.int .i64 (Z:Int))):=by
 obtain⟨dv,dc,lv,st,f,F,W,h1,-⟩:=h;exact BQ h1
theorem Nm{w:World}{a D Z nw:Nat}{B:Nat->Prop}{M:Nat->Nat->List UInt8}(h:bI w a B D Z M nw)(d:Int):Calls Tryz.prog 43 #[.pointer (some ⟨a,0,none⟩),.int .i64 d] w (aF w (.bool (decide (0≤d) && decide (d<(D:Int))))):=by
 obtain⟨dv,dc,lv,st,f,F,W,h1,-⟩:=h;exact aup h1 d
theorem M9{w:World}{a D Z nw:Nat}{B:Nat->Prop}{M:Nat->Nat->List UInt8}(h:bI w a B D Z M nw){d s:Nat}(hd:d<D)(hs:s<Z):Calls Tryz.prog 74 #[.pointer (some ⟨a,0,none⟩),.int .i64 (d:Int),.int .i64 (s:Int)] w (rQ w (M d s) (.int .i64 0)):=by
 obtain⟨dv,dc,lv,st,f,F,W,h1,-,-,h4⟩:=h;rw[h4 d s hd hs];exact LH h1 hd hs
theorem Na{w:World}{a D Z nw:Nat}{B:Nat->Prop}{M:Nat->Nat->List UInt8}(h:bI w a B D Z M nw){d s:Nat}(hd:d<D)(hs:s<Z):Calls Tryz.prog 148 #[.pointer (some ⟨a,0,none⟩),.int .i64 (d:Int),.int .i64 (s:Int)] w (rQ w (M d s) (.bool true)):=by
 obtain⟨dv,dc,lv,st,f,F,W,h1,-,-,h4⟩:=h;rw[h4 d s hd hs];exact JM h1 hd hs
theorem LP{w:World}{a D Z nw:Nat}{B:Nat->Prop}{M:Nat->Nat->List UInt8}(h:bI w a B D Z M nw):Calls Tryz.prog 74 #[.pointer (some ⟨a,0,none⟩),.int .i64 (-1),.int .i64 0] w (aF w (.tuple #[.slice none 0 0,.int .i64 5])):=by
 obtain⟨dv,dc,lv,st,f,F,W,h1,-⟩:=h;exact LJ h1
theorem bI.len{w:World}{a D Z nw:Nat}{B:Nat->Prop}{M:Nat->Nat->List UInt8}(h:bI w a B D Z M nw){d s:Nat}(hd:d<D)(hs:s<Z):(M d s).length=256:=by
 obtain⟨dv,dc,lv,st,f,F,W,h1,-,-,h4⟩:=h;rw[h4 d s hd hs];exact rP h1.wok (h1.fok d s hd hs)
theorem A1(w:World)(m a:Nat)(hm:eM w m a):Calls Tryz.prog 191 #[.pointer (some ⟨m,0,none⟩)] w (aF w (.bool false)):=by
 have c0:=hm.c0;clear hm;go_enter Tryz.func191,Tryz.ntmps191;go_wp2_with fail;go_ret;exact aF.of (aA.refl _ _)
theorem JX(w:World)(n:Nat)(hn:0<n):Calls Tryz.prog 194 #[.int .i64 (n:Int)] w (aF w (.tuple #[.int .i64 (n:Int),.int .i64 0])):=by
 have e:((n:Int) == 0)=false:=by rw[beq_eq_false_iff_ne];omega
 go_enter Tryz.func194,Tryz.ntmps194;go_wp2_with fail
 go_ret2
 exact aF.of (aA.refl _ _)
theorem JY{w:World}{a D Z nw:Nat}{B:Nat->Prop}{M:Nat->Nat->List UInt8}(h:bI w a B D Z M nw):Calls Tryz.prog 75 #[.pointer (some ⟨a,0,none⟩)] w fun e w'=>∃m,e=.returned (.tuple #[.pointer (some ⟨m,0,none⟩),.int .i64 0])/\w.heap.size≤m/\eM w' m a/\aA aB w w':=by
 have HD:=O (kD h);have hbd:=h.bd;have e:((D:Int) == 0)=false:=by rw[beq_eq_false_iff_ne];omega
 have hbM:∀w,(Instr.build 179 #[(0,.pointer (some ⟨a,0,none⟩))]).run Tryz.prog w=.ok (.agg (BT a).toArray) w:=fun w=>by kernel_rfl
 clear h hbd;go_enter Tryz.func75,Tryz.ntmps75;go_wp2_with fail;refine HD.out.mono ?_;rintro e w1 ⟨rfl,hk⟩;have HK:=O hk;have hsz:=hk.size;clear hk HD
 go_wp2_with ((with_reducible show WL _ _);first
  | refine bld 179 #[(0,.tmp 7)] [(0,.pointer (some ⟨a,0,none⟩))] (.agg (BT a).toArray) hbM ?_
  | refine bx 179 (.tmp 8) (BT a).toArray ?_)
 intro b w2 hb hk2 hn;have HR:Hid (∃m,Ending.returned (.tuple #[.pointer (some ⟨b,0,none⟩),.int .i64 0])=.returned (.tuple #[.pointer (some ⟨m,0,none⟩),.int .i64 0])/\w.heap.size≤m/\eM w2 m a/\aA aB w w2):=O ⟨b,rfl,by omega,hn,HK.out.trans hk2⟩;clear hb hk2 hn;go_wp2_with fail
 go_ret2
 exact HR.out
theorem lH{x:Ad}{D Z:Nat}(h:dW x D Z):∃d s:Nat,x=⟨(d:Int),(s:Int)⟩/\d<D/\5≤s/\s<Z:=by
 obtain⟨xd,xs⟩:=x;obtain⟨h1,h2,h3,h4⟩:=h;replace h1:0≤xd:=h1;replace h2:xd<(D:Int):=h2;replace h3:5≤xs:=h3;replace h4:xs<(Z:Int):=h4;exact⟨xd.toNat,xs.toNat,by rw[Int.toNat_of_nonneg h1,Int.toNat_of_nonneg (by omega)],by omega,by omega,by omega⟩
theorem uA{w:World}{m a D Z nw:Nat}{B:Nat->Prop}{Mm:Nat->Nat->List UInt8}(h:bI w a B D Z Mm nw)(hm:eM w m a)(v:Value)(l:List Ad)(hr:Rd w 2 v l.length (aT l))(hl:∀x∈l,dW x D Z):Calls Tryz.prog 192 #[.pointer (some ⟨m,0,none⟩),v] w (aF w (.bool true)):=by
 obtain⟨oa,ca,rfl,-,-⟩:=hr.form;obtain⟨n,hn⟩:∃n,l.length=n:=⟨_,rfl⟩
 have HN:=O hn;rw[hn] at hr ⊢;have hmx:n≤maxLen:=by obtain⟨_,a',c',h1,h2,h3,-⟩:=hr;omega
 unfold maxLen at hmx;have HR:=O hr;have HA:=O h;have HMM:=O hm;have HLL:=O hl;clear hr h hm hl hn;go_enter Tryz.func192,Tryz.ntmps192;go_wp2_with fail
 go_loopw [9] (fun i wr=>∃k:Nat,k≤n/\i=.int .i64 k/\Hid (aA aB w wr)) (fun i _=>n-(intOf i).toNat)
 case atStart=>exact⟨0,by omega,rfl,O (aA.refl _ _)⟩
 case round =>
  obtain⟨k,hk,rfl,HK⟩:=hrel
  by_cases hk8:k<n
  ·obtain⟨x,hx⟩:∃x,l[k]?=some x:=⟨l[k]'(by rw[HN.out];exact hk8),List.getElem?_eq_getElem _⟩
   obtain⟨d,s,rfl,hd,hs5,hsZ⟩:=lH (HLL.out x (List.mem_of_getElem? hx));have hrr:=HR.out;rw[←HN.out] at hrr;obtain⟨g,o,cap',hv,hat⟩:=mD hrr hx;obtain rfl:oa=some ⟨g,o,none⟩:=by cases hv;rfl
   have HX:=O (HK.out.rangeAt hat);have HL:=O (Loc.nil aB aB wr);have HAW:=O (HA.out.keep0 HK.out);have HMW:Hid (eM wr m a):=O (HK.out.blk HMM.out id);have hk0:(0:Int)≤(k:Int):=by omega
   have hk1:(k:Int)<(n:Int):=by omega
   have e1:¬((d:Int)<0):=by omega
   have e2:¬((D:Int)≤(d:Int)):=by omega
   have e3:¬((s:Int)<5):=by omega
   have e4:¬((Z:Int)≤(s:Int)):=by omega
   clear hx hrr hat hv
   go_wp2_with ((with_reducible show WL _ _);first
    | refine wpList_load_mid rfl 49 (.tmp 11) rfl g (o+k*2) rfl (aN ⟨(d:Int),(s:Int)⟩) _ HX.out bX rfl (by rw[bA];exact iN) ?_
    | refine al 49 (.agg jC.toArray) (jC.toArray) tH ?_)
   intro b6 w1 hbs hk0 hb0_
   go_wp2_with ((with_reducible show WL _ _);refine sta 49 (.tmp 6) (.tmp 12) b6 0 (aN ⟨(d:Int),(s:Int)⟩) hb0_ (by first|decide|(rw[List.size_toArray,bA];exact Nat.le_refl _)|simp[bA]) (by rw[bA];exact iN) (bH _) ?_)
   intro w2 hk hb;rw[aG _ _ (by first|rfl|(rw[List.size_toArray,bA];rfl)|simp[bA])] at hb;replace hk:=hk0.trans' hk (U:=aB) (fun _ _ h=>h) (fun i hi e=>by omega);replace HL:=O (HL.out.new (fun _ h=>h.elim) hbs hk hb);replace HX:=O (hk.rangeAt HX.out);replace HAW:=O (HAW.out.keep0 hk);replace HMW:=O (hk.blk HMW.out id);clear hbs hk hb hk0 hb0_;clear HX;go_wp2_with fail;obtain⟨S,hS0⟩:∃S:World->Prop,S=fun w'=>aA aB w2.drew w':=⟨_,rfl⟩
   have HSE:=O (show ∀w',S w'->aA aB w2.drew w' from fun w' h=>by rw[hS0] at h;exact h);have HSI:=O (show ∀w',aA aB w2.drew w'->S w' from fun w' h=>by rw[hS0];exact h);have hS:S w2.drew:=by rw[hS0];exact aA.refl _ _
   have hkd:=(aA.refl aB w2).drew;clear hS0;refine wp_region_held (S:=S) (by kernel_rfl) ?_;change wpAnyH _ _ _ _ _ _ _ _ w2.drew;generalize w2.drew=w3 at HSE HSI hS hkd ⊢;replace HL:=O (HL.out.keeps hkd);replace HAW:=O (HAW.out.keep0 hkd);replace HMW:=O (hkd.blk HMW.out id);clear hkd;have HLs:=HL;have HAWs:=HAW;have HMWs:=HMW;refine tnb 0 (.pointer (some ⟨b6,0,none⟩)) rfl hS ?_;refine tnd 1 (.int .i64 (d:Int)) rfl (.inl ⟨by rfl,fun w' hw'=>by have c:World.cell? w' ⟨b6,0,none⟩=some (.int .i64 (d:Int)):=(aC (i:=0) ((HSE.out w' hw').blk (HLs.out.b 0) id) rfl);go_simp⟩) hS ?_;refine tnd 2 (.bool false) rfl (.inl ⟨by rfl,fun _ _=>by go_simp<;>first|omega|(simp;omega)⟩) hS ?_;refine tna 3 (.bool false) rfl hS ?_;refine tnb 4 (.pointer (some ⟨b6,0,none⟩)) rfl hS ?_;refine tnd 5 (.int .i64 (d:Int)) rfl (.inl ⟨by rfl,fun w' hw'=>by have c:World.cell? w' ⟨b6,0,none⟩=some (.int .i64 (d:Int)):=(aC (i:=0) ((HSE.out w' hw').blk (HLs.out.b 0) id) rfl);go_simp⟩) hS ?_;refine tna 6 (.pointer (some ⟨m,0,none⟩)) rfl hS ?_;refine tnb 7 (.pointer (some ⟨m,0,none⟩)) rfl hS ?_;refine tnb 8 (.pointer (some ⟨m,0,none⟩)) rfl hS ?_;refine tnd 9 (.pointer (some ⟨a,0,none⟩)) rfl (.inl ⟨by rfl,fun w' hw'=>by have c:World.cell? w' ⟨m,0,none⟩=some (.pointer (some ⟨a,0,none⟩)):=(HSE.out w' hw').cell (eM.c0 HMWs.out) id;go_simp⟩) hS ?_;refine wA9 10 ?_;go_wp2_with fail;refine(kD HAW.out).mono ?_;rintro e w4 ⟨rfl,hk⟩;have hS1:=HSI.out _ ((HSE.out _ hS).trans hk);replace HL:=O (HL.out.keeps hk);replace HAW:=O (HAW.out.keep0 hk);replace HMW:=O (hk.blk HMW.out id);clear hS hk;go_wp2_with fail;refine⟨hS1,?_⟩;refine tnd 11 (.bool false) rfl (.inl ⟨by rfl,fun _ _=>by go_simp<;>first|omega|(simp;omega)⟩) hS1 ?_;refine tna 12 (.bool false) rfl hS1 ?_;refine tna 13 (.bool false) rfl hS1 ?_;refine tnb 14 (.pointer (some ⟨b6,1,none⟩)) rfl hS1 ?_;refine tnd 15 (.int .i64 (s:Int)) rfl (.inl ⟨by rfl,fun w' hw'=>by have c:World.cell? w' ⟨b6,1,none⟩=some (.int .i64 (s:Int)):=(aC (i:=1) ((HSE.out w' hw').blk (HLs.out.b 0) id) rfl);go_simp⟩) hS1 ?_;refine tnd 16 (.bool false) rfl (.inl ⟨by rfl,fun _ _=>by go_simp<;>first|omega|(simp;omega)⟩) hS1 ?_;refine tna 17 (.bool false) rfl hS1 ?_;refine tna 18 (.bool false) rfl hS1 ?_;refine tnb 19 (.pointer (some ⟨b6,1,none⟩)) rfl hS1 ?_;refine tnd 20 (.int .i64 (s:Int)) rfl (.inl ⟨by rfl,fun w' hw'=>by have c:World.cell? w' ⟨b6,1,none⟩=some (.int .i64 (s:Int)):=(aC (i:=1) ((HSE.out w' hw').blk (HLs.out.b 0) id) rfl);go_simp⟩) hS1 ?_;refine tna 21 (.pointer (some ⟨m,0,none⟩)) rfl hS1 ?_;refine tnb 22 (.pointer (some ⟨m,0,none⟩)) rfl hS1 ?_;refine tnb 23 (.pointer (some ⟨m,0,none⟩)) rfl hS1 ?_;refine tnd 24 (.pointer (some ⟨a,0,none⟩)) rfl (.inl ⟨by rfl,fun w' hw'=>by have c:World.cell? w' ⟨m,0,none⟩=some (.pointer (some ⟨a,0,none⟩)):=(HSE.out w' hw').cell (eM.c0 HMWs.out) id;go_simp⟩) hS1 ?_;refine wA9 25 ?_;go_wp2_with fail;refine(tZ HAW.out).mono ?_;rintro e w5 ⟨rfl,hk⟩;have hS2:=HSI.out _ ((HSE.out _ hS1).trans hk);replace HL:=O (HL.out.keeps hk);replace HAW:=O (HAW.out.keep0 hk);replace HMW:=O (hk.blk HMW.out id);clear hS1 hk;go_wp2_with fail;refine⟨hS2,?_⟩;refine tnd 26 (.bool false) rfl (.inl ⟨by rfl,fun _ _=>by go_simp<;>first|omega|(simp;omega)⟩) hS2 ?_;refine tna 27 (.bool false) rfl hS2 ?_;refine wpAnyH_done (by kernel_rfl) ?_ _;clear hS2 HSE HSI HLs HAWs HMWs;have HK2:=O (HK.out.trans HL.out.keep);clear HL HAW HMW;go_wp2_with fail
   go_roundw
   case rel=>exact⟨k+1,by omega,by go_num,HK2⟩
   case measure=>simp[intOf];omega
  ·obtain rfl:n=k:=by omega
   go_wp2_with fail;go_ret;exact aF.of HK.out
theorem Fz(w:World)(v:Value)(l:List Ad)(hr:Rd w 2 v l.length (aT l))(hl:(l.map (·.dev)).Nodup)(hl2:lC l):Calls Tryz.prog 193 #[v] w (aF w (.bool true)):=by
 obtain⟨oa,ca,rfl,-,-⟩:=hr.form;obtain⟨n,hn⟩:∃n,l.length=n:=⟨_,rfl⟩
 have HN:=O hn;rw[hn] at hr ⊢;have hnc:n≤ca:=by obtain⟨_,a',c',h1,h2,h3,-⟩:=hr;cases h1;exact h2
 have hmx:n≤maxLen:=by obtain⟨_,a',c',h1,h2,h3,-⟩:=hr;omega
 unfold maxLen at hmx;have HR:=O hr;have HLL:=O hl;have HOK:=O hl2;clear hr hl hl2 hn;go_enter Tryz.func193,Tryz.ntmps193;go_wp2_with fail
 go_loopw [9] (fun i wr=>∃k:Nat,k≤n/\i=.int .i64 k/\Hid (aA aB w wr)) (fun i _=>n-(intOf i).toNat)
 case atStart=>exact⟨0,by omega,rfl,O (aA.refl _ _)⟩
 case round =>
  obtain⟨k,hk,rfl,HK⟩:=hrel
  by_cases hk8:k<n
  ·obtain⟨x,hx⟩:∃x,l[k]?=some x:=⟨l[k]'(by rw[HN.out];exact hk8),List.getElem?_eq_getElem _⟩
   have hrr:=HR.out;rw[←HN.out] at hrr;obtain⟨g,o,cap',hv,hat⟩:=mD hrr hx;obtain rfl:oa=some ⟨g,o,none⟩:=by cases hv;rfl
   have HX:=O (HK.out.rangeAt hat);have HXX:=O hx;have HL:=O (Loc.nil aB aB wr);have hk0:(0:Int)≤(k:Int):=by omega
   have hk1:(k:Int)<(n:Int):=by omega
   have hkc:(k:Int)≤(ca:Int):=by omega
   clear hx hrr hat hv
   go_wp2_with ((with_reducible show WL _ _);first
    | refine wpList_load_mid rfl 49 (.tmp 12) rfl g (o+k*2) rfl (aN x) _ HX.out bX rfl (by rw[bA];exact iN) ?_
    | refine al 49 (.agg jC.toArray) (jC.toArray) tH ?_)
   intro b4 w1 hbs hk0 hb0_
   go_wp2_with ((with_reducible show WL _ _);refine sta 49 (.tmp 4) (.tmp 13) b4 0 (aN x) hb0_ (by first|decide|(rw[List.size_toArray,bA];exact Nat.le_refl _)|simp[bA]) (by rw[bA];exact iN) (bH _) ?_)
   intro w2 hk hb;rw[aG _ _ (by first|rfl|(rw[List.size_toArray,bA];rfl)|simp[bA])] at hb;replace hk:=hk0.trans' hk (U:=aB) (fun _ _ h=>h) (fun i hi e=>by omega);replace HL:=O (HL.out.new (fun _ h=>h.elim) hbs hk hb);replace HX:=O (hk.rangeAt HX.out);clear hbs hk hb hk0 hb0_;clear HX;go_wp2_with fail;have HB4:=O (HL.out.b 0);have HK1:=O (HK.out.trans HL.out.keep)
   go_loopw [18] (fun i wr2=>∃j:Nat,j≤k/\i=.int .i64 j/\Hid (aA aB w2 wr2)) (fun i _=>k-(intOf i).toNat)
   case atStart=>exact⟨0,by omega,rfl,O (aA.refl _ _)⟩
   case round =>
    rename_i wo;obtain⟨j,hj,rfl,HK2⟩:=hrel
    by_cases hj8:j<k
    ·obtain⟨y,hy⟩:∃y,l[j]?=some y:=⟨l[j]'(by rw[HN.out];omega),List.getElem?_eq_getElem _⟩
     have hrr:=HR.out;rw[←HN.out] at hrr;obtain⟨g',o',cap',hv,hat⟩:=mD hrr hy;cases hv
     have HX:=O ((HK1.out.trans HK2.out).rangeAt hat)
     have hne:x.dev≠y.dev:=by
      intro e;have h1:(l.map (·.dev))[k]?=some x.dev:=by rw[List.getElem?_map,HXX.out];rfl
      have h2:(l.map (·.dev))[j]?=some x.dev:=by rw[List.getElem?_map,hy,e];rfl
      have:=((List.getElem?_inj (List.getElem?_eq_some_iff.1 h1).1 HLL.out).1 (h1.trans h2.symm))
      omega
     have hee:(x.dev == y.dev)=false:=by rw[beq_eq_false_iff_ne];exact hne
     have HB5:=O (HK2.out.blk HB4.out id);have hj0:(0:Int)≤(j:Int):=by omega
     have hj1:(j:Int)<(k:Int):=by omega
     have hj2:(j:Int)<(n:Int):=by omega
     have HL:=O (Loc.nil aB aB wr);clear hy hrr hat hne
     go_wp2_with ((with_reducible show WL _ _);first
      | refine wpList_load_mid rfl 49 (.tmp 20) rfl g (o+j*2) rfl (aN y) _ HX.out bX rfl (by rw[bA];exact iN) ?_
      | refine al 49 (.agg jC.toArray) (jC.toArray) tH ?_)
     intro b6 w3 hbs hk0 hb0_
     go_wp2_with ((with_reducible show WL _ _);refine sta 49 (.tmp 6) (.tmp 21) b6 0 (aN y) hb0_ (by first|decide|(rw[List.size_toArray,bA];exact Nat.le_refl _)|simp[bA]) (by rw[bA];exact iN) (bH _) ?_)
     intro w4 hk hb;rw[aG _ _ (by first|rfl|(rw[List.size_toArray,bA];rfl)|simp[bA])] at hb;replace hk:=hk0.trans' hk (U:=aB) (fun _ _ h=>h) (fun i hi e=>by omega);replace HL:=O (HL.out.new (fun _ h=>h.elim) hbs hk hb);replace HX:=O (hk.rangeAt HX.out);replace HB5:=O (hk.blk HB5.out id);clear hbs hk hb hk0 hb0_;have c1:w4.cell? ⟨b4,0,none⟩=some (.int .i64 x.dev):=aC (i:=0) HB5.out rfl;have c2:w4.cell? ⟨b6,0,none⟩=some (.int .i64 y.dev):=aC (i:=0) (HL.out.b 0) rfl;have HK3:=O (HK2.out.trans HL.out.keep);go_wp2_with fail
     go_roundw
     case rel=>exact⟨j+1,by omega,by go_num,HK3⟩
     case measure=>simp[intOf];omega
    ·obtain rfl:k=j:=by omega
     have HK3:=O (HK1.out.trans HK2.out);go_wp2_with fail
     go_roundw
     case rel=>exact⟨k+1,by omega,by go_num,HK3⟩
     case measure=>simp[intOf];omega
  ·obtain rfl:n=k:=by omega
   go_wp2_with fail;go_ret;exact aF.of HK.out
def pB(w:World)(a:Nat)(B:Nat->Prop)(D Z:Nat)(Mm:Nat->Nat->List UInt8)(nw:Nat)(l:List Ad)(b:List UInt8)(e:Ending)(w':World):Prop:=
 e=.returned (.tuple #[.int .i64 (l.length:Int),.int .i64 0])/\∃B',bI w' a B' D Z (kQ b l Mm) (nw+l.length)/\(∀k,B' k->B k\/w.heap.size≤k)/\aA B w w'
theorem pB.keep{w w1 w2:World}{a D Z nw:Nat}{B:Nat->Prop}{Mm:Nat->Nat->List UInt8}{l:List Ad}{b:List UInt8}{e:Ending}(h:pB w a B D Z Mm nw l b e w1)(k:aA aB w1 w2):pB w a B D Z Mm nw l b e w2:=by
 obtain⟨h1,B',h2,h3,h4⟩:=h;exact⟨h1,B',h2.keep0 k,h3,h4.trans k.any⟩
structure MPI(w wr:World)(a:Nat)(B Bk:Nat->Prop)(D Z:Nat)(Mm:Nat->Nat->List UInt8)(nw k:Nat)(l:List Ad)(b:List UInt8):Prop where
 arr:bI wr a Bk D Z (kQ b (l.take k) Mm) (nw+k)
 grow:∀i,Bk i->B i\/w.heap.size≤i
 keep:aA B w wr
theorem JZ{w:World}{m a D Z nw:Nat}{B:Nat->Prop}{Mm:Nat->Nat->List UInt8}(h:bI w a B D Z Mm nw)(hm:eM w m a)(hmB:¬B m)(v:Value)(l:List Ad)(hr:Rd w 2 v l.length (aT l))(hl:∀x∈l,dW x D Z)(hld:(l.map (·.dev)).Nodup)(hlo:lC l)(h1:1≤l.length)(h3:l.length≤3)
 (hv:∀i,v.ownBlock=some i->¬B i) (vb':Value) (b:List UInt8) (hbl:b.length=256) (hb:Rd w 1 vb' 256 (b.map vb)) (hvb:∀i,vb'.ownBlock=some i->¬B i) (hn:nw<90000000000) :
 Calls Tryz.prog 152 #[.pointer (some ⟨m,0,none⟩),v,vb'] w (pB w a B D Z Mm nw l b):=by
 obtain⟨oa,ca,rfl,-,-⟩:=hr.form
 obtain⟨g2,o2,c2,rfl⟩:∃g o c,vb'=.slice (some ⟨g,o,none⟩) 256 c:=by
  obtain⟨h1,a',c',rfl,-,-,-,h4⟩:=hb;obtain⟨g,o,rfl,hc⟩:=h4 (by rw[h1];decide);exact⟨g,o,c',rfl⟩
 obtain⟨n,hn_⟩:∃n,l.length=n:=⟨_,rfl⟩
 have HN:=O hn_
 have hg0:oa=none\/∃g o,oa=some ⟨g,o,none⟩/\g<w.heap.size:=by
  obtain⟨hl0,a',c',he,-,-,-,h4⟩:=hr;obtain⟨g,o,rfl,hc⟩:=h4 (by rw[hl0];omega);cases he
  obtain⟨u,hu⟩:∃u,(aT l)[0]?=some u:=⟨_,List.getElem?_eq_getElem (by rw[hl0];omega)⟩
  exact .inr ⟨g,o,rfl,World.block_lt_of_cell? w _ (hc 0 u hu)⟩
 have hmlt:m<w.heap.size:=lt_of_block hm
 have hg2:g2<w.heap.size:=by
  obtain⟨hl0,a',c',he,-,-,-,h4⟩:=hb;obtain⟨g,o,e,hc⟩:=h4 (by rw[hl0];decide);cases he;cases e
  obtain⟨u,hu⟩:∃u,(b.map vb)[0]?=some u:=⟨_,List.getElem?_eq_getElem (by rw[hl0];decide)⟩
  exact World.block_lt_of_cell? w _ (hc 0 u hu)
 rw[hn_] at hr h1 h3 hv ⊢;have e1:¬((n:Int)<1):=by omega
 have e3:¬(3<(n:Int)):=by omega
 have HA:=O h;have HMM:=O hm;have HR:=O hr;have HRB:=O hb;have HLP:=O hl;have HLD:=O hld;have HLO:=O hlo;have HV:=O hv;have HVB:=O hvb;have HG0:=O hg0;have HS:=O (by have:=uA h hm _ l (by rw[hn_];exact hr) hl;exact this);have HK0:=O (aA.refl aB w);clear h hm hr hb hl hld hlo hv hvb hn_ hg0;have HL:=O (Loc.nil aB aB w);go_enter Tryz.func152,Tryz.ntmps152;clear HS HK0;go_wp2_with fail;refine(A1 w m a HMM.out).mono ?_;rintro e w1 ⟨rfl,hk⟩;replace HL:=O (HL.out.keeps hk);replace HA:=O (HA.out.keep0 hk);replace HMM:=O (hk.blk HMM.out id);replace HR:=O (HR.out.keep hk fun _ _=>id);replace HRB:=O (HRB.out.keep hk fun _ _=>id);clear hk;go_wp2_with fail;refine(uA HA.out HMM.out _ l (by rw[HN.out];exact HR.out) HLP.out).mono ?_;rintro e w2 ⟨rfl,hk⟩;replace HL:=O (HL.out.keeps hk);replace HA:=O (HA.out.keep0 hk);replace HMM:=O (hk.blk HMM.out id);replace HR:=O (HR.out.keep hk fun _ _=>id);replace HRB:=O (HRB.out.keep hk fun _ _=>id);clear hk;go_wp2_with fail;refine(Fz w2 _ l (by rw[HN.out];exact HR.out) HLD.out HLO.out).mono ?_;rintro e w3 ⟨rfl,hk⟩;replace HL:=O (HL.out.keeps hk);replace HA:=O (HA.out.keep0 hk);replace HMM:=O (hk.blk HMM.out id);replace HR:=O (HR.out.keep hk fun _ _=>id);replace HRB:=O (HRB.out.keep hk fun _ _=>id);clear hk;go_wp2_with fail;have H0:Hid (MPI w3 w3 a B B D Z Mm nw 0 l b):=O ⟨by rw[List.take_zero];exact HA.out,fun i h=>.inl h,aA.refl _ _⟩;have hmw:m<w3.heap.size:=lt_of_block HMM.out;have HM0:Hid (w.heap.size≤w3.heap.size):=O HL.out.keep.size;have HK0:=O HL.out.keep;have hmw2:w.heap.size≤w3.heap.size:=HM0.out;have HRW:=O HR.out;have HRBW:=O HRB.out;have HMMW:=O HMM.out
 go_loopw [8,41] (fun c i wr=>∃(k:Nat) (Bk:Nat->Prop),k≤n/\i=.int .i64 k/\c=.int .i64 k/\Hid (MPI w3 wr a B Bk D Z Mm nw k l b)) (fun _ i _=>n-(intOf i).toNat)
 case atStart=>exact⟨0,B,by omega,rfl,rfl,H0⟩
 case round =>
  clear H0 HL HA;obtain⟨k,Bk,hk,rfl,rfl,HI⟩:=hrel
  by_cases hk8:k<n
  ·obtain⟨x,hx⟩:∃x,l[k]?=some x:=⟨l[k]'(by rw[HN.out];exact hk8),List.getElem?_eq_getElem _⟩
   obtain⟨d,s,rfl,hd,hs5,hsZ⟩:=lH (HLP.out x (List.mem_of_getElem? hx));have HKW:=O HI.out.keep;have hrr:=HRW.out.keep HKW.out HV.out;rw[←HN.out] at hrr;obtain⟨g,o,cap',hv,hat⟩:=mD hrr hx;obtain rfl:oa=some ⟨g,o,none⟩:=by cases hv;rfl
   have HX:=O hat;have HXX:=O hx;have hnB:¬Bk g2:=fun e=>(HI.out.grow g2 e).elim (HVB.out g2 rfl) (by omega)
   have hnm:¬Bk m:=fun e=>(HI.out.grow m e).elim hmB (by omega)
   have HRB2:=O (HRBW.out.keep HKW.out HVB.out);have HMM2:Hid (eM wr m a):=O (HKW.out.blk HMMW.out hmB);have HAW:=O HI.out.arr;have HL:=O (Loc.nil Bk Bk wr);have hk0:(0:Int)≤(k:Int):=by omega
   have hk1:(k:Int)<(n:Int):=by omega
   have hnk:nw+k<100000000000:=by omega
   clear hx hrr hat hv
   go_wp2_with ((with_reducible show WL _ _);first
    | refine wpList_load_mid rfl 49 (.tmp 43) rfl g (o+k*2) rfl (aN ⟨(d:Int),(s:Int)⟩) _ HX.out bX rfl (by rw[bA];exact iN) ?_
    | refine al 49 (.agg jC.toArray) (jC.toArray) tH ?_)
   intro b10 w4 hbs hk0 hb0_
   go_wp2_with ((with_reducible show WL _ _);refine sta 49 (.tmp 10) (.tmp 44) b10 0 (aN ⟨(d:Int),(s:Int)⟩) hb0_ (by first|decide|(rw[List.size_toArray,bA];exact Nat.le_refl _)|simp[bA]) (by rw[bA];exact iN) (bH _) ?_)
   intro w5 hk hb;rw[aG _ _ (by first|rfl|(rw[List.size_toArray,bA];rfl)|simp[bA])] at hb;replace hk:=hk0.trans' hk (U:=aB) (fun _ _ h=>h) (fun i hi e=>by omega);replace HL:=O (HL.out.new (fun _ hk=>HAW.out.lt hk) hbs hk hb);replace HX:=O (hk.rangeAt HX.out);replace HAW:=O (HAW.out.keep0 hk);replace HMM2:=O (hk.blk HMM2.out id);replace HRB2:=O (HRB2.out.keep hk fun _ _=>id);clear hbs hk hb hk0 hb0_;clear HX;go_wp2_with fail;obtain⟨S,hS0⟩:∃S:World->Prop,S=fun w'=>aA Bk w5.drew w':=⟨_,rfl⟩
   have HSE:=O (show ∀w',S w'->aA Bk w5.drew w' from fun w' h=>by rw[hS0] at h;exact h);have HSI:=O (show ∀w',aA Bk w5.drew w'->S w' from fun w' h=>by rw[hS0];exact h);have hS:S w5.drew:=by rw[hS0];exact aA.refl _ _
   have hkd:=(aA.refl aB w5).drew;clear hS0;refine wp_region_held (S:=S) (by kernel_rfl) ?_;change wpAnyH _ _ _ _ _ _ _ _ w5.drew;generalize w5.drew=w6 at HSE HSI hS hkd ⊢;replace HL:=O (HL.out.keeps hkd);replace HAW:=O (HAW.out.keep0 hkd);replace HMM2:=O (hkd.blk HMM2.out id);replace HRB2:=O (HRB2.out.keep hkd fun _ _=>id);clear hkd;have HLs:=HL;have HAWs:=HAW;have HMM2s:=HMM2;have HRB2s:=HRB2;refine tna 0 (.pointer (some ⟨m,0,none⟩)) rfl hS ?_;refine tnb 1 (.pointer (some ⟨m,0,none⟩)) rfl hS ?_;refine tnb 2 (.pointer (some ⟨m,0,none⟩)) rfl hS ?_;refine tnd 3 (.pointer (some ⟨a,0,none⟩)) rfl (.inl ⟨by rfl,fun w' hw'=>by have c:World.cell? w' ⟨m,0,none⟩=some (.pointer (some ⟨a,0,none⟩)):=(HSE.out w' hw').cell (eM.c0 HMM2s.out) hnm;go_simp⟩) hS ?_;refine tnb 4 (.pointer (some ⟨b10,0,none⟩)) rfl hS ?_;refine tnd 5 (.int .i64 (d:Int)) rfl (.inl ⟨by rfl,fun w' hw'=>by have c:World.cell? w' ⟨b10,0,none⟩=some (.int .i64 (d:Int)):=(aC (i:=0) ((HSE.out w' hw').blk (HLs.out.b 0) ((HLs.out.aq 0))) rfl);go_simp⟩) hS ?_;refine tnb 6 (.pointer (some ⟨b10,1,none⟩)) rfl hS ?_;refine tnd 7 (.int .i64 (s:Int)) rfl (.inl ⟨by rfl,fun w' hw'=>by have c:World.cell? w' ⟨b10,1,none⟩=some (.int .i64 (s:Int)):=(aC (i:=1) ((HSE.out w' hw').blk (HLs.out.b 0) ((HLs.out.aq 0))) rfl);go_simp⟩) hS ?_;refine tna 8 (.slice (some ⟨g2,o2,none⟩) 256 c2) rfl hS ?_;refine wA9 9 ?_;go_wp2_with fail;refine(rR HAW.out hd hsZ b hbl _ HRB2.out (fun i hi=>by cases hi;exact hnB) hnk).mono ?_;rintro e w7 ⟨rfl,B2,ha2,hg2,hk2⟩;have hS1:=HSI.out _ ((HSE.out _ hS).trans hk2);have hkk:=HI.out.keep.trans' ((HL.out.keep).trans hk2) (U:=B) (fun _ _ h=>h) (fun i hi e=>(HI.out.grow i e).elim id (fun h=>absurd hi (by omega)));have HI2:Hid (MPI w3 w7 a B B2 D Z Mm nw (k+1) l b):=O ⟨by rw[List.take_add_one,HXX.out];show bI _ _ _ _ _ (kQ b (l.take k++[⟨(d:Int),(s:Int)⟩]) Mm) _;rw[AU];exact ha2,fun i hi=>(hg2 i hi).elim (fun h=>HI.out.grow i h) (fun h=>.inr (Nat.le_trans (Nat.le_trans HI.out.keep.size HL.out.keep.size) h)),hkk⟩;clear ha2 hg2 hk2 hkk hS;go_wp2_with fail;refine⟨hS1,?_⟩;refine wpAnyH_done (by kernel_rfl) ?_ _;clear hS1 HSE HSI HLs HAWs HMM2s HRB2s;clear HL HAW HMM2 HRB2;go_wp2_with fail
   go_roundw
   case rel=>exact⟨k+1,_,by omega,by go_num,by go_num,HI2⟩
   case measure=>simp[intOf];omega
  ·obtain rfl:n=k:=by omega
   have HP:Hid (pB w a B D Z Mm nw l b (.returned (.tuple #[.int .i64 (n:Int),.int .i64 0])) wr):=O (by
    have h:=HI.out;refine⟨by rw[HN.out],Bk,?_,fun i hi=>(h.grow i hi).imp id fun h=>by omega,HK0.out.any.trans h.keep⟩;have ha:=h.arr;rw[List.take_of_length_le (by rw[HN.out];exact Nat.le_refl _)] at ha;rw[HN.out];exact ha)
   clear HI;go_wp2_with fail;refine(JX wr n (by omega)).mono ?_;rintro e w2 ⟨rfl,hk2⟩;have HP2:=O (HP.out.keep hk2);clear hk2 HP;go_wp2_with fail
   go_ret2
   exact HP2.out
theorem J0:Tryz.prog.underlying 294=some (.struct (Tryz.prog.fieldsOf 294)):=by kernel_rfl
theorem wR:(Tryz.prog.info? 294).map (·.size)=some 2:=by kernel_rfl
theorem J4(p:Option Addr)(n c:Nat)(w:World):(Instr.build 294 #[(0,.int .i64 0),(1,.slice p n c)]).run Tryz.prog w=.ok (.agg #[.int .i64 0,.slice p n c]) w:=by kernel_rfl
def C1(w:World)(b:List UInt8)(e:Ending)(w':World):Prop:=∃v,e=.returned (.agg #[.int .i64 0,v])/\w'.ownsRow w.heap.size 5 1 v 256 (b.map vb)/\aA aB w w'
theorem J5{w:World}{m a D Z nw:Nat}{B:Nat->Prop}{Mm:Nat->Nat->List UInt8}(h:bI w a B D Z Mm nw)(hm:eM w m a){d s:Nat}(hd:d<D)(hs:s<Z)(sum:List UInt8)(hsum:sum=cS (Mm d s)) :
 Calls Tryz.prog 236 #[.pointer (some ⟨m,0,none⟩),.agg (aN ⟨(d:Int),(s:Int)⟩).toArray,.agg (sum.map vb).toArray] w (C1 w (Mm d s)):=by
 have hml:=h.len hd hs;have hsl:sum.length=32:=by rw[hsum,dS]
 have HNE:Hid (∀w,(binOp .neq 33 (.agg ((cS (Mm d s)).map vb).toArray) (.agg (sum.map vb).toArray)).run Tryz.prog w=.ok (.bool false) w):=O (fun w=>by
  have:=EL (Jj (cS (Mm d s)) sum (by rw[dS]) hsl w);rw[this,decide_eq_true hsum.symm];rfl)
 obtain⟨sc,hsce⟩:∃l,sum.map vb=l:=⟨_,rfl⟩
 have hsc:sc.length=32:=by rw[←hsce,List.length_map,hsl]
 have HOS:Hid (∀u∈sc,u.oneCell'=true):=O (by rw[←hsce];exact bK _);rw[hsce] at HNE ⊢;obtain⟨dg,hdg⟩:∃l,(cS (Mm d s)).map vb=l:=⟨_,rfl⟩
 rw[hdg] at HNE;have HDG:=O hdg;have HA:=O h;have HMM:=O hm;have HML:=O hml;have HL:=O (Loc.nil aB aB w);have HK0:=O (aA.refl aB w);have hbC:=J4;clear h hm hml hsce hdg hsum hsl;go_enter Tryz.func236,Tryz.ntmps236
 go_wp2_with ((with_reducible show WL _ _);refine bxL HL 49 (.tmp 1) ((aN ⟨(d:Int),(s:Int)⟩).toArray) ?_)
 intro b4 w1 hk HL;replace HA:=O (HA.out.keep0 hk);replace HMM:=O (hk.blk HMM.out id);clear hk
 go_wp2_with ((with_reducible show WL _ _);refine bxL HL 33 (.tmp 2) (sc.toArray) ?_)
 intro b5 w2 hk HL;replace HA:=O (HA.out.keep0 hk);replace HMM:=O (hk.blk HMM.out id);clear hk
 go_wp2_with ((with_reducible show WL _ _);refine alL HL 294 (.agg #[.int .i64 0,.slice none 0 0]) (#[.int .i64 0,.slice none 0 0]) C0 ?_)
 intro b6 w3 hk HL;replace HA:=O (HA.out.keep0 hk);replace HMM:=O (hk.blk HMM.out id);clear hk;go_wp2_with fail;obtain⟨S,hS0⟩:∃S:World->Prop,S=fun w'=>aA aB w3.drew w':=⟨_,rfl⟩
 have HSE:=O (show ∀w',S w'->aA aB w3.drew w' from fun w' h=>by rw[hS0] at h;exact h);have HSI:=O (show ∀w',aA aB w3.drew w'->S w' from fun w' h=>by rw[hS0];exact h);have hS:S w3.drew:=by rw[hS0];exact aA.refl _ _
 have hkd:=(aA.refl aB w3).drew;clear hS0;refine wp_region_held (S:=S) (by kernel_rfl) ?_;change wpAnyH _ _ _ _ _ _ _ _ w3.drew;generalize w3.drew=w4 at HSE HSI hS hkd ⊢;replace HL:=O (HL.out.keeps hkd);replace HA:=O (HA.out.keep0 hkd);replace HMM:=O (hkd.blk HMM.out id);clear hkd;have HLs:=HL;have HAs:=HA;have HMMs:=HMM;refine tna 0 (.pointer (some ⟨m,0,none⟩)) rfl hS ?_;refine tnb 1 (.pointer (some ⟨m,0,none⟩)) rfl hS ?_;refine tnb 2 (.pointer (some ⟨m,0,none⟩)) rfl hS ?_;refine tnd 3 (.pointer (some ⟨a,0,none⟩)) rfl (.inl ⟨by rfl,fun w' hw'=>by have c:World.cell? w' ⟨m,0,none⟩=some (.pointer (some ⟨a,0,none⟩)):=(HSE.out w' hw').cell (eM.c0 HMMs.out) id;go_simp⟩) hS ?_;refine tnb 4 (.pointer (some ⟨b4,0,none⟩)) rfl hS ?_;refine tnd 5 (.int .i64 (d:Int)) rfl (.inl ⟨by rfl,fun w' hw'=>by have c:World.cell? w' ⟨b4,0,none⟩=some (.int .i64 (d:Int)):=(aC (i:=0) ((HSE.out w' hw').blk (HLs.out.b 2) id) rfl);go_simp⟩) hS ?_;refine tnb 6 (.pointer (some ⟨b4,1,none⟩)) rfl hS ?_;refine tnd 7 (.int .i64 (s:Int)) rfl (.inl ⟨by rfl,fun w' hw'=>by have c:World.cell? w' ⟨b4,1,none⟩=some (.int .i64 (s:Int)):=(aC (i:=1) ((HSE.out w' hw').blk (HLs.out.b 2) id) rfl);go_simp⟩) hS ?_;refine wA9 8 ?_;go_wp2_with fail;have HB6:=O (HL.out.lt 0).2;have HB6g:=O (HL.out.lt 0).1;refine(M9 HA.out hd hs).mono ?_;rintro e w5 ⟨v0,rfl,ho,hk⟩;have hS1:=HSI.out _ ((HSE.out _ hS).trans hk);replace HL:=O (HL.out.keeps hk);replace HA:=O (HA.out.keep0 hk);replace HMM:=O (hk.blk HMM.out id);clear hS hk;obtain⟨pv,cv,rfl,-,-⟩:=(Rd.of_owns ho).form;have HO:=O ho;have HSZ:=O (Nat.le_of_lt (Nat.lt_of_le_of_lt HB6g.out HB6.out));have hb6:b6<w4.heap.size:=HB6.out;clear ho;go_wp2_with fail;refine⟨hS1,?_⟩;refine tna 9 (.tuple #[.slice pv 256 cv,.int .i64 0]) rfl hS1 ?_;refine tnb 10 (.slice pv 256 cv) rfl hS1 ?_;refine tnb 11 (.int .i64 0) rfl hS1 ?_;refine tna 12 (.slice pv 256 cv) rfl hS1 ?_;refine tna 13 (.int .i64 0) rfl hS1 ?_;refine wpAnyH_done (by kernel_rfl) ?_ _;clear hS1 HSE HSI HLs HAs HMMs;clear HA HMM;go_wp2_with fail;obtain⟨S,hS0⟩:∃S:World->Prop,S=fun w'=>aA aB w5.drew w':=⟨_,rfl⟩
 have HSE:=O (show ∀w',S w'->aA aB w5.drew w' from fun w' h=>by rw[hS0] at h;exact h);have HSI:=O (show ∀w',aA aB w5.drew w'->S w' from fun w' h=>by rw[hS0];exact h);have hS:S w5.drew:=by rw[hS0];exact aA.refl _ _
 have hkd:=(aA.refl aB w5).drew;clear hS0;refine wp_region_held (S:=S) (by kernel_rfl) ?_;change wpAnyH _ _ _ _ _ _ _ _ w5.drew;generalize w5.drew=w6 at HSE HSI hS hkd ⊢;replace HL:=O (HL.out.keeps hkd);replace HO:=O (hkd.owns HO.out fun _ _=>id);clear hkd;have HLs:=HL;have HOs:=HO;refine tna 0 (.slice pv 256 cv) rfl hS ?_;refine tnd 2 (.agg sc.toArray) rfl (yieldsIf_load_mid (by rfl) 33 (.tmp 5) rfl b5 0 rfl sc _ (fun w' h=>aD ((HSE.out w' h).blk (HLs.out.b 1) id)) Tryz.underlying33 rfl (by rw[hsc];exact wH)) hS ?_;refine wA9 1 ?_;go_wp2_with fail;refine(zQ _ (Mm d s) w6 (by rw[HML.out];exact Rd.of_owns HO.out) (by rw[HML.out];decide)).mono ?_;rintro e w7 ⟨rfl,hk⟩;have hS1:=HSI.out _ ((HSE.out _ hS).trans hk);replace HL:=O (HL.out.keeps hk);replace HO:=O (hk.owns HO.out fun _ _=>id);clear hS hk;rw[HDG.out];go_wp2_with fail;refine⟨hS1,?_⟩;refine tnd 3 (.bool false) rfl (wC (by rfl) 33 (.tmp 39) (.tmp 40) 33 rfl dg.toArray sc.toArray rfl rfl Lo HNE.out) hS1 ?_;refine tna 4 (.bool false) rfl hS1 ?_;refine wpAnyH_done (by kernel_rfl) ?_ _;clear hS1 HSE HSI HLs HOs
 go_wp2_with ((with_reducible show WL _ _);refine sta 294 (.tmp 6) (.tmp 48) b6 0 ([.int .i64 0,.slice pv 256 cv]) (HL.out.b 0) (by first|decide|(rw[rfl];exact Nat.le_refl _)|simp[]) wR (by intro v hv;simp only[List.mem_cons,List.not_mem_nil,or_false] at hv;rcases hv with rfl|rfl<;>rfl) ?_)
 intro w8 hk hb;rw[aG _ _ (by first|rfl|simp[])] at hb;replace HL:=O (HL.out.set 0 hk hb);replace HO:=O (hk.owns HO.out fun i hi e=>by have:=aR HO.out hi;omega);clear hk hb;have HP:Hid (C1 w (Mm d s) (.returned (.agg #[.int .i64 0,.slice pv 256 cv])) w8):=O ⟨_,rfl,aP HO.out (HSZ.out),HL.out.keep⟩;have HB:=O (HL.out.b 0);clear HO HL;go_wp2_with fail;refine bodyPost_ret (results_cell_row rfl _ _ b6 _ _ _ _ rfl HB.out J0 rfl wR) rfl ?_;exact HP.out
def yO(x0:Ad)(x:Option Addr×Nat):Array Value:=#[.agg (aN x0).toArray,.agg #[.int .i64 0,.slice x.1 256 x.2]]
def CpR(bs:List UInt8)(x:Option Addr×Nat)(A B:World):Prop:=aA aB A B/\B.ownsRow A.heap.size 5 1 (.slice x.1 256 x.2) 256 (bs.map vb)
theorem DP{w:World}{m a D Z nw b3 b4 b5:Nat}{B Res:Nat->Prop}{Mm:Nat->Nat->List UInt8}(h:bI w a B D Z Mm nw)(hm:eM w m a)(pv:Value)(p:Pt)(hp:PtV w pv p){d s:Nat}{rest:List Ad}(hpa:p.addrs=⟨(d:Int),(s:Int)⟩::rest)(hd:d<D)(hs:s<Z)(hsum:p.sum=cS (Mm d s))
 (h4:w.heap[b4]?=some (.cells (aE pv p).toArray 35 (0,0))) (h5:w.heap[b5]?=some (.cells #[.int .i64 (-1)] 3 (0,0))) (h3:w.heap[b3]?=some (.cells #[.pointer (some ⟨m,0,none⟩)] 59 (0,0))) (hRes:∀k,Res k->k<w.heap.size/\k≠b3/\k≠b4/\k≠b5) (n:Nat) :
 ∀(l:Nat) (Jx:Option Addr×Nat->World->Prop) (W:World),aA aB w W->(∀x W1,CpR (Mm d s) x W W1->YieldAt Fence.wide (n-1) Tryz.prog l (yO ⟨(d:Int),(s:Int)⟩ x) W1 fun e W'=>e=.returned (.bool false)/\Jx x W'/\KpC Res W1 W') ->
  CallsIn Fence.wide n Tryz.prog 235 (#[.func (.yield l) #[] #[]]++#[.pointer (some ⟨b4,0,none⟩),.pointer (some ⟨b5,0,none⟩),.pointer (some ⟨b3,0,none⟩)]) W fun e W'=>(∃v,e=.returned v)/\∃x,Jx x W':=by
 intro l Jx W hk hy;obtain⟨oa,ca,rfl,-,-⟩:=hp.rd.form;have hrd:=(hp.keep hk fun _ _=>id).rd;obtain⟨g,o,cap',hv,hat⟩:=mD hrd (k:=0) (x:=⟨(d:Int),(s:Int)⟩) (by rw[hpa];rfl);obtain rfl:oa=some ⟨g,o,none⟩:=by cases hv;rfl
 rw[Nat.zero_mul,Nat.add_zero] at hat;obtain⟨q,hq⟩:∃q,p.addrs.length=q:=⟨_,rfl⟩
 have hq0:0<q:=by rw[←hq,hpa];simp
 have hq1:(0:Int)<(q:Int):=by omega
 have hsl:p.sum.length=32:=hp.sum;rw[hq] at h4;have HX:=O hat;have HD:=O hd;have HZ:=O hs;have HSM:=O hsum;have HSL:=O hsl;have H4:=O (hk.blk h4 id);have H5:=O (hk.blk h5 id);have H3:=O (hk.blk h3 id);have HA:=O (h.keep0 hk);have HMM:Hid (eM W m a):=O (hk.blk hm id);have HY:=O hy;have HR:=O hRes;have HWS:=O hk.size;have c0:W.cell? ⟨b4,0,none⟩=some (.slice (some ⟨g,o,none⟩) q ca):=aC (i:=0) H4.out (by rw[List.getElem?_toArray];rfl);clear h hm hsum hsl h4 h5 h3 hk hy hRes hrd hv hat hp hq;refine callsIn_of_wp Tryz.func235 rfl trivial ?_ rfl;simp only[Tryz.ntmps235,List.size_toArray,List.length_cons,List.length_nil,Nat.reduceAdd,Nat.reduceSub,Array.replicate_succ,Array.replicate_zero,List.push_toArray,List.append_toArray,List.nil_append,List.cons_append]
 gi_wp2
 clear c0
 gi_loopw [10] (fun i wr=>i=.int .i64 0/\Hid (aA aB W wr)) (fun _ _=>0)
 case atStart=>exact⟨rfl,O (aA.refl _ _)⟩
 case round =>
  obtain⟨rfl,HK⟩:=hrel;obtain⟨C,hC⟩:∃C,wr.heap.size=C:=⟨_,rfl⟩
  have hxc:=HK.out.rangeAt HX.out
  gi_wp2_with (first
   | (refine nP rfl 49 (.tmp 12) rfl g o rfl (aN ⟨(d:Int),(s:Int)⟩) _ hxc bX rfl (by rw[bA];exact cE) ?_)
   | (refine nO rfl 49 rfl eE eA #[.int .i64 0,.int .i64 0] rfl ?_)
   | (refine mL rfl 49 (.tmp 6) (.tmp 13) rfl wr.heap.size 0 (aN ⟨(d:Int),(s:Int)⟩) rfl rfl #[.int .i64 0,.int .i64 0] _ (heap_alloc_new _ _) (by rw[bA];simp) (by rw[bA];exact cE) (bH _) ?_;intro w3 hb3 hk3
      rw[aG _ _ (by rw[bA];simp)] at hb3)
   | gi_in)
  have hkw:aA aB wr w3:=((aA.refl aB wr).alloc _).trans' hk3 (fun _ _ h=>h) (fun i hi e=>by omega);have HC0:=O HK.out.size;replace HK:=O (HK.out.trans hkw);clear hk3 hxc hkw;rw[hC] at hb3 HC0 ⊢;have HS0:=O (And.intro hb3 (And.intro (HK.out.blk H4.out id) (And.intro (HK.out.blk H5.out id) (HK.out.blk H3.out id))));clear hb3 hC H4 H5 H3;obtain⟨S,hS0⟩:∃S:World->Prop,S=fun w'=>w'.heap[C]?=some (.cells (aN ⟨(d:Int),(s:Int)⟩).toArray 49 (0,0))/\w'.heap[b4]?=some (.cells (aE (.slice (some ⟨g,o,none⟩) q ca) p).toArray 35 (0,0))/\w'.heap[b5]?=some (.cells #[.int .i64 (-1)] 3 (0,0))/\w'.heap[b3]?=some (.cells #[.pointer (some ⟨m,0,none⟩)] 59 (0,0)):=⟨_,rfl⟩
  have HSE:=O (show ∀w',S w'->_ from fun w' h=>by rw[hS0] at h;exact h);have HSI:=O (show ∀w',_->S w' from fun w' h=>by rw[hS0];exact h);have hS:S w3.drew:=HSI.out _ (by have:=HS0.out;exact this);have hkd:=(aA.refl aB w3).drew;clear hS0 HS0;refine vB (S:=S) (by kernel_rfl) ?_;change dU _ _ _ _ _ _ _ _ _ w3.drew;generalize w3.drew=w4 at hS hkd ⊢;replace HK:=O (HK.out.trans hkd);clear hkd;refine tib 0 (.pointer (some ⟨C,0,none⟩)) rfl hS ?_;refine tid 1 (.int .i64 (d:Int)) rfl (.inl ⟨by rfl,fun w' hw'=>by have c:World.cell? w' ⟨C,0,none⟩=some (.int .i64 (d:Int)):=aC (i:=0) (HSE.out w' hw').1 rfl;go_simp⟩) hS ?_;refine tid 2 (.int .i64 (-1)) rfl (.inl ⟨by rfl,fun w' hw'=>by have c:World.cell? w' ⟨b5,0,none⟩=some (.int .i64 (-1)):=aC (i:=0) (HSE.out w' hw').2.2.1 rfl;go_simp⟩) hS ?_
  refine tid 3 (.bool true) rfl (.inl ⟨by rfl,fun w' hw'=>by
   have e:(d:Int)≠-1:=by omega
   go_simp⟩) hS ?_
  refine tia 4 (.bool true) rfl hS ?_;refine tia 5 (.func (.yield l) #[] #[]) rfl hS ?_;refine tid 6 (.agg (aN ⟨(d:Int),(s:Int)⟩).toArray) rfl (yieldsIf_load_mid (by rfl) 49 (.tmp 6) rfl C 0 rfl (aN ⟨(d:Int),(s:Int)⟩) _ (fun w' h=>aD (HSE.out w' h).1) bX rfl (by rw[bA];exact cE)) hS ?_;refine tid 7 (.pointer (some ⟨m,0,none⟩)) rfl (.inl ⟨by rfl,fun w' hw'=>by have c:World.cell? w' ⟨b3,0,none⟩=some (.pointer (some ⟨m,0,none⟩)):=aC (i:=0) (HSE.out w' hw').2.2.2 rfl;go_simp⟩) hS ?_;refine tid 8 (.agg (aN ⟨(d:Int),(s:Int)⟩).toArray) rfl (yieldsIf_load_mid (by rfl) 49 (.tmp 6) rfl C 0 rfl (aN ⟨(d:Int),(s:Int)⟩) _ (fun w' h=>aD (HSE.out w' h).1) bX rfl (by rw[bA];exact cE)) hS ?_;refine tib 9 (.pointer (some ⟨b4,3,none⟩)) rfl hS ?_;refine tid 10 (.agg (p.sum.map vb).toArray) rfl (yieldsIf_load_mid (by rfl) 33 (.tmp 23) rfl b4 3 rfl (p.sum.map vb) _ (fun w' h=>(dY (aD (HSE.out w' h).2.1)).2.2.2) Tryz.underlying33 rfl (by rw[List.length_map,HSL.out];exact wH)) hS ?_;refine Cx (k:=11) (f:=236) (args:=#[.pointer (some ⟨m,0,none⟩),.agg (aN ⟨(d:Int),(s:Int)⟩).toArray,.agg (p.sum.map vb).toArray]) rfl (by kernel_rfl) (by kernel_rfl) (by kernel_rfl) (by first|rfl|go_simp) (J5 (HA.out.keep0 HK.out) (HK.out.blk HMM.out id) HD.out HZ.out p.sum HSM.out) ?_;rintro e w5 ⟨v0,rfl,ho,hk⟩;obtain⟨pv2,cv,rfl,-,-⟩:=(Rd.of_owns ho).form;have HK5:=O (HK.out.trans hk);have hS1:S w5:=HSI.out _ ⟨hk.blk (HSE.out _ hS).1 id,hk.blk (HSE.out _ hS).2.1 id,hk.blk (HSE.out _ hS).2.2.1 id,hk.blk (HSE.out _ hS).2.2.2 id⟩;have HYY:=O (HY.out (pv2,cv) w5 ⟨HK5.out,aP ho HK.out.size⟩);clear ho hk hS;refine⟨_,rfl,hS1,nrm ?_⟩;refine Bw (k:=12) (l:=l) rfl (by kernel_rfl) (by kernel_rfl) (by kernel_rfl) (by first|rfl|(unfold yO;go_simp;done)|(unfold yO;unfold execOp;simp[Act.put,resolve,invoke,go_sem,Act.eval];done)) HYY.out ?_;rintro e w6 ⟨rfl,hj,hc⟩;have hS2:S w6:=HSI.out _ ⟨hc _ _ _ _ (fun e=>by have:=(HR.out _ e).1;have:=HC0.out;have:=HWS.out;omega) (HSE.out _ hS1).1,hc _ _ _ _ (fun e=>(HR.out _ e).2.2.1 rfl) (HSE.out _ hS1).2.1,hc _ _ _ _ (fun e=>(HR.out _ e).2.2.2 rfl) (HSE.out _ hS1).2.2.1,hc _ _ _ _ (fun e=>(HR.out _ e).2.1 rfl) (HSE.out _ hS1).2.2.2⟩;refine⟨_,rfl,hS2,nrm ?_⟩;refine tib 13 (.bool true) rfl hS2 ?_;refine tia 14 (.bool true) rfl hS2 ?_;refine Cw (by kernel_rfl) ?_ _;have HJ:=O hj;clear hj hc hS1 hS2 HSE HSI HYY
  gi_wp2
  refine bodyPost_ret (results_none rfl _ _ _) rfl ?_;exact⟨⟨_,rfl⟩,_,HJ.out⟩
def LQ(w:World)(m:Nat)(pc:List Value)(e:Ending)(w':World):Prop:=∃b3 b4 b5,e=.returned (.func (.func 235) #[] #[.pointer (some ⟨b4,0,none⟩),.pointer (some ⟨b5,0,none⟩),.pointer (some ⟨b3,0,none⟩)])/\w'.heap[b4]?=some (.cells pc.toArray 35 (0,0))/\w'.heap[b5]?=some (.cells #[.int .i64 (-1)] 3 (0,0))/\w'.heap[b3]?=some (.cells #[.pointer (some ⟨m,0,none⟩)] 59 (0,0))/\(w.heap.size≤b3/\w.heap.size≤b4/\w.heap.size≤b5)/\aA aB w w'
theorem FA(w:World)(m:Nat)(pc:List Value)(hpc:pc.length=35)(h1:∀u∈pc,u.oneCell'=true):Calls Tryz.prog 224 #[.pointer (some ⟨m,0,none⟩),.agg pc.toArray,.int .i64 (-1)] w (LQ w m pc):=by
 have HOP:=O h1;have HL:=O (Loc.nil aB aB w);clear h1;go_enter Tryz.func224,Tryz.ntmps224
 go_wp2_with ((with_reducible show WL _ _);refine bxL HL 59 (.tmp 0) (#[.pointer (some ⟨m,0,none⟩)]) ?_)
 intro b3 w1 hk HL;clear hk
 go_wp2_with ((with_reducible show WL _ _);refine bxL HL 35 (.tmp 1) (pc.toArray) ?_)
 intro b4 w2 hk HL;clear hk
 go_wp2_with ((with_reducible show WL _ _);refine bxL HL 3 (.tmp 2) (#[.int .i64 (-1)]) ?_)
 intro b5 w3 hk HL;clear hk;go_wp2_with fail;go_wp2_with fail;go_ret;exact⟨b3,b4,b5,rfl,HL.out.b 1,HL.out.b 0,HL.out.b 2,⟨(HL.out.lt 2).1,(HL.out.lt 1).1,(HL.out.lt 0).1⟩,HL.out.keep⟩
theorem Loc.put{S B:Nat->Prop}{w0 w:World}{l:List (Nat×Array Value×TypeId)}(h:Loc S B w0 w l){j:Nat}{o o':Obj}(hl:w.heap[j]?=some o)(ho:o.isCells=false)(hj:w0.heap.size≤j):Loc S B w0 (w.putObj j o') l:=by
 have kd:=aA.of_grown (grownBy_putObj' w j o');refine⟨h.keep.trans' kd (fun _ _ h=>h) (fun i hi e=>by cases e;omega),h.ge,h.nd,fun x hx=>?_,h.ap⟩;have h1:=h.at_ x hx;refine kd.blk h1 (fun e=>?_);have e2:j=x.1:=Option.some.inj e;rw[e2,h1] at hl;cases hl
 cases ho
theorem wS{w:World}{j base n sz:Nat}{o o':Obj}{T:TypeId}{v:Value}{cs:List Value}(h:w.ownsRow base T sz v n cs)(hl:w.heap[j]?=some o)(ho:o.isCells=false):(w.putObj j o').ownsRow base T sz v n cs:=
 (aA.of_grown (grownBy_putObj' w j o')).owns h fun k hb e=>by
   cases e
   obtain⟨cur,hc⟩:=aL h hb;rw[hl] at hc;cases hc
   cases ho
theorem Ac{fn:Func}{p q r:Tmp}{tp tq tr:TypeId}(h:fn.results=#[.cell p tp,.cell q tq,.cell r tr])(tmps:Array Value)(P:Program)(w:World)(a b c:Addr)(x y z:Value)
 (h1:tmps.getD p undef=.pointer (some a)) (h2:tmps.getD q undef=.pointer (some b)) (h3:tmps.getD r undef=.pointer (some c)) (hx:(loadVar tp a).run P w=.ok x w) (hy:(loadVar tq b).run P w=.ok y w) (hz:(loadVar tr c).run P w=.ok z w) :
 (results fn tmps).run P w=.ok (.tuple #[x,y,z]) w:=by
 simp only[results,h];simp only[Array.getD_eq_getD_getElem?] at h1 h2 h3;simp[Sem.run_bind,Result.andThen,asAddr,h1,h2,h3,hx,hy,hz]
structure FdI(w0:World)(b6 b7 b8:Nat)(bs:List UInt8)(W:World):Prop where
 v:∃v,W.heap[b6]?=some (.cells #[v] 22 (0,0))/\W.ownsRow w0.heap.size 5 1 v 256 (bs.map vb)
 n:W.heap[b7]?=some (.cells #[.slice none 0 0] 31 (0,0))
 z:W.heap[b8]?=some (.cells #[.int .i64 0] 27 (0,0))
 k:aA aB w0 W
theorem FdI.put{w0 W:World}{b6 b7 b8:Nat}{bs:List UInt8}(h:FdI w0 b6 b7 b8 bs W){j:Nat}{o o':Obj}(hl:W.heap[j]?=some o)(ho:o.isCells=false)(hj:w0.heap.size≤j):FdI w0 b6 b7 b8 bs (W.putObj j o'):=by
 obtain⟨⟨v,h1,h2⟩,h3,h4,h5⟩:=h;have kd:=aA.of_grown (grownBy_putObj' W j o')
 have no:∀{k:Nat}{cs:Array Value}{t:TypeId},W.heap[k]?=some (.cells cs t (0,0))->¬some j=some k:=fun hc e=>by
  cases e;rw[hl] at hc;cases hc;cases ho
 exact⟨⟨v,kd.blk h1 (no h1),wS h2 hl ho⟩,kd.blk h3 (no h3),kd.blk h4 (no h4),h5.trans' kd (fun _ _ h=>h) (fun i hi e=>by cases e;omega)⟩
theorem Hv(T:Array Value)(p q:Tmp)(a b:Value):((#[p,q].zip #[a,b]).foldl (fun(t:Array Value) (x:Tmp×Value)=>match x with|(p,v)=>t.setIfInBounds p v) T)=(T.setIfInBounds p a).setIfInBounds q b:=by simp
def C3(w:World)(bs:List UInt8)(e:Ending)(w':World):Prop:=∃v,e=.returned (.tuple #[v,.slice none 0 0,.int .i64 0])/\w'.ownsRow w.heap.size 5 1 v 256 (bs.map vb)/\aA aB w w'
theorem FB{w:World}{m a D Z nw:Nat}{B:Nat->Prop}{Mm:Nat->Nat->List UInt8}(h:bI w a B D Z Mm nw)(hm:eM w m a)(pv:Value)(p:Pt)(hp:PtV w pv p){d s:Nat}{rest:List Ad}(hpa:p.addrs=⟨(d:Int),(s:Int)⟩::rest)(hd:d<D)(hs:s<Z)(hsum:p.sum=cS (Mm d s)) :
 Calls Tryz.prog 201 #[.pointer (some ⟨m,0,none⟩),.agg (aE pv p).toArray,.int .i64 (-1)] w (C3 w (Mm d s)):=by
 have hpc:=aO (v:=pv) hp.sum;obtain⟨pc,hpcs⟩:∃l,aE pv p=l:=⟨_,rfl⟩
 have HOP:Hid (∀u∈pc,u.oneCell'=true):=O (by rw[←hpcs];obtain⟨oa,ca,rfl,-,-⟩:=hp.rd.form;exact bR p);have HPS:=O hpcs;rw[hpcs] at hpc ⊢;have HA:=O h;have HMM:=O hm;have HPT:=O hp;have HPA:=O hpa;have HD:=O hd;have HZ:=O hs;have HSM:=O hsum;have HL:=O (Loc.nil aB aB w);clear h hm hp hpcs hpa hd hs hsum;refine callsIn_wide.1 (callsIn_of_wp_marks (F:=Fence.wide) (n:=3) Tryz.func201 rfl trivial (wpIn_wide.2 ?_));simp only[Tryz.ntmps201,List.size_toArray,List.length_cons,List.length_nil,Nat.reduceAdd,Nat.reduceSub,Array.replicate_succ,Array.replicate_zero,List.push_toArray,List.append_toArray,List.nil_append,List.cons_append]
 go_wp2_with ((with_reducible show WL _ _);refine bxL HL 35 (.tmp 1) (pc.toArray) ?_)
 intro b4 w1 hk HL;replace HA:=O (HA.out.keep0 hk);replace HMM:=O (hk.blk HMM.out id);replace HPT:=O (HPT.out.keep hk fun _ _=>id);clear hk
 go_wp2_with ((with_reducible show WL _ _);refine alL HL 22 (.slice none 0 0) (#[.slice none 0 0]) Nk ?_)
 intro b6 w2 hk HL;replace HA:=O (HA.out.keep0 hk);replace HMM:=O (hk.blk HMM.out id);replace HPT:=O (HPT.out.keep hk fun _ _=>id);clear hk
 go_wp2_with ((with_reducible show WL _ _);refine alL HL 31 (.slice none 0 0) (#[.slice none 0 0]) Mz ?_)
 intro b7 w3 hk HL;replace HA:=O (HA.out.keep0 hk);replace HMM:=O (hk.blk HMM.out id);replace HPT:=O (HPT.out.keep hk fun _ _=>id);clear hk
 go_wp2_with ((with_reducible show WL _ _);refine alL HL 27 (.int .i64 0) (#[.int .i64 0]) oH ?_)
 intro b8 w4 hk HL;replace HA:=O (HA.out.keep0 hk);replace HMM:=O (hk.blk HMM.out id);replace HPT:=O (HPT.out.keep hk fun _ _=>id);clear hk
 go_wp2_with ((with_reducible show WL _ _);refine alL HL 31 (.slice none 0 0) (#[.slice none 0 0]) Mz ?_)
 intro b9 w5 hk HL;replace HA:=O (HA.out.keep0 hk);replace HMM:=O (hk.blk HMM.out id);replace HPT:=O (HPT.out.keep hk fun _ _=>id);clear hk
 go_wp2_with ((with_reducible show WL _ _);refine wpList_load_mid rfl 35 (.tmp 4) rfl b4 0 rfl pc _ (aD (HL.out.b 4)) aJ rfl (szP9 hpc) ?_)
 have HLQ:=HL;refine(FA w5 m pc hpc HOP.out).mono ?_;rintro e w6 ⟨c3,c4,c5,rfl,h4,h5,h3,hge,hk⟩;replace HL:=O (HL.out.keeps hk);replace HA:=O (HA.out.keep0 hk);replace HMM:=O (hk.blk HMM.out id);replace HPT:=O (HPT.out.keep hk fun _ _=>id);clear hk;have H4:=O h4;have H5:=O h5;have H3:=O h3;have HGE:=O hge;clear h4 h5 h3 hge;go_wp2_with fail;have hwp:=HPS.out;have hgb:=HGE.out;have hbl6:=(HLQ.out.lt 3);have hbl7:=HLQ.out.lt 2;have hbl8:=HLQ.out.lt 1;have H4':Hid (w6.heap[c4]?=some (.cells (aE pv p).toArray 35 (0,0))):=O (by rw[HPS.out];exact H4.out);have HCP:=DP (Res:=fun k=>k=b6\/k=b7\/k=b8) HA.out HMM.out pv p HPT.out HPA.out HD.out HZ.out HSM.out H4'.out H5.out H3.out (fun k hk=>by have:=(HL.out.lt 1).2;have:=(HL.out.lt 2).2;have:=(HL.out.lt 3).2;rcases hk with rfl|rfl|rfl<;>omega) (3-1);have h6s:b6<w6.heap.size:=(HL.out.lt 3).2;have h7s:b7<w6.heap.size:=(HL.out.lt 2).2;have h8s:b8<w6.heap.size:=(HL.out.lt 1).2;have h9s:b9<w6.heap.size:=(HL.out.lt 0).2;have HW:=O HL.out.keep.size;clear HLQ HPT HMM HA H3 H4 H4' H5 hgb hbl6 hbl7 hbl8 hwp;refine wpIn_wide (n:=3).1 ?_;refine Bx rfl (by omega) (gf:=235) rfl trivial (enters_of Tryz.func235 (by kernel_rfl) rfl) (encs:=yO ⟨(d:Int),(s:Int)⟩) (R:=CpR (Mm d s)) (fun _ _ _ h=>h.1) HCP (fun _=>rfl) (FdI w b6 b7 b8 (Mm d s)) (fun W l o hl hI ho hoc o'=>hI.put ho hoc (by have:=HW.out;omega)) ?round ?stop
 case round =>
  rintro l ⟨px,cx⟩ W W1 hk ⟨hk1,ho⟩ hl;replace HL:=O (HL.out.keeps (hk.trans hk1));have HO:=O ho;have hks:=hk.size;have h6w:b6<W.heap.size:=by omega
  have h7w:b7<W.heap.size:=by omega
  have h8w:b8<W.heap.size:=by omega
  have HX:=O (aA.refl aB W1);clear hk hk1 ho HCP;unfold yO;dsimp only;rw[Hv];simp only[List.setIfInBounds_toArray,List.set_cons_zero,List.set_cons_succ];refine wpIn_seq ?_;refine eF (by kernel_rfl) (fun ⟨_,_,h⟩=>h) ?_
  go_wp2_with ((with_reducible show WL _ _);refine al 49 (.agg jC.toArray) (jC.toArray) tH ?_)
  intro b10 w7 hbs hk0 hb0_
  go_wp2_with ((with_reducible show WL _ _);refine sta 49 (.tmp 10) (.tmp 16) b10 0 (aN ⟨(d:Int),(s:Int)⟩) hb0_ (by first|decide|(rw[List.size_toArray,bA];exact Nat.le_refl _)|simp[bA]) (by rw[bA];exact iN) (bH _) ?_)
  intro w8 hk hb;rw[aG _ _ (by first|rfl|(rw[List.size_toArray,bA];rfl)|simp[bA])] at hb;replace hk:=hk0.trans' hk (U:=aB) (fun _ _ h=>h) (fun i hi e=>by omega);replace HL:=O (HL.out.new (fun _ h=>h.elim) hbs hk hb);replace HX:=O (HX.out.trans hk);replace HO:=O (hk.owns HO.out fun _ _=>id);clear hbs hk hb hk0 hb0_;go_wp2_with fail;refine eF (by kernel_rfl) (fun ⟨_,_,h⟩=>h) ?_
  go_wp2_with ((with_reducible show WL _ _);refine al 294 (.agg #[.int .i64 0,.slice none 0 0]) (#[.int .i64 0,.slice none 0 0]) C0 ?_)
  intro b11 w9 hbs hk0 hb0_
  go_wp2_with ((with_reducible show WL _ _);refine sta 294 (.tmp 11) (.tmp 17) b11 0 ([.int .i64 0,.slice px 256 cx]) hb0_ (by first|decide|(rw[List.size_toArray,rfl];exact Nat.le_refl _)|simp[]) wR (by intro v hv;simp only[List.mem_cons,List.not_mem_nil,or_false] at hv;rcases hv with rfl|rfl<;>rfl) ?_)
  intro wa hk hb;rw[aG _ _ (by first|rfl|(rw[List.size_toArray,rfl];rfl)|simp[])] at hb;replace hk:=hk0.trans' hk (U:=aB) (fun _ _ h=>h) (fun i hi e=>by omega);replace HL:=O (HL.out.new (fun _ h=>h.elim) hbs hk hb);replace HX:=O (HX.out.trans hk);replace HO:=O (hk.owns HO.out fun _ _=>id);clear hbs hk hb hk0 hb0_;go_wp2_with fail;refine⟨eR HX.out (fun _ _ _ h=>h.elim),KpC.of HX.out (fun _ h=>h.elim),fun o o' hoo hoc=>?_⟩;have hlw:w.heap.size≤l:=by have:=HW.out;omega
  replace HL:=O (HL.out.put (o':=o') hoo hoc hlw);replace HO:=O (wS (o':=o') HO.out hoo hoc);clear HX;generalize World.putObj wa l o'=V at HL HO ⊢;have HLV:=HL;have HX:Hid (aA (fun k=>k=b6\/k=b7\/k=b8) V V):=O (aA.refl _ _);clear hoo hoc;refine wpIn_block ?_;refine wpIn_seq ?_;refine eF (by kernel_rfl) (fun ⟨_,_,h⟩=>h) ?_;have c1:V.cell? ⟨b11,0,none⟩=some (.int .i64 0):=(aC (i:=0) (HL.out.b 0) rfl)
  go_wp2_with fail;clear c1;refine wpIn_block ?_;refine wpIn_seq ?_;refine eF (by kernel_rfl) (fun ⟨_,_,h⟩=>h) ?_;go_wp2_with fail;refine wpIn_cond_true rfl ?_;refine wpIn_seq ?_;go_wp2_with fail;obtain⟨S,hS0⟩:∃S:World->Prop,S=fun w'=>aA (fun k=>k=b6\/k=b7\/k=b8) V.drew w':=⟨_,rfl⟩
  have HSE:=O (show ∀w',S w'->aA (fun k=>k=b6\/k=b7\/k=b8) V.drew w' from fun w' h=>by rw[hS0] at h;exact h);have HSI:=O (show ∀w',aA (fun k=>k=b6\/k=b7\/k=b8) V.drew w'->S w' from fun w' h=>by rw[hS0];exact h);have hS:S V.drew:=by rw[hS0];exact aA.refl _ _
  have hkd:=(aA.refl aB V).drew;clear hS0;refine lB (by kernel_rfl) (by kernel_rfl) (fun ⟨_,_,h⟩=>h) (wpAny_of_held (S:=S) _ _ _ _ ?_);change wpAnyH _ _ _ _ _ _ _ _ V.drew;generalize V.drew=wb at HSE HSI hS hkd ⊢;replace HL:=O (HL.out.keeps hkd);replace HX:=O (HX.out.trans (aA.any hkd));replace HO:=O (hkd.owns HO.out fun _ _=>id);clear hkd;have HLs:=HL;have HXs:=HX;have HOs:=HO;refine tnb 0 (.pointer (some ⟨b11,1,none⟩)) rfl hS ?_;refine tnd 1 (.slice px 256 cx) rfl (.inl ⟨by rfl,fun w' hw'=>by have c:World.cell? w' ⟨b11,1,none⟩=some (.slice px 256 cx):=aC (i:=1) ((HSE.out w' hw').blk (HLs.out.b 0) (fun e=>by rcases e with e|e|e<;>first|exact cH (i:=5) HLs.out.nd rfl 0 (by decide) rfl e|exact cH (i:=4) HLs.out.nd rfl 0 (by decide) rfl e|exact cH (i:=3) HLs.out.nd rfl 0 (by decide) rfl e)) rfl;go_simp⟩) hS ?_;refine tnd 2 (.slice none 0 0) rfl (.inl ⟨by rfl,fun w' hw'=>by have c:World.cell? w' ⟨b9,0,none⟩=some (.slice none 0 0):=aC (i:=0) ((HSE.out w' hw').blk (HLs.out.b 2) (fun e=>by rcases e with e|e|e<;>first|exact cH (i:=5) HLs.out.nd rfl 2 (by decide) rfl e|exact cH (i:=4) HLs.out.nd rfl 2 (by decide) rfl e|exact cH (i:=3) HLs.out.nd rfl 2 (by decide) rfl e)) rfl;go_simp⟩) hS ?_;refine wA9 3 ?_;refine sta 22 (.tmp 6) (.tmp 23) b6 0 ([.slice px 256 cx]) (HL.out.b 5) (by simp) (by kernel_rfl) (one9) ?_;intro wc hk hb;replace hb:wc.heap[b6]?=some (.cells #[.slice px 256 cx] 22 (0,0)):=hb;have hS1:=HSI.out _ ((HSE.out _ hS).trans' hk (fun _ _ h=>h) (fun i hi e=>(.inl e)));clear hS;replace HL:=O (HL.out.set 5 hk hb);replace HX:=O (HX.out.trans' hk (fun _ _ h=>h) (fun i _ e=>by first|exact .inl e|exact .inr (.inl e)|exact .inr (.inr e)));replace HO:=O (hk.owns HO.out fun i hi e=>by have:=aR HO.out hi;omega);clear hk hb;refine wpList_nil ?_;refine⟨hS1,?_⟩;refine wA9 4 ?_;refine sta 31 (.tmp 7) (.tmp 24) b7 0 ([.slice none 0 0]) (HL.out.b 4) (by simp) (by kernel_rfl) (one9) ?_;intro wd hk hb;replace hb:wd.heap[b7]?=some (.cells #[.slice none 0 0] 31 (0,0)):=hb;have hS2:=HSI.out _ ((HSE.out _ hS1).trans' hk (fun _ _ h=>h) (fun i hi e=>(.inr (.inl e))));clear hS1;replace HL:=O (HL.out.set 4 hk hb);replace HX:=O (HX.out.trans' hk (fun _ _ h=>h) (fun i _ e=>by first|exact .inl e|exact .inr (.inl e)|exact .inr (.inr e)));replace HO:=O (hk.owns HO.out fun i hi e=>by have:=aR HO.out hi;omega);clear hk hb;refine wpList_nil ?_;refine⟨hS2,?_⟩;refine wA9 5 ?_;refine sta 27 (.tmp 8) (.const (.int .i64 0)) b8 0 ([.int .i64 0]) (HL.out.b 3) (by simp) (by kernel_rfl) (one9) ?_;intro we hk hb;replace hb:we.heap[b8]?=some (.cells #[.int .i64 0] 27 (0,0)):=hb;have hS3:=HSI.out _ ((HSE.out _ hS2).trans' hk (fun _ _ h=>h) (fun i hi e=>(.inr (.inr (e)))));clear hS2;replace HL:=O (HL.out.set 3 hk hb);replace HX:=O (HX.out.trans' hk (fun _ _ h=>h) (fun i _ e=>by first|exact .inl e|exact .inr (.inl e)|exact .inr (.inr e)));replace HO:=O (hk.owns HO.out fun i hi e=>by have:=aR HO.out hi;omega);clear hk hb;refine wpList_nil ?_;refine⟨hS3,?_⟩;refine wpAnyH_done (by kernel_rfl) ?_ _;clear hS3 HSE HSI HLs HXs HOs;refine wpIn_ret ?_;have HF:Hid (FdI w b6 b7 b8 (Mm d s) we):=O ⟨⟨_,HL.out.b 5,aP HO.out (by have:=HW.out;omega)⟩,HL.out.b 4,HL.out.b 3,HL.out.keep⟩;refine⟨eR HX.out ?_,KpC.of HX.out (fun _ h=>h),HF.out⟩;rintro j o ho (rfl|rfl|rfl)
  ·rw[HLV.out.b 5] at ho;cases ho;rfl
  ·rw[HLV.out.b 4] at ho;cases ho;rfl
  ·rw[HLV.out.b 3] at ho;cases ho;rfl
 case stop =>
  intro D W hDs hI hDd;obtain⟨⟨v,h1,h2⟩,h3,h4,h5⟩:=hI;have hz:w.heap.size≤D:=Nat.le_trans HW.out hDs
  have no:∀{k:Nat}{cs:Array Value}{t:TypeId},W.heap[k]?=some (.cells cs t (0,0))->D≠k:=fun hc e=>by
   cases e;rw[hDd] at hc;cases hc
  have hput:∀{k:Nat}{cs:Array Value}{t:TypeId},W.heap[k]?=some (.cells cs t (0,0))->(W.putObj D (.deferred none)).heap[k]?=some (.cells cs t (0,0)):=fun hc=>(World.putObj_heap_other (by have:=no hc;omega)).trans hc
  obtain⟨av,cv,rfl,-,-⟩:=(Rd.of_owns h2).form;have c6:(W.putObj D (.deferred none)).cell? ⟨b6,0,none⟩=some (.slice av 256 cv):=aC (i:=0) (hput h1) rfl;have c7:(W.putObj D (.deferred none)).cell? ⟨b7,0,none⟩=some (.slice none 0 0):=aC (i:=0) (hput h3) rfl;have c8:(W.putObj D (.deferred none)).cell? ⟨b8,0,none⟩=some (.int .i64 0):=aC (i:=0) (hput h4) rfl;have HP:Hid (C3 w (Mm d s) (.returned (.tuple #[.slice av 256 cv,.slice none 0 0,.int .i64 0])) (W.putObj D (.deferred none))):=O ⟨_,rfl,wS h2 hDd rfl,h5.trans' (aA.of_grown (grownBy_putObj' W D _)) (fun _ _ h=>h) (fun i hi e=>by cases e;omega)⟩;clear h1 h2 h3 h4 h5 no hput;show bodyPostM _ _ _ _ _ .ret _ _;refine⟨by simp,.inl ⟨_,_,rfl,run_takeDeferred hDd,?_⟩⟩;refine⟨_,Ac rfl _ _ _ ⟨b6,0,none⟩ ⟨b7,0,none⟩ ⟨b8,0,none⟩ (.slice av 256 cv) (.slice none 0 0) (.int .i64 0) rfl rfl rfl (by go_simp) (by go_simp) (by go_simp),HP.out⟩
def fZ(w:World)(bs:List UInt8)(e:Ending)(w':World):Prop:=∃v,e=.returned (.tuple #[v,.int .i64 0])/\w'.ownsRow w.heap.size 5 1 v 256 (bs.map vb)/\aA aB w w'
theorem Hw{w:World}{m a D Z nw:Nat}{B:Nat->Prop}{Mm:Nat->Nat->List UInt8}(h:bI w a B D Z Mm nw)(hm:eM w m a)(pv:Value)(p:Pt)(hp:PtV w pv p)(hmay:p.may=true)(hh:p.hole=false)(hpl:∀x∈p.addrs,dW x D Z) :
 Calls Tryz.prog 200 #[.pointer (some ⟨m,0,none⟩),.agg (aE pv p).toArray] w (aF w (.int .i64 0)):=by
 have hpc:=aO (v:=pv) hp.sum;obtain⟨oa,ca,hpv,-,-⟩:=hp.rd.form;obtain⟨pc,hpcs⟩:∃l,aE pv p=l:=⟨_,rfl⟩
 have HOP:Hid (∀u∈pc,u.oneCell'=true):=O (by rw[←hpcs,hpv];exact bR p);have HPS:=O hpcs;have HP0:Hid (∃r,pc=pv::r):=O ⟨_,hpcs.symm⟩;rw[hpcs] at hpc ⊢;have HA:=O h;have HMM:=O hm;have HPT:=O hp;have HMA:=O hmay;have HH:=O hh;have HPL:=O hpl;have HL:=O (Loc.nil aB aB w);have HK0:=O (aA.refl aB w);clear h hm hp hpcs hmay hh hpl hpv;go_enter Tryz.func200,Tryz.ntmps200
 go_wp2_with ((with_reducible show WL _ _);refine bxL HL 35 (.tmp 1) (pc.toArray) ?_)
 intro b3 w1 hk HL;replace HA:=O (HA.out.keep0 hk);replace HMM:=O (hk.blk HMM.out id);replace HPT:=O (HPT.out.keep hk fun _ _=>id);clear hk;go_wp2_with fail;refine(A1 w1 m a HMM.out).mono ?_;rintro e w2 ⟨rfl,hk⟩;replace HL:=O (HL.out.keeps hk);replace HA:=O (HA.out.keep0 hk);replace HMM:=O (hk.blk HMM.out id);replace HPT:=O (HPT.out.keep hk fun _ _=>id);clear hk
 go_wp2_with ((with_reducible show WL _ _);refine wpList_load_mid rfl 35 (.tmp 3) rfl b3 0 rfl pc _ (aD (HL.out.b 0)) aJ rfl (szP9 hpc) ?_)
 refine((by rw[←HPS.out];exact jP w2 pv p HPT.out:Calls _ _ _ w2 (qS w2 p.may))).mono ?_;rintro e w3 ⟨rfl,hk⟩;replace HL:=O (HL.out.keeps hk);replace HA:=O (HA.out.keep0 hk);replace HMM:=O (hk.blk HMM.out id);replace HPT:=O (HPT.out.keep hk fun _ _=>id);clear hk;rw[HMA.out]
 go_wp2_with ((with_reducible show WL _ _);refine aY (by rfl) 35 (.tmp 3) rfl b3 0 rfl pc _ (aD (HL.out.b 0)) aJ rfl (szP9 hpc) ?_)
 refine((by rw[←HPS.out];exact cJ w3 pv p HPT.out:Calls _ _ _ w3 (aX w3 p.hole))).mono ?_;rintro e w4 ⟨rfl,hk⟩;replace HL:=O (HL.out.keeps hk);replace HA:=O (HA.out.keep0 hk);replace HMM:=O (hk.blk HMM.out id);replace HPT:=O (HPT.out.keep hk fun _ _=>id);clear hk;rw[HH.out];have c1:w4.cell? ⟨b3,0,none⟩=some (pv):=(by obtain⟨r,e⟩:=HP0.out;exact aC (i:=0) (HL.out.b 0) (by rw[e];rfl))
 go_wp2_with fail;clear c1;refine(uA HA.out HMM.out pv p.addrs HPT.out.rd HPL.out).mono ?_;rintro e w5 ⟨rfl,hk⟩;replace HL:=O (HL.out.keeps hk);replace HA:=O (HA.out.keep0 hk);replace HMM:=O (hk.blk HMM.out id);replace HPT:=O (HPT.out.keep hk fun _ _=>id);clear hk;go_wp2_with fail;go_ret;exact aF.of HL.out.keep
theorem J6{w:World}{m a D Z nw:Nat}{B:Nat->Prop}{Mm:Nat->Nat->List UInt8}(h:bI w a B D Z Mm nw)(hm:eM w m a)(pv:Value)(p:Pt)(hp:PtV w pv p)(hmay:p.may=true)(hh:p.hole=false)(hpl:∀x∈p.addrs,dW x D Z){d s:Nat}{rest:List Ad}(hpa:p.addrs=⟨(d:Int),(s:Int)⟩::rest)(hsum:p.sum=cS (Mm d s)) :
 Calls Tryz.prog 156 #[.pointer (some ⟨m,0,none⟩),.agg (aE pv p).toArray] w (fZ w (Mm d s)):=by
 have hdd:d<D/\s<Z:=by
  have:=hpl _ (by rw[hpa];exact List.mem_cons_self ..);obtain⟨d',s',he,h1,h2,h3⟩:=lH this;cases he
  omega
 have hpc:=aO (v:=pv) hp.sum;obtain⟨oa,ca,hpv,-,-⟩:=hp.rd.form;obtain⟨pc,hpcs⟩:∃l,aE pv p=l:=⟨_,rfl⟩
 have HOP:Hid (∀u∈pc,u.oneCell'=true):=O (by rw[←hpcs,hpv];exact bR p);have HPS:=O hpcs;rw[hpcs] at hpc ⊢;have HA:=O h;have HMM:=O hm;have HPT:=O hp;have HMA:=O hmay;have HH:=O hh;have HPL:=O hpl;have HPA:=O hpa;have HSM:=O hsum;have HDD:=O hdd;have HL:=O (Loc.nil aB aB w);clear h hm hp hpcs hmay hh hpl hpv hpa hsum hdd;go_enter Tryz.func156,Tryz.ntmps156
 go_wp2_with ((with_reducible show WL _ _);refine bxL HL 35 (.tmp 1) (pc.toArray) ?_)
 intro b3 w1 hk HL;replace HA:=O (HA.out.keep0 hk);replace HMM:=O (hk.blk HMM.out id);replace HPT:=O (HPT.out.keep hk fun _ _=>id);clear hk
 go_wp2_with ((with_reducible show WL _ _);refine wpList_load_mid rfl 35 (.tmp 3) rfl b3 0 rfl pc _ (aD (HL.out.b 0)) aJ rfl (szP9 hpc) ?_)
 refine((by rw[←HPS.out];exact Hw HA.out HMM.out pv p HPT.out HMA.out HH.out HPL.out:Calls _ _ _ w1 (aF w1 (.int .i64 0)))).mono ?_;rintro e w2 ⟨rfl,hk⟩;replace HL:=O (HL.out.keeps hk);replace HA:=O (HA.out.keep0 hk);replace HMM:=O (hk.blk HMM.out id);replace HPT:=O (HPT.out.keep hk fun _ _=>id);clear hk
 go_wp2_with ((with_reducible show WL _ _);refine wpList_load_mid rfl 35 (.tmp 3) rfl b3 0 rfl pc _ (aD (HL.out.b 0)) aJ rfl (szP9 hpc) ?_)
 have HSZ:=O HL.out.keep.size;refine((by rw[←HPS.out];exact FB HA.out HMM.out pv p HPT.out HPA.out HDD.out.1 HDD.out.2 HSM.out:Calls _ _ _ w2 (C3 w2 (Mm d s)))).mono ?_;rintro e w3 ⟨v0,rfl,ho,hk⟩;obtain⟨av,cv,rfl,-,-⟩:=(Rd.of_owns ho).form;replace HL:=O (HL.out.keeps hk);replace HA:=O (HA.out.keep0 hk);replace HMM:=O (hk.blk HMM.out id);replace HPT:=O (HPT.out.keep hk fun _ _=>id);clear hk;have hsz:=HL.out.keep.size;have HO:=O (aP ho HSZ.out);clear ho hsz;go_wp2_with fail;have HB:=O HL.out.keep
 go_loopw [30] (fun i wr=>i=.int .i64 0/\wr=w3) (fun _ _=>0)
 case atStart=>exact⟨rfl,rfl⟩
 case round =>
  obtain⟨rfl,rfl⟩:=hrel;clear HL HA HMM HPT;go_wp2_with fail
  go_ret2
  exact⟨_,rfl,HO.out,HB.out⟩
end
end Go.Proofs.YthihofpfonfjfaaGreatDoor
