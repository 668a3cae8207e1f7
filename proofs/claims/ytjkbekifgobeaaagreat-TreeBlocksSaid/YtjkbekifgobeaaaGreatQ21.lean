/- A part of the proof. Conditions: those told. -/
import Derived.Test.YtjkbekifgobeaaaGreatQ1
import Derived.Test.YtjkbekifgobeaaaGreatQ10
import Derived.Test.YtjkbekifgobeaaaGreatQ20
namespace Go.Proofs.YtjkbekifgobeaaaGreat
set_option maxHeartbeats 64000000
set_option maxRecDepth 100000
set_option linter.unusedVariables false
section
open Go.RowKit Go.Maps Go.ChangeMaps
structure Kor where
 D:Nat
 Z:Nat
 cp:Nat
 L:List Ad
 M:Nat->Nat->List UInt8
 txg:Int
structure Kor.Bd(S:Kor):Prop where
 d2:2≤S.D
 d8:S.D≤8
 z8:8≤S.Z
 z4:S.Z≤4096
 c1:1≤S.cp
 c3:S.cp≤3
 cD:S.cp≤S.D
 t0:0≤S.txg
 t1:S.txg<2147483648
def kP(b:List UInt8):List Ad->(Nat->Nat->List UInt8)->Nat->Nat->List UInt8
 | [],M=>M
 | a::l,M=>kP b l (iJ M a.dev.toNat a.sec.toNat b)
theorem AB(b:List UInt8)(a:Ad):∀(l:List Ad) (M:Nat->Nat->List UInt8),kP b (l++[a]) M=iJ (kP b l M) a.dev.toNat a.sec.toNat b
 | [],M=>rfl
 | x::l,M=>AB b a l _
theorem D9(b:List UInt8):∀(l:List Ad) (M:Nat->Nat->List UInt8) (d s:Nat),((∃a∈l,d=a.dev.toNat/\s=a.sec.toNat)\/M d s=b)->kP b l M d s=b
 | [],M,d,s,h=>by
   rcases h with⟨a,ha,-⟩|h
   ·cases ha
   ·exact h
 | x::l,M,d,s,h=>by
   refine D9 b l _ d s ?_;rcases h with⟨a,ha,h1,h2⟩|h
   ·rcases List.mem_cons.1 ha with rfl|ha
    ·right;unfold iJ;rw[if_pos ⟨h1,h2⟩]
    ·exact .inl ⟨a,ha,h1,h2⟩
   ·right;unfold iJ;split
    ·rfl
    ·exact h
theorem wG(b:List UInt8):∀(l:List Ad) (M:Nat->Nat->List UInt8) (d s:Nat),(∀a∈l,¬(d=a.dev.toNat/\s=a.sec.toNat))->kP b l M d s=M d s
 | [],M,d,s,h=>rfl
 | x::l,M,d,s,h=>by
   rw[kP,wG b l _ d s fun a ha=>h a (List.mem_cons_of_mem _ ha)];unfold iJ;rw[if_neg (h x (List.mem_cons_self ..))]
def Kor.allUp(S:Kor):List Bool:=List.replicate S.D true
def Kor.put(S:Kor)(lv:Nat)(b:List UInt8):Option (Pt×Kor):=
 match bX (bW S.L S.D S.Z) S.allUp S.cp with
 | none=>none
 | some l=>some (⟨bF S.L S.Z l,S.txg+1,(lv:Int),cZ b⟩,⟨S.D,S.Z,S.cp,S.L++bF S.L S.Z l,kP b (bF S.L S.Z l) S.M,S.txg⟩)
structure Ext(S T:Kor):Prop where
 D:T.D=S.D
 Z:T.Z=S.Z
 cp:T.cp=S.cp
 txg:S.txg≤T.txg
 L:∀a∈S.L,a∈T.L
 M:∀a∈S.L,eC a S.D S.Z->T.M a.dev.toNat a.sec.toNat=S.M a.dev.toNat a.sec.toNat
theorem Ext.refl(S:Kor):Ext S S:=⟨rfl,rfl,rfl,Int.le_refl _,fun _ h=>h,fun _ _ _=>rfl⟩
theorem Ext.trans{S T U:Kor}(h:Ext S T)(k:Ext T U):Ext S U:=
 ⟨k.D.trans h.D,k.Z.trans h.Z,k.cp.trans h.cp,Int.le_trans h.txg k.txg,fun a ha=>k.L a (h.L a ha),fun a ha hp=>(k.M a (h.L a ha) (by rw[h.D,h.Z];exact hp)).trans (h.M a ha hp)⟩
structure jS(S:Kor)(p:Pt)(lv:Nat)(b:List UInt8):Prop where
 may:p.may=true
 ne:p.addrs≠[]
 lev:p.level=(lv:Int)
 sum:p.sum=cZ b
 len:b.length=256
 born:1≤p.birth/\p.birth≤S.txg+1
 lies:∀a∈p.addrs,eC a S.D S.Z/\a∈S.L/\S.M a.dev.toNat a.sec.toNat=b
theorem jS.ext{S T:Kor}{p:Pt}{lv:Nat}{b:List UInt8}(h:jS S p lv b)(e:Ext S T):jS T p lv b:=
 ⟨h.may,h.ne,h.lev,h.sum,h.len,⟨h.born.1,Int.le_trans h.born.2 (Int.add_le_add_right e.txg 1)⟩,fun a ha=>by
  obtain⟨h1,h2,h3⟩:=h.lies a ha;exact⟨by rw[e.D,e.Z];exact h1,e.L a h2,(e.M a h2 h1).trans h3⟩⟩
theorem jS.sl{S:Kor}{p:Pt}{lv:Nat}{b:List UInt8}(h:jS S p lv b):p.sum.length=32:=by rw[h.sum,eA]
theorem jS.ne_hole{S:Kor}{p:Pt}{lv:Nat}{b:List UInt8}(h:jS S p lv b):p.hole=false:=by
 unfold Pt.hole
 have:((p.addrs.length:Int) == 0)=false:=by
  rw[beq_eq_false_iff_ne];intro e;exact h.ne (List.eq_nil_of_length_eq_zero (by omega))
 rw[this,Bool.false_and]
theorem iM:zPt.hole=true:=by decide
theorem wH{S:Kor}(hb:S.Bd){lv:Nat}(hlv:lv≤3){b:List UInt8}(hl:b.length=256){p:Pt}{T:Kor}(h:S.put lv b=some (p,T)) :
 jS T p lv b/\Ext S T/\T.Bd/\T.txg=S.txg/\p.birth=S.txg+1/\(∀a∈p.addrs,a ∉ S.L)/\p.addrs.Nodup/\∃l,bX (bW S.L S.D S.Z) S.allUp S.cp=some l/\T.L=S.L++bF S.L S.Z l/\p.addrs=bF S.L S.Z l:=by
 unfold Kor.put at h;cases hc:bX (bW S.L S.D S.Z) S.allUp S.cp with
 | none=>rw[hc] at h;cases h
 | some l =>
   rw[hc] at h;have h:=Option.some.inj h;injection h with h1 h2
   subst h1 h2;have hbd:2≤S.D/\S.D≤8/\8≤S.Z/\S.Z≤4096:=⟨hb.d2,hb.d8,hb.z8,hb.z4⟩
   have hnew:=fun x hx=>Am hbd hc (x:=x) hx
   obtain⟨-,hlen,hup,hnd,hmem⟩:=eV hc;have hin:∀a∈bF S.L S.Z l,eC a S.D S.Z:=fun a ha=>(yX hbd).1 (hnew a ha).1
   have hup2:upN S.allUp=S.D:=by
    unfold upN Kor.allUp;rw[List.countP_replicate];rfl
   have hlcp:l.length=S.cp:=by
    rw[hlen];unfold kF;rw[hup2];exact Nat.min_eq_left hb.cD
   have hnd2:=Dq hc
   have hdevs:((bF S.L S.Z l).map (·.dev)).Nodup:=by
    unfold bF;rw[List.map_map];have:((fun(x:Ad)=>x.dev) ∘ fun(d:Nat)=>(⟨(d:Int),(bB S.L d S.Z).headD 0⟩:Ad))=fun(d:Nat)=>(d:Int):=rfl
    rw[this];show List.Pairwise _ _;rw[List.pairwise_map];exact hnd.imp fun h e=>h (by exact_mod_cast e)
   refine⟨⟨?_,?_,rfl,rfl,hl,⟨?_,Int.le_refl _⟩,?_⟩,⟨rfl,rfl,rfl,Int.le_refl _,fun a ha=>List.mem_append_left _ ha,?_⟩,⟨hb.d2,hb.d8,hb.z8,hb.z4,hb.c1,hb.c3,hb.cD,hb.t0,hb.t1⟩,rfl,rfl,fun a ha=>(hnew a ha).2.1,hnd2,l,rfl,rfl,rfl⟩
   ·unfold Pt.may pS Pt.numsB
    rw[Bool.or_eq_true];right;have t0:=hb.t0;have t1:=hb.t1;have c1:=hb.c1;have c3:=hb.c3;simp only[Bool.and_eq_true,decide_eq_true_eq,List.all_eq_true,nS];refine⟨⟨⟨⟨fun a ha=>?_,hdevs⟩,by omega⟩,by omega⟩,⟨⟨by omega,by omega⟩,by omega⟩,by omega⟩;obtain⟨h1,h2,h3,h4⟩:=hin a ha;unfold jY;have d8:=hb.d8;have z4:=hb.z4;simp only[Bool.and_eq_true,decide_eq_true_eq];exact⟨⟨⟨h1,by show a.1<8;omega⟩,h3⟩,by show a.2<4096;omega⟩
   ·intro e
    have:=congrArg List.length e;rw[nS] at this;have c1:=hb.c1;simp at this;rw[this] at hlcp;simp at hlcp;omega
   ·have t0:=hb.t0
    show 1≤S.txg+1;omega
   ·exact fun a ha=>⟨hin a ha,List.mem_append_right _ ha,D9 b _ _ _ _ (.inl ⟨a,ha,rfl,rfl⟩)⟩
   ·intro a ha hp
    refine wG b _ _ _ _ fun x hx e=>(hnew x hx).2.1 ?_
    obtain⟨x1,x2,x3,x4⟩:=hin x hx;obtain⟨a1,a2,a3,a4⟩:=hp
    have:x=a:=by
     obtain⟨xd,xs⟩:=x;obtain⟨ad,at2⟩:=a;simp only[] at *;have e1:xd=ad:=by have:=e.1;omega
     have e2:xs=at2:=by have:=e.2;omega
     rw[e1,e2]
    rw[this];exact ha
def dU(lv:Nat)(ps:List Pt):List UInt8:=UInt8.ofNat lv::ps.flatMap dN++List.replicate 67 0
theorem LT{lv:Nat}{p q r s:Pt}(h0:p.sum.length=32)(h1:q.sum.length=32)(h2:r.sum.length=32)(h3:s.sum.length=32):(dU lv [p,q,r,s]).length=256:=by
 unfold dU;simp[fY h0,fY h1,fY h2,fY h3]
inductive Tr where
 | hole:Tr
 | leaf:Pt->List UInt8->Tr
 | node:Pt->(Nat->Tr)->Tr
def Tr.ptr:Tr->Pt
 | .hole=>zPt
 | .leaf p _=>p
 | .node p _=>p
def Tr.isHole:Tr->Bool
 | .hole=>true
 | _=>false
def Tr.kid:Tr->Nat->Tr
 | .node _ k,i=>k i
 | _,_=>.hole
def gT(k:Nat->Tr):List Pt:=[(k 0).ptr,(k 1).ptr,(k 2).ptr,(k 3).ptr]
def fS(k:Nat->Tr):Bool:=(k 0).isHole && (k 1).isHole && (k 2).isHole && (k 3).isHole
def Tr.Ok(S:Kor):Nat->Tr->Prop
 | _,.hole=>True
 | 0,.leaf p b=>jS S p 0 b/\b≠zB
 | 0,.node _ _=>False
 | _+1,.leaf _ _=>False
 | l+1,.node p k=>jS S p (l+1) (dU (l+1) (gT k))/\(∀i,i<4->Tr.Ok S l (k i))/\fS k=false
def Tr.blocks:Nat->Tr->List (List UInt8)
 | l,.hole=>List.replicate (4 ^ l) zB
 | _,.leaf _ b=>[b]
 | 0,.node _ _=>[]
 | l+1,.node _ k=>(k 0).blocks l++(k 1).blocks l++(k 2).blocks l++(k 3).blocks l
def Tr.many:Nat->Tr->Nat
 | _,.hole=>0
 | _,.leaf _ _=>1
 | 0,.node _ _=>0
 | l+1,.node _ k=>(k 0).many l+(k 1).many l+(k 2).many l+(k 3).many l
def eH(k:Nat->Tr)(i:Nat)(t:Tr):Nat->Tr:=fun j=>if j=i then t else k j
def Kor.leaf(S:Kor)(b:List UInt8):Option Tr×Kor:=if b=zB then (some .hole,S) else match S.put 0 b with
 | none=>(none,S)
 | some (p,T)=>(some (.leaf p b),T)
def Kor.lay(S:Kor)(l:Nat)(k:Nat->Tr):Option Tr×Kor:=if fS k then (some .hole,S) else match S.put l (dU l (gT k)) with
 | none=>(none,S)
 | some (p,T)=>(some (.node p k),T)
def fP:Nat->Kor->Tr->Nat->List UInt8->Option Tr×Kor
 | 0,S,_,_,b=>S.leaf b
 | l+1,S,t,n,b=>match fP l S (t.kid (n / 4 ^ l % 4)) n b with
   | (none,T)=>(none,T)
   | (some u,T)=>T.lay (l+1) (eH t.kid (n / 4 ^ l % 4) u)
def iN(cut:Kor->Tr->Int->Int->Option Tr×Kor)(W:Int)(S:Kor)(t:Tr)(f g:Int):Nat->Option ((Nat->Tr)×Bool)×Kor
 | 0=>(some (t.kid,false),S)
 | i+1=>match iN cut W S t f g i with
   | (none,T)=>(none,T)
   | (some (k,ch),T)=>match cut T (t.kid i) (f-i*W) (g-i*W) with
     | (none,U)=>(none,U)
     | (some u,U)=>(some (eH k i u,ch || !(t.kid i).ptr.eqB u.ptr),U)
def cO:Nat->Kor->Tr->Int->Int->Option Tr×Kor
 | 0,S,t,f,g=>if t.isHole || decide (min g 1≤max f 0) then (some t,S) else (some .hole,S)
 | l+1,S,t,f,g=>if t.isHole || decide (min g (4 ^ (l+1))≤max f 0) then (some t,S) else
   if min g (4 ^ (l+1))-max f 0=4 ^ (l+1) then (some .hole,S) else
   match iN (cO l) (4 ^ l) S t (max f 0) (min g (4 ^ (l+1))) 4 with
   | (none,T)=>(none,T)
   | (some (k,ch),T)=>if ch then T.lay (l+1) k else (some t,T)
def Tr.blk:Nat->Tr->Nat->List UInt8
 | 0,.leaf _ b,_=>b
 | 0,.hole,_=>zB
 | 0,.node _ _,_=>zB
 | l+1,.node _ k,i=>(k (i / 4 ^ l % 4)).blk l i
 | _+1,.hole,_=>zB
 | _+1,.leaf _ _,_=>zB
theorem Tr.blk_hole(l i:Nat):Tr.blk l .hole i=zB:=by cases l<;>rfl
theorem Tr.ok_hole(S:Kor)(l:Nat):Tr.Ok S l .hole:=by cases l<;>exact trivial
theorem Tr.Ok.kid{S:Kor}{l:Nat}{t:Tr}(h:Tr.Ok S (l+1) t){i:Nat}(hi:i<4):Tr.Ok S l (t.kid i):=by
 cases t with
 | hole=>exact Tr.ok_hole S l
 | leaf p b=>exact h.elim
 | node p k=>exact h.2.1 i hi
theorem Tr.Ok.blk_succ{S:Kor}{l:Nat}{t:Tr}(h:Tr.Ok S (l+1) t)(i:Nat):t.blk (l+1) i=(t.kid (i / 4 ^ l % 4)).blk l i:=by
 cases t with
 | hole=>exact(Tr.blk_hole l i).symm
 | leaf p b=>exact h.elim
 | node p k=>rfl
theorem Tr.Ok.ext{S T:Kor}(e:Ext S T):∀{l:Nat}{t:Tr},Tr.Ok S l t->Tr.Ok T l t
 | l,.hole,_=>Tr.ok_hole T l
 | 0,.leaf p b,h=>⟨h.1.ext e,h.2⟩
 | 0,.node p k,h=>h
 | l+1,.leaf p b,h=>h
 | l+1,.node p k,h=>⟨h.1.ext e,fun i hi=>Tr.Ok.ext e (h.2.1 i hi),h.2.2⟩
theorem Tr.Ok.sl{S:Kor}{l:Nat}{t:Tr}(h:Tr.Ok S l t):t.ptr.sum.length=32:=by
 cases t with
 | hole=>rfl
 | leaf p b=>cases l with
   | zero=>exact h.1.sl
   | succ l=>exact h.elim
 | node p k=>cases l with
   | zero=>exact h.elim
   | succ l=>exact h.1.sl
theorem Tr.Ok.hole_eq{S:Kor}{l:Nat}{t:Tr}(h:Tr.Ok S l t):t.ptr.hole=t.isHole:=by
 cases t with
 | hole=>exact iM
 | leaf p b=>cases l with
   | zero=>exact h.1.ne_hole
   | succ l=>exact h.elim
 | node p k=>cases l with
   | zero=>exact h.elim
   | succ l=>exact h.1.ne_hole
theorem Tr.Ok.lies{S:Kor}{l:Nat}{t:Tr}(h:Tr.Ok S l t)(hh:t.isHole=false):t.ptr.addrs≠[]/\∀a∈t.ptr.addrs,a∈S.L:=by
 cases t with
 | hole=>cases hh
 | leaf p b=>cases l with
   | zero=>exact⟨h.1.ne,fun a ha=>(h.1.lies a ha).2.1⟩
   | succ l=>exact h.elim
 | node p k=>cases l with
   | zero=>exact h.elim
   | succ l=>exact⟨h.1.ne,fun a ha=>(h.1.lies a ha).2.1⟩
theorem fK{t:Tr}(h:t.isHole=true):t=.hole:=by cases t<;>first|rfl|cases h
theorem xV{k:Nat->Tr}(h:fS k=true){i:Nat}(hi:i<4):k i=.hole:=by
 unfold fS at h;simp only[Bool.and_eq_true] at h;obtain⟨⟨⟨h0,h1⟩,h2⟩,h3⟩:=h;rcases i with _|_|_|_|i
 ·exact fK h0
 ·exact fK h1
 ·exact fK h2
 ·exact fK h3
 ·omega
theorem vI{k:Nat->Tr}(h:fS k=false):∃i,i<4/\(k i).isHole=false:=by
 unfold fS at h;cases h0:(k 0).isHole with
 | false=>exact⟨0,by omega,h0⟩
 | true=>cases h1:(k 1).isHole with
   | false=>exact⟨1,by omega,h1⟩
   | true=>cases h2:(k 2).isHole with
     | false=>exact⟨2,by omega,h2⟩
     | true=>cases h3:(k 3).isHole with
       | false=>exact⟨3,by omega,h3⟩
       | true=>rw[h0,h1,h2,h3] at h;cases h
theorem gO(i l:Nat):i / 4 ^ l % 4<4:=Nat.mod_lt _ (by omega)
theorem tM(i l:Nat):i % 4 ^ (l+1)=i / 4 ^ l % 4*4 ^ l+i % 4 ^ l:=by
 rw[Nat.pow_succ,Nat.mod_mul,Nat.add_comm,Nat.mul_comm]
theorem xW(i n l:Nat):i % 4 ^ (l+1)=n % 4 ^ (l+1)↔i / 4 ^ l % 4=n / 4 ^ l % 4/\i % 4 ^ l=n % 4 ^ l:=by
 have hp:0<4 ^ l:=Nat.pos_of_ne_zero (by simp);have hi:=Nat.mod_lt i hp;have hn:=Nat.mod_lt n hp;rw[tM i l,tM n l];constructor
 ·intro h
  have h1:(i / 4 ^ l % 4*4 ^ l+i % 4 ^ l) / 4 ^ l=(n / 4 ^ l % 4*4 ^ l+n % 4 ^ l) / 4 ^ l:=by rw[h]
  rw[Nat.mul_comm _ (4 ^ l),Nat.mul_comm _ (4 ^ l),Nat.mul_add_div hp,Nat.mul_add_div hp,Nat.div_eq_of_lt hi,Nat.div_eq_of_lt hn,Nat.add_zero,Nat.add_zero] at h1;refine⟨h1,?_⟩;rw[h1] at h;omega
 ·rintro⟨h1,h2⟩
  rw[h1,h2]
theorem Tr.Ok.blk_mod{S:Kor}:∀{l:Nat}{t:Tr},Tr.Ok S l t->∀{i n:Nat},i % 4 ^ l=n % 4 ^ l->t.blk l i=t.blk l n
 | 0,t,h,i,n,e=>by cases t<;>rfl
 | l+1,t,h,i,n,e=>by
   obtain⟨e1,e2⟩:=(xW i n l).1 e;rw[h.blk_succ,h.blk_succ,e1];exact(h.kid (gO n l)).blk_mod e2
theorem Tr.Ok.some_blk{S:Kor}:∀{l:Nat}{t:Tr},Tr.Ok S l t->t.isHole=false->∃i,i<4 ^ l/\t.blk l i≠zB
 | 0,.hole,_,hh=>by cases hh
 | 0,.leaf p b,h,_=>⟨0,by simp,h.2⟩
 | 0,.node p k,h,_=>h.elim
 | l+1,.hole,_,hh=>by cases hh
 | l+1,.leaf p b,h,_=>h.elim
 | l+1,.node p k,h,_=>by
   obtain⟨j,hj,hk⟩:=vI h.2.2;obtain⟨i,hi,hb⟩:=(h.2.1 j hj).some_blk hk;have hp:0<4 ^ l:=Nat.pos_of_ne_zero (by simp)
   have e1:(j*4 ^ l+i) / 4 ^ l % 4=j:=by
    rw[Nat.mul_comm,Nat.mul_add_div hp,Nat.div_eq_of_lt hi,Nat.add_zero,Nat.mod_eq_of_lt hj]
   have e2:(j*4 ^ l+i) % 4 ^ l=i % 4 ^ l:=by rw[Nat.mul_comm,Nat.mul_add_mod]
   refine⟨j*4 ^ l+i,?_,?_⟩
   ·rw[Nat.pow_succ]
    have:j*4 ^ l+4 ^ l≤4 ^ l*4:=by
     have:(j+1)*4 ^ l≤4*4 ^ l:=Nat.mul_le_mul_right _ hj;rw[Nat.succ_mul] at this;omega
    omega
   ·show (k ((j*4 ^ l+i) / 4 ^ l % 4)).blk l (j*4 ^ l+i)≠zB
    rw[e1,(h.2.1 j hj).blk_mod e2];exact hb
def Fr(S:Kor)(u:Tr):Prop:=∀a∈u.ptr.addrs,a ∉ S.L
theorem Fr.hole(S:Kor):Fr S .hole:=fun a ha=>by cases ha
theorem Fr.ext{S T:Kor}{u:Tr}(h:Fr T u)(e:Ext S T):Fr S u:=fun a ha hl=>h a ha (e.L a hl)
theorem oU(p:Pt):p.eqB p=true:=by unfold Pt.eqB;simp
theorem Cw{p q:Pt}(h:p.eqB q=true):p=q:=by
 obtain⟨a,b,c,d⟩:=p;obtain⟨a',b',c',d'⟩:=q;unfold Pt.eqB at h;simp only[Bool.and_eq_true,beq_iff_eq,decide_eq_true_eq] at h;obtain⟨⟨⟨rfl,rfl⟩,rfl⟩,rfl⟩:=h;rfl
theorem Fr.ne{S:Kor}{l:Nat}{t u:Tr}(h:Tr.Ok S l t)(hh:t.isHole=false)(hf:Fr S u):u.ptr.eqB t.ptr=false:=by
 cases e:u.ptr.eqB t.ptr with
 | false=>rfl
 | true =>
   have:=Cw e;obtain⟨h1,h2⟩:=h.lies hh;unfold Fr at hf;rw[this] at hf;cases ha:t.ptr.addrs with
   | nil=>exact absurd ha h1
   | cons a r=>exact absurd (h2 a (by rw[ha];exact List.mem_cons_self ..)) (hf a (by rw[ha];exact List.mem_cons_self ..))
theorem Fr.ne_hole{S T:Kor}{l:Nat}{u:Tr}(h:Tr.Ok T l u)(hh:u.isHole=false):u.ptr.eqB zPt=false:=by
 cases e:u.ptr.eqB zPt with
 | false=>rfl
 | true =>
   have:=Cw e;have h2:=h.hole_eq;rw[this,iM,hh] at h2;cases h2
structure Beh(S T:Kor):Prop where
 ext:Ext S T
 bd:T.Bd
 txg:T.txg=S.txg
theorem Beh.refl{S:Kor}(h:S.Bd):Beh S S:=⟨Ext.refl S,h,rfl⟩
theorem Beh.trans{S T U:Kor}(h:Beh S T)(k:Beh T U):Beh S U:=⟨h.ext.trans k.ext,k.bd,k.txg.trans h.txg⟩
theorem KV{S:Kor}(hb:S.Bd){b:List UInt8}(hl:b.length=256){r:Option Tr}{T:Kor}(h:S.leaf b=(r,T)):Beh S T/\∀u,r=some u->Tr.Ok T 0 u/\(∀i,u.blk 0 i=b)/\Fr S u:=by
 unfold Kor.leaf at h
 by_cases hz:b=zB
 ·rw[if_pos hz] at h
  injection h with h1 h2
  subst h1 h2;refine⟨Beh.refl hb,fun u hu=>?_⟩;cases hu
  exact⟨trivial,fun i=>hz.symm,Fr.hole S⟩
 ·rw[if_neg hz] at h
  cases hp:S.put 0 b with
  | none =>
    rw[hp] at h;injection h with h1 h2
    subst h1 h2;exact⟨Beh.refl hb,fun u hu=>by cases hu⟩
  | some x =>
    obtain⟨p,U⟩:=x;rw[hp] at h;injection h with h1 h2
    subst h1 h2;obtain⟨g1,g2,g3,g4,-,g6,-⟩:=wH hb (by omega) hl hp;refine⟨⟨g2,g3,g4⟩,fun u hu=>?_⟩;cases hu
    exact⟨⟨g1,hz⟩,fun i=>rfl,g6⟩
theorem Ea{S:Kor}{l lv:Nat}{k:Nat->Tr}(hk:∀i,i<4->Tr.Ok S l (k i)):(dU lv (gT k)).length=256:=
 LT (hk 0 (by omega)).sl (hk 1 (by omega)).sl (hk 2 (by omega)).sl (hk 3 (by omega)).sl
theorem GQ{S:Kor}(hb:S.Bd){l:Nat}(hl:l≤2){k:Nat->Tr}(hk:∀i,i<4->Tr.Ok S l (k i)){r:Option Tr}{T:Kor}(h:S.lay (l+1) k=(r,T)):Beh S T/\∀u,r=some u->Tr.Ok T (l+1) u/\(∀i,u.blk (l+1) i=(k (i / 4 ^ l % 4)).blk l i)/\Fr S u:=by
 unfold Kor.lay at h
 by_cases hz:fS k=true
 ·rw[if_pos hz] at h
  injection h with h1 h2
  subst h1 h2;refine⟨Beh.refl hb,fun u hu=>?_⟩;cases hu
  exact⟨trivial,fun i=>by rw[xV hz (gO i l),Tr.blk_hole,Tr.blk_hole],Fr.hole S⟩
 ·rw[if_neg hz] at h
  cases hp:S.put (l+1) (dU (l+1) (gT k)) with
  | none =>
    rw[hp] at h;injection h with h1 h2
    subst h1 h2;exact⟨Beh.refl hb,fun u hu=>by cases hu⟩
  | some x =>
    obtain⟨p,U⟩:=x;rw[hp] at h;injection h with h1 h2
    subst h1 h2;obtain⟨g1,g2,g3,g4,-,g6,-⟩:=wH hb (by omega) (Ea hk) hp;refine⟨⟨g2,g3,g4⟩,fun u hu=>?_⟩;cases hu
    exact⟨⟨g1,fun i hi=>(hk i hi).ext g2,by simpa using hz⟩,fun i=>rfl,g6⟩
theorem jT(k:Nat->Tr)(i:Nat)(t:Tr):eH k i t i=t:=by unfold eH;rw[if_pos rfl]
theorem jU(k:Nat->Tr){i j:Nat}(t:Tr)(h:j≠i):eH k i t j=k j:=by unfold eH;rw[if_neg h]
theorem zJ{b:List UInt8}(hbl:b.length=256)(n:Nat):∀{l:Nat},l≤3->∀{S:Kor}{t:Tr},S.Bd->Tr.Ok S l t->∀{r:Option Tr}{T:Kor},fP l S t n b=(r,T) ->
 Beh S T/\∀u,r=some u->Tr.Ok T l u/\(∀i,u.blk l i=if i % 4 ^ l=n % 4 ^ l then b else t.blk l i)/\Fr S u
 | 0,_,S,t,hb,ht,r,T,h=>by
   obtain⟨h1,h2⟩:=KV hb hbl h;refine⟨h1,fun u hu=>?_⟩;obtain⟨h3,h4,h5⟩:=h2 u hu;exact⟨h3,fun i=>by rw[h4,if_pos (by rw[Nat.pow_zero,Nat.mod_one,Nat.mod_one])],h5⟩
 | l+1,hl,S,t,hb,ht,r,T,h=>by
   unfold fP at h;cases hs:fP l S (t.kid (n / 4 ^ l % 4)) n b with
   | mk r1 T1 =>
     rw[hs] at h;obtain⟨e1,e2⟩:=zJ hbl n (by omega) hb (ht.kid (gO n l)) hs;cases r1 with
     | none =>
       injection h with h1 h2
       subst h1 h2;exact⟨e1,fun u hu=>by cases hu⟩
     | some u1 =>
       obtain⟨o1,o2,o3⟩:=e2 u1 rfl
       have hk:∀i,i<4->Tr.Ok T1 l (eH t.kid (n / 4 ^ l % 4) u1 i):=fun i hi=>by
        by_cases e:i=n / 4 ^ l % 4
        ·rw[e,jT];exact o1
        ·rw[jU _ _ e];exact(ht.kid hi).ext e1.ext
       obtain⟨l1,l2⟩:=GQ e1.bd (by omega) hk h;refine⟨e1.trans l1,fun u hu=>?_⟩;obtain⟨q1,q2,q3⟩:=l2 u hu;refine⟨q1,fun i=>?_,q3.ext e1.ext⟩;rw[q2]
       by_cases e:i / 4 ^ l % 4=n / 4 ^ l % 4
       ·rw[e,jT,o2]
        by_cases e3:i % 4 ^ l=n % 4 ^ l
        ·rw[if_pos e3,if_pos ((xW i n l).2 ⟨e,e3⟩)]
        ·rw[if_neg e3,if_neg fun h=>e3 ((xW i n l).1 h).2,ht.blk_succ,e]
       ·rw[jU _ _ e,if_neg fun h=>e ((xW i n l).1 h).1,ht.blk_succ]
def Kor.room(S:Kor)(N:Nat):Prop:=fL S.allUp S.cp (bW S.L S.D S.Z) N
theorem Cx{S:Kor}{N:Nat}(h:S.room (N+1))(lv:Nat)(b:List UInt8):∃p T,S.put lv b=some (p,T)/\T.room N:=by
 obtain⟨l,h1,h2⟩:=EM h;refine⟨⟨bF S.L S.Z l,S.txg+1,(lv:Int),cZ b⟩,⟨S.D,S.Z,S.cp,S.L++bF S.L S.Z l,kP b (bF S.L S.Z l) S.M,S.txg⟩,?_,?_⟩
 ·unfold Kor.put;rw[h1]
 ·unfold Kor.room
  show fL S.allUp S.cp (bW (S.L++bF S.L S.Z l) S.D S.Z) N;rw[vG h1];exact h2
theorem AC{S:Kor}{N:Nat}(h:S.room (N+1)){b:List UInt8}(hz:b≠zB):∃u T,S.leaf b=(some u,T)/\T.room N/\u.isHole=false:=by
 obtain⟨p,T,h1,h2⟩:=Cx h 0 b;refine⟨.leaf p b,T,?_,h2,rfl⟩;unfold Kor.leaf;rw[if_neg hz,h1]
theorem Cy{S:Kor}{N l:Nat}(h:S.room (N+1)){k:Nat->Tr}(hz:fS k=false):∃u T,S.lay l k=(some u,T)/\T.room N/\u.isHole=false:=by
 obtain⟨p,T,h1,h2⟩:=Cx h l (dU l (gT k));refine⟨.node p k,T,?_,h2,rfl⟩;unfold Kor.lay;rw[hz,h1];rfl
theorem E9{k:Nat->Tr}{i:Nat}(hi:i<4){u:Tr}(hu:u.isHole=false):fS (eH k i u)=false:=by
 cases h:fS (eH k i u) with
 | false=>rfl
 | true =>
   have:=xV h hi;rw[jT] at this;rw[this] at hu;cases hu
theorem AD{b:List UInt8}(hz:b≠zB)(n:Nat):∀(l:Nat){S:Kor}(t:Tr){N:Nat},S.room (N+(l+1))->∃u T,fP l S t n b=(some u,T)/\T.room N/\u.isHole=false
 | 0,S,t,N,h=>AC h hz
 | l+1,S,t,N,h=>by
   have h9:S.room (N+1+(l+1)):=by
    have e:N+1+(l+1)=N+(l+1+1):=by omega
    rw[e];exact h
   obtain⟨u1,T1,h1,h2,h3⟩:=AD hz n l (S:=S) (t.kid (n / 4 ^ l % 4)) (N:=N+1) h9;obtain⟨u,T,h4,h5,h6⟩:=Cy (l:=l+1) h2 (E9 (k:=t.kid) (gO n l) h3);refine⟨u,T,?_,h5,h6⟩;unfold fP;rw[h1];exact h4
theorem zK{cut:Kor->Tr->Int->Int->Option Tr×Kor}{l:Nat}{W f g:Int}{t:Tr}{S:Kor}(hb:S.Bd)(ht:Tr.Ok S (l+1) t){C:Nat->Int->Int->Prop}
 (hcut:∀{S:Kor}{t:Tr}{f g:Int}{r:Option Tr}{T:Kor},S.Bd->Tr.Ok S l t->cut S t f g=(r,T)->Beh S T/\∀u,r=some u->Tr.Ok T l u/\(∀i,u.blk l i=if f≤((i % 4 ^ l:Nat):Int)/\((i % 4 ^ l:Nat):Int)<g then zB else t.blk l i)/\(u=t\/(t.isHole=false/\Fr S u))) :
 ∀(j:Nat),j≤4->∀{r:Option ((Nat->Tr)×Bool)}{T:Kor},iN cut W S t f g j=(r,T) ->
  Beh S T/\∀k ch,r=some (k,ch)->(∀i,i<4->Tr.Ok T l (k i))/\(∀i,j≤i->k i=t.kid i) /\
   (∀i,i<j->∀n,(k i).blk l n=if f-i*W≤((n % 4 ^ l:Nat):Int)/\((n % 4 ^ l:Nat):Int)<g-i*W then zB else (t.kid i).blk l n)/\(ch=false->∀i,i<4->k i=t.kid i)/\(ch=true->t.isHole=false)
 | 0,_,r,T,h=>by
   unfold iN at h;injection h with h1 h2
   subst h1 h2;refine⟨Beh.refl hb,fun k ch hk=>?_⟩;injection hk with hk
   injection hk with h3 h4
   subst h3 h4;exact⟨fun i hi=>ht.kid hi,fun i _=>rfl,fun i hi=>by omega,fun _ i _=>rfl,fun h=>by cases h⟩
 | j+1,hj,r,T,h=>by
   unfold iN at h;cases h1:iN cut W S t f g j with
   | mk r1 T1 =>
     rw[h1] at h;obtain⟨e1,e2⟩:=zK hb ht hcut (C:=C) j (by omega) h1;cases r1 with
     | none =>
       injection h with h2 h3
       subst h2 h3;exact⟨e1,fun k ch hk=>by cases hk⟩
     | some x =>
       obtain⟨k1,c1⟩:=x;obtain⟨a1,a2,a3,a4,a5⟩:=e2 k1 c1 rfl;simp only[] at h;cases h2:cut T1 (t.kid j) (f-j*W) (g-j*W) with
       | mk r2 T2 =>
         rw[h2] at h;obtain⟨b1,b2⟩:=hcut e1.bd ((ht.kid (by omega)).ext e1.ext) h2;cases r2 with
         | none =>
           injection h with h3 h4
           subst h3 h4;exact⟨e1.trans b1,fun k ch hk=>by cases hk⟩
         | some u =>
           injection h with h3 h4
           subst h3 h4;obtain⟨d1,d2,d3⟩:=b2 u rfl;refine⟨e1.trans b1,fun k ch hk=>?_⟩;injection hk with hk
           injection hk with h5 h6
           subst h5 h6;refine⟨fun i hi=>?_,fun i hi=>?_,fun i hi m=>?_,fun hc i hi=>?_,fun hc=>?_⟩
           ·by_cases e:i=j
            ·rw[e,jT];exact d1
            ·rw[jU _ _ e];exact(a1 i hi).ext b1.ext
           ·rw[jU _ _ (by omega)];exact a2 i (by omega)
           ·by_cases e:i=j
            ·subst e;rw[jT];exact d2 m
            ·rw[jU _ _ e];exact a3 i (by omega) m
           ·rw[Bool.or_eq_false_iff] at hc
            by_cases e:i=j
            ·subst e
             rw[jT];rcases d3 with h|⟨h,hf⟩
             ·exact h
             ·have h9:=hc.2
              rw[show (t.kid i).ptr.eqB u.ptr=false from by
               cases e9:(t.kid i).ptr.eqB u.ptr with
               | false=>rfl
               | true =>
                 have h8:=Fr.ne ((ht.kid (by omega)).ext e1.ext) h hf;rw[Cw e9,oU] at h8;cases h8] at h9
              cases h9
            ·rw[jU _ _ e];exact a4 hc.1 i hi
           ·cases t with
            | hole =>
              rw[Bool.or_eq_true] at hc;rcases hc with hc|hc
              ·exact a5 hc
              ·rcases d3 with h|⟨h,hf⟩
               ·rw[h,oU] at hc;cases hc
               ·cases h
            | leaf p b=>rfl
            | node p k=>rfl
theorem uI:∀{l:Nat},l≤3->∀{S:Kor}{t:Tr}{f g:Int}{r:Option Tr}{T:Kor},S.Bd->Tr.Ok S l t->cO l S t f g=(r,T) ->
 Beh S T/\∀u,r=some u->Tr.Ok T l u/\(∀i,u.blk l i=if f≤((i % 4 ^ l:Nat):Int)/\((i % 4 ^ l:Nat):Int)<g then zB else t.blk l i)/\(u=t\/(t.isHole=false/\Fr S u))
 | 0,_,S,t,f,g,r,T,hb,ht,h=>by
   unfold cO at h
   by_cases hc:(t.isHole || decide (min g 1≤max f 0))=true
   ·rw[if_pos hc] at h
    injection h with h1 h2
    subst h1 h2;refine⟨Beh.refl hb,fun u hu=>?_⟩;cases hu
    refine⟨ht,fun i=>?_,.inl rfl⟩;rw[Bool.or_eq_true,decide_eq_true_eq] at hc
    by_cases hi:f≤((i % 4 ^ 0:Nat):Int)/\((i % 4 ^ 0:Nat):Int)<g
    ·rw[if_pos hi]
     rcases hc with hc|hc
     ·rw[fK hc,Tr.blk_hole]
     ·rw[Nat.pow_zero,Nat.mod_one] at hi;omega
    ·rw[if_neg hi]
   ·rw[if_neg hc] at h
    injection h with h1 h2
    subst h1 h2;refine⟨Beh.refl hb,fun u hu=>?_⟩;cases hu
    rw[Bool.or_eq_true,not_or,decide_eq_true_eq] at hc;refine⟨trivial,fun i=>?_,.inr ⟨by simpa using hc.1,Fr.hole S⟩⟩;rw[if_pos (by rw[Nat.pow_zero,Nat.mod_one];omega),Tr.blk_hole]
 | l+1,hl,S,t,f,g,r,T,hb,ht,h=>by
   have hp:0<4 ^ l:=Nat.pos_of_ne_zero (by simp);obtain⟨W,hW⟩:∃W,4 ^ l=W:=⟨_,rfl⟩
   have hW1:4 ^ (l+1)=4*W:=by rw[Nat.pow_succ,hW,Nat.mul_comm]
   unfold cO at h;have e4:(4:Int) ^ (l+1)=((4*W:Nat):Int):=by rw[←hW1];norm_cast
   have e5:(4:Int) ^ l=(W:Int):=by rw[←hW];norm_cast
   rw[e4,e5] at h;rw[hW] at hp
   by_cases hc:(t.isHole || decide (min g ((4*W:Nat):Int)≤max f 0))=true
   ·rw[if_pos hc] at h
    injection h with h1 h2
    subst h1 h2;refine⟨Beh.refl hb,fun u hu=>?_⟩;cases hu
    refine⟨ht,fun i=>?_,.inl rfl⟩;rw[Bool.or_eq_true,decide_eq_true_eq] at hc
    by_cases hi:f≤((i % 4 ^ (l+1):Nat):Int)/\((i % 4 ^ (l+1):Nat):Int)<g
    ·rw[if_pos hi]
     rcases hc with hc|hc
     ·rw[fK hc,Tr.blk_hole]
     ·have:=Nat.mod_lt i (y:=4 ^ (l+1)) (by omega)
      omega
    ·rw[if_neg hi]
   ·rw[if_neg hc] at h
    rw[Bool.or_eq_true,not_or,decide_eq_true_eq] at hc;have hh:t.isHole=false:=by simpa using hc.1
    by_cases hw:min g ((4*W:Nat):Int)-max f 0=((4*W:Nat):Int)
    ·rw[if_pos hw] at h
     injection h with h1 h2
     subst h1 h2;refine⟨Beh.refl hb,fun u hu=>?_⟩;cases hu
     refine⟨trivial,fun i=>?_,.inr ⟨hh,Fr.hole S⟩⟩;have:=Nat.mod_lt i (y:=4 ^ (l+1)) (by omega);rw[if_pos (by omega),Tr.blk_hole]
    ·rw[if_neg hw] at h
     cases hk:iN (cO l) (W:Int) S t (max f 0) (min g ((4*W:Nat):Int)) 4 with
     | mk r1 T1 =>
       rw[hk] at h;obtain⟨e1,e2⟩:=zK hb ht (C:=fun _ _ _=>True) (fun {S t f g r T} hb ht h=>uI (by omega) hb ht h) 4 (by omega) hk;cases r1 with
       | none =>
         injection h with h1 h2
         subst h1 h2;exact⟨e1,fun u hu=>by cases hu⟩
       | some x =>
         obtain⟨k,ch⟩:=x;obtain⟨a1,a2,a3,a4,a5⟩:=e2 k ch rfl;simp only[] at h
         have hblk:∀i,(k (i / 4 ^ l % 4)).blk l i=if f≤((i % 4 ^ (l+1):Nat):Int)/\((i % 4 ^ (l+1):Nat):Int)<g then zB else t.blk (l+1) i:=fun i=>by
          have hd:=gO i l;rw[a3 _ hd,ht.blk_succ,tM i l,hW];have hm:=Nat.mod_lt i hp;obtain⟨d,hde⟩:∃d,i / W % 4=d:=⟨_,rfl⟩
          rw[hW] at hd;rw[hde] at hd ⊢;obtain⟨m,hme⟩:∃m,i % W=m:=⟨_,rfl⟩
          rw[hme] at hm ⊢;have hdw:d*W≤3*W:=Nat.mul_le_mul_right _ (by omega);have hc2:((d:Int)*(W:Int))=((d*W:Nat):Int):=by norm_cast
          rw[hc2];obtain⟨q,hq⟩:∃q,d*W=q:=⟨_,rfl⟩
          rw[hq] at hdw ⊢
          by_cases h9:f≤((q+m:Nat):Int)/\((q+m:Nat):Int)<g
          ·rw[if_pos h9,if_pos (by omega)]
          ·rw[if_neg h9,if_neg (by omega)]
         cases ch with
         | true =>
           rw[if_pos rfl] at h;obtain⟨l1,l2⟩:=GQ e1.bd (by omega) a1 h;refine⟨e1.trans l1,fun u hu=>?_⟩;obtain⟨q1,q2,q3⟩:=l2 u hu;exact⟨q1,fun i=>by rw[q2];exact hblk i,.inr ⟨hh,q3.ext e1.ext⟩⟩
         | false =>
           rw[if_neg (by decide)] at h;injection h with h1 h2
           subst h1 h2;refine⟨e1,fun u hu=>?_⟩;cases hu
           exact⟨ht.ext e1.ext,fun i=>by rw[←hblk i,a4 rfl _ (gO i l),ht.blk_succ],.inl rfl⟩
theorem AE:∀{l:Nat}{S:Kor}{t:Tr}{f g:Int},Tr.Ok S l t->(∀i:Nat,i<4 ^ l->f≤(i:Int)->(i:Int)<g->t.blk l i=zB)->cO l S t f g=(some t,S)
 | 0,S,t,f,g,ht,hz=>by
   unfold cO
   by_cases hc:(t.isHole || decide (min g 1≤max f 0))=true
   ·rw[if_pos hc]
   ·exfalso
    rw[Bool.or_eq_true,not_or,decide_eq_true_eq] at hc;obtain⟨i,hi,hb⟩:=ht.some_blk (by simpa using hc.1);rw[Nat.pow_zero] at hi;exact hb (hz i (by rw[Nat.pow_zero];exact hi) (by omega) (by omega))
 | l+1,S,t,f,g,ht,hz=>by
   have hp:0<4 ^ l:=Nat.pos_of_ne_zero (by simp);obtain⟨W,hW⟩:∃W,4 ^ l=W:=⟨_,rfl⟩
   have hW1:4 ^ (l+1)=4*W:=by rw[Nat.pow_succ,hW,Nat.mul_comm]
   unfold cO;have e4:(4:Int) ^ (l+1)=((4*W:Nat):Int):=by rw[←hW1];norm_cast
   have e5:(4:Int) ^ l=(W:Int):=by rw[←hW];norm_cast
   rw[e4,e5];rw[hW1] at hz
   by_cases hc:(t.isHole || decide (min g ((4*W:Nat):Int)≤max f 0))=true
   ·rw[if_pos hc]
   ·rw[if_neg hc]
    rw[Bool.or_eq_true,not_or,decide_eq_true_eq] at hc;have hh:t.isHole=false:=by simpa using hc.1
    by_cases hw:min g ((4*W:Nat):Int)-max f 0=((4*W:Nat):Int)
    ·exfalso
     obtain⟨i,hi,hb⟩:=ht.some_blk hh;rw[hW1] at hi;exact hb (hz i hi (by omega) (by omega))
    ·rw[if_neg hw]
     have hk:∀j,j≤4->∃k,iN (cO l) (W:Int) S t (max f 0) (min g ((4*W:Nat):Int)) j=(some (k,false),S):=by
      intro j
      induction j with
      | zero=>intro _;exact⟨_,rfl⟩
      | succ j ih =>
        intro hj;obtain⟨k,hk⟩:=ih (by omega);refine⟨eH k j (t.kid j),?_⟩;unfold iN;rw[hk];simp only[];rw[AE (ht.kid (i:=j) (by omega)) (fun i hi h1 h2=>?_)]
        ·simp only[oU,Bool.not_true,Bool.or_false]
        ·have e:t.blk (l+1) (j*W+i)=(t.kid j).blk l i:=by
          rw[hW] at hi;rw[ht.blk_succ,hW,Nat.mul_comm,Nat.mul_add_div (by omega),Nat.div_eq_of_lt hi,Nat.add_zero,Nat.mod_eq_of_lt (by omega)];exact(ht.kid (by omega)).blk_mod (by rw[hW,Nat.mul_add_mod])
         rw[←e];rw[hW] at hi
         have hjw:j*W+W≤4*W:=by
          have:=Nat.mul_le_mul_right W hj;rw[Nat.succ_mul] at this;exact this
         have hc2:((j:Int)*(W:Int))=((j*W:Nat):Int):=by norm_cast
         rw[hc2] at h1 h2;exact hz (j*W+i) (by omega) (by omega) (by omega)
     obtain⟨k,hk4⟩:=hk 4 (by omega);rw[hk4];rfl
def Tr.cnt(l:Nat)(t:Tr):Nat:=(t.blocks l).countP fun b=>decide (b≠zB)
theorem LU(n:Nat):(List.replicate n zB).countP (fun b=>decide (b≠zB))=0:=by
 rw[List.countP_replicate];simp
theorem Tr.Ok.many_eq{S:Kor}:∀{l:Nat}{t:Tr},Tr.Ok S l t->t.cnt l=t.many l
 | l,.hole,h=>by
   unfold Tr.cnt;cases l<;>(show List.countP _ (List.replicate _ zB)=0;exact LU _)
 | 0,.leaf p b,h=>by
   unfold Tr.cnt;show List.countP _ [b]=1;rw[List.countP_singleton,if_pos (by exact decide_eq_true h.2)]
 | 0,.node p k,h=>h.elim
 | l+1,.leaf p b,h=>h.elim
 | l+1,.node p k,h=>by
   have h0:=(h.2.1 0 (by omega)).many_eq;have h1:=(h.2.1 1 (by omega)).many_eq;have h2:=(h.2.1 2 (by omega)).many_eq;have h3:=(h.2.1 3 (by omega)).many_eq;unfold Tr.cnt at *;show List.countP _ ((k 0).blocks l++(k 1).blocks l++(k 2).blocks l++(k 3).blocks l)=(k 0).many l+(k 1).many l+(k 2).many l+(k 3).many l;rw[List.countP_append,List.countP_append,List.countP_append,h0,h1,h2,h3]
theorem Tr.Ok.many_hole{S:Kor}:∀{l:Nat}{t:Tr},Tr.Ok S l t->t.isHole=decide (t.many l=0)
 | 0,.hole,h=>rfl
 | l+1,.hole,h=>rfl
 | 0,.leaf p b,h=>rfl
 | 0,.node p k,h=>h.elim
 | l+1,.leaf p b,h=>h.elim
 | l+1,.node p k,h=>by
   obtain⟨j,hj,hk⟩:=vI h.2.2;have h0:=(h.2.1 j hj).many_hole;rw[hk] at h0;have h1:(k j).many l≠0:=by simpa using h0
   show false=decide ((k 0).many l+(k 1).many l+(k 2).many l+(k 3).many l=0);symm;rw[decide_eq_false_iff_not]
   match j,hj,h1 with
   | 0,_,h1=>omega
   | 1,_,h1=>omega
   | 2,_,h1=>omega
   | 3,_,h1=>omega
theorem LV(W:Nat)(f:Nat->List UInt8):(List.range (4*W)).map f=(List.range W).map f++(List.range W).map (fun i=>f (W+i))++(List.range W).map (fun i=>f (2*W+i))++(List.range W).map (fun i=>f (3*W+i)):=by
 have e:4*W=W+W+W+W:=by omega
 have e2:W+W=2*W:=by omega
 have e3:2*W+W=3*W:=by omega
 rw[e,List.range_add,List.range_add,List.range_add];simp only[List.map_append,List.map_map,Function.comp_def,e2,e3]
theorem Tr.Ok.blocks_eq{S:Kor}:∀{l:Nat}{t:Tr},Tr.Ok S l t->t.blocks l=(List.range (4 ^ l)).map (t.blk l)
 | l,.hole,h=>by
   have:(List.range (4 ^ l)).map (Tr.blk l .hole)=List.replicate (4 ^ l) zB:=by
    rw[List.eq_replicate_iff];refine⟨by simp,fun b hb=>?_⟩;obtain⟨i,-,rfl⟩:=List.mem_map.1 hb;exact Tr.blk_hole l i
   rw[this];cases l<;>rfl
 | 0,.leaf p b,h=>rfl
 | 0,.node p k,h=>h.elim
 | l+1,.leaf p b,h=>h.elim
 | l+1,.node p k,h=>by
   have hp:0<4 ^ l:=Nat.pos_of_ne_zero (by simp);rw[Nat.pow_succ,Nat.mul_comm,LV]
   have hkid:∀j,j<4->(k j).blocks l=(List.range (4 ^ l)).map fun i=>Tr.blk (l+1) (.node p k) (j*4 ^ l+i):=fun j hj=>by
    rw[(h.2.1 j hj).blocks_eq];refine List.map_congr_left fun i hi=>?_
    have hi:=List.mem_range.1 hi;show _=(k ((j*4 ^ l+i) / 4 ^ l % 4)).blk l (j*4 ^ l+i);rw[show (j*4 ^ l+i) / 4 ^ l % 4=j by rw[Nat.mul_comm,Nat.mul_add_div hp,Nat.div_eq_of_lt hi,Nat.add_zero,Nat.mod_eq_of_lt hj]];exact(h.2.1 j hj).blk_mod (by rw[Nat.mul_comm,Nat.mul_add_mod])
   show (k 0).blocks l++(k 1).blocks l++(k 2).blocks l++(k 3).blocks l=_;rw[hkid 0 (by omega),hkid 1 (by omega),hkid 2 (by omega),hkid 3 (by omega)];simp only[Nat.zero_mul,Nat.zero_add,Nat.one_mul]
theorem Tr.Ok.blocks_len{S:Kor}{l:Nat}{t:Tr}(h:Tr.Ok S l t):(t.blocks l).length=4 ^ l:=by rw[h.blocks_eq];simp
theorem Kb{x:Int}(h:0<x):cV [x,x] [true,true] 2=[0,1]:=by
 have h0:eB [x,x] [true,true] 0=true:=by simp[eB,h]
 have h1:eB [x,x] [true,true] 1=true:=by simp[eB,h]
 rw[pN,pN,if_pos h0,if_pos h1];rfl
theorem KW{x:Int}(h:0<x):bX [x,x] [true,true] 2=some [0,1]:=by
 have e:jC [x,x] [true,true]=[0,1]:=(uX (by show [0,1].Perm (cV [x,x] [true,true] 2);rw[Kb h]) (by
  show List.Pairwise _ [0,1];simp[cX])).symm
 unfold bX;rw[e];show (if cV [x,x] [true,true] 2=[]\/(cV [x,x] [true,true] 2).length<kF [true,true] 2 then none else some (List.take (kF [true,true] 2) [0,1]))=_;rw[Kb h];rfl
theorem AF:∀n:Nat,fL [true,true] 2 [(n:Int),(n:Int)] n
 | 0=>.none (by decide)
 | n+1=>.more (KW (by omega)) (by
    have:eS [((n+1:Nat):Int),((n+1:Nat):Int)] [0,1]=[(n:Int),(n:Int)]:=by simp[eS]
    rw[this];exact AF n)
theorem pX(d:Nat):∀Z,(bB [] d Z).length=Z-5
 | 0=>rfl
 | Z+1=>by
   rw[pQ,List.length_append,pX d Z]
   by_cases h:5≤Z
   ·rw[if_pos (by simp[gD,dP,h])]
    show Z-5+1=_;omega
   ·rw[if_neg (by simp[gD,h])]
    show Z-5+0=_;omega
theorem Kor.room_new(Z:Nat)(M:Nat->Nat->List UInt8)(t:Int):Kor.room ⟨2,Z,2,[],M,t⟩ (Z-5):=by
 show fL [true,true] 2 (bW [] 2 Z) (Z-5)
 have:bW [] 2 Z=[((Z-5:Nat):Int),((Z-5:Nat):Int)]:=by
  show [((bB [] 0 Z).length:Int),((bB [] 1 Z).length:Int)]=_;rw[pX,pX]
 rw[this];exact AF _
theorem Kor.room.unique{S:Kor}{n m:Nat}(h:S.room n)(k:S.room m):n=m:=fL.unique h k
theorem GR{S:Kor}{N:Nat}(h:S.room (N+1))(b:List UInt8):∃u T N',S.leaf b=(some u,T)/\T.room N'/\N≤N':=by
 by_cases hz:b=zB
 ·exact⟨.hole,S,N+1,by unfold Kor.leaf;rw[if_pos hz],h,by omega⟩
 ·obtain⟨u,T,h1,h2,-⟩:=AC h hz
  exact⟨u,T,N,h1,h2,Nat.le_refl _⟩
theorem Cz{S:Kor}{N l:Nat}(h:S.room (N+1))(k:Nat->Tr):∃u T N',S.lay l k=(some u,T)/\T.room N'/\N≤N':=by
 cases hz:fS k with
 | true=>exact⟨.hole,S,N+1,by unfold Kor.lay;rw[hz];rfl,h,by omega⟩
 | false =>
   obtain⟨u,T,h1,h2,-⟩:=Cy h hz;exact⟨u,T,N,h1,h2,Nat.le_refl _⟩
theorem AG(b:List UInt8)(n:Nat):∀(l:Nat){S:Kor}(t:Tr){N:Nat},S.room (N+(l+1))->∃u T N',fP l S t n b=(some u,T)/\T.room N'/\N≤N'
 | 0,S,t,N,h=>GR h b
 | l+1,S,t,N,h=>by
   obtain⟨u1,T1,N1,h1,h2,h3⟩:=AG b n l (S:=S) (t.kid (n / 4 ^ l % 4)) (N:=N+1) (by rw[show N+1+(l+1)=N+(l+1+1) by omega];exact h);obtain⟨u,T,N2,h4,h5,h6⟩:=Cz (l:=l+1) (N:=N1-1) (by rw[show N1-1+1=N1 by omega];exact h2) (eH t.kid (n / 4 ^ l % 4) u1);refine⟨u,T,N2,?_,h5,by omega⟩;unfold fP;rw[h1];exact h4
def oF:Nat->Nat
 | 0=>0
 | l+1=>4*oF l+1
theorem AH{cut:Kor->Tr->Int->Int->Option Tr×Kor}{W f g:Int}{S:Kor}{t:Tr}{q:Nat}(hcut:∀(S:Kor) (t:Tr) (f g:Int) (N:Nat),S.room (N+q)->∃u T N',cut S t f g=(some u,T)/\T.room N'/\N≤N') :
 ∀(j N:Nat),S.room (N+j*q)->∃k ch T N',iN cut W S t f g j=(some (k,ch),T)/\T.room N'/\N≤N'
 | 0,N,h=>⟨_,_,_,N,rfl,by rw[Nat.zero_mul,Nat.add_zero] at h;exact h,Nat.le_refl _⟩
 | j+1,N,h=>by
   obtain⟨k,ch,T,N1,h1,h2,h3⟩:=AH hcut (W:=W) (f:=f) (g:=g) (t:=t) j (N+q) (by rw[show N+q+j*q=N+(j+1)*q by rw[Nat.succ_mul];omega];exact h);obtain⟨u,T2,N2,h4,h5,h6⟩:=hcut T (t.kid j) (f-j*W) (g-j*W) (N1-q) (by rw[show N1-q+q=N1 by omega];exact h2);refine⟨eH k j u,ch || !(t.kid j).ptr.eqB u.ptr,T2,N2,?_,h5,by omega⟩;unfold iN;rw[h1];simp only[];rw[h4]
theorem AI:∀(l:Nat) (S:Kor) (t:Tr) (f g:Int) (N:Nat),S.room (N+oF l)->∃u T N',cO l S t f g=(some u,T)/\T.room N'/\N≤N'
 | 0,S,t,f,g,N,h=>by
   unfold cO;split
   ·exact⟨_,_,N,rfl,h,Nat.le_refl _⟩
   ·exact⟨_,_,N,rfl,h,Nat.le_refl _⟩
 | l+1,S,t,f,g,N,h=>by
   unfold cO;split
   ·exact⟨_,_,_,rfl,h,by omega⟩
   ·split
    ·exact⟨_,_,_,rfl,h,by omega⟩
    ·obtain⟨k,ch,T,N1,h1,h2,h3⟩:=AH (W:=(4:Int) ^ l) (f:=max f 0) (g:=min g (4 ^ (l+1))) (t:=t) (AI l) 4 (N+1) (by
      rw[show N+1+4*oF l=N+oF (l+1) by show _=N+(4*oF l+1);omega];exact h)
     rw[h1];simp only[];cases ch with
     | false=>exact⟨_,_,N1,rfl,h2,by omega⟩
     | true =>
       obtain⟨u,T2,N2,h4,h5,h6⟩:=Cz (l:=l+1) (N:=N1-1) (by rw[show N1-1+1=N1 by omega];exact h2) k;exact⟨u,T2,N2,h4,h5,by omega⟩
theorem Tr.Ok.top{S:Kor}{t:Tr}(h:Tr.Ok S 3 t)(hh:t.isHole=false):t.ptr.level=3/\1≤t.ptr.birth/\t.ptr.birth≤S.txg+1:=by
 cases t with
 | hole=>cases hh
 | leaf p b=>exact h.elim
 | node p k=>exact⟨h.1.lev,h.1.born⟩
theorem Tr.Ok.all_hole{S:Kor}{l:Nat}{t:Tr}(h:Tr.Ok S l t)(hb:∀i,i<4 ^ l->t.blk l i=zB):t=.hole:=by
 cases e:t.isHole with
 | true=>exact fK e
 | false =>
   obtain⟨i,hi,hz⟩:=h.some_blk e;exact absurd (hb i hi) hz
theorem CE:Hid (∀w,(zeroValue 325).run Tryz.prog w=.ok (.agg #[.int .i64 0,.slice none 0 0]) w):=O fun w=>by kernel_rfl
def Bv(a:Nat):List Value:=.pointer (some ⟨a,0,none⟩)::List.replicate 24 (.int .i64 0)
def eX(w:World)(m a:Nat):Prop:=w.heap[m]?=some (.cells (Bv a).toArray 278 (0,0))
theorem eX.c0{w:World}{m a:Nat}(h:eX w m a):w.cell? ⟨m,0,none⟩=some (.pointer (some ⟨a,0,none⟩)):=aD h rfl
theorem kC{w:World}{a D Z nw:Nat}{B:Nat->Prop}{M:Nat->Nat->List UInt8}(h:bN w a B D Z M nw):Calls Tryz.prog 102 #[.pointer (some ⟨a,0,none⟩)] w (aK w (.int .i64 (D:Int))):=by
 obtain⟨dv,dc,lv,st,f,F,W,h1,-⟩:=h;exact Mn h1
theorem tN{w:World}{a D Z nw:Nat}{B:Nat->Prop}{M:Nat->Nat->List UInt8}(h:bN w a B D Z M nw):Calls Tryz.prog 145 #[.pointer (some ⟨a,0,none⟩)] w (aK w (.int .i64 (Z:Int))):=by
 obtain⟨dv,dc,lv,st,f,F,W,h1,-⟩:=h;exact Br h1
theorem MK{w:World}{a D Z nw:Nat}{B:Nat->Prop}{M:Nat->Nat->List UInt8}(h:bN w a B D Z M nw)(d:Int):Calls Tryz.prog 108 #[.pointer (some ⟨a,0,none⟩),.int .i64 d] w (aK w (.bool (decide (0≤d) && decide (d<(D:Int))))):=by
 obtain⟨dv,dc,lv,st,f,F,W,h1,-⟩:=h;exact aup h1 d
theorem Mr{w:World}{a D Z nw:Nat}{B:Nat->Prop}{M:Nat->Nat->List UInt8}(h:bN w a B D Z M nw){d s:Nat}(hd:d<D)(hs:s<Z):Calls Tryz.prog 140 #[.pointer (some ⟨a,0,none⟩),.int .i64 (d:Int),.int .i64 (s:Int)] w (rN w (M d s) (.int .i64 0)):=by
 obtain⟨dv,dc,lv,st,f,F,W,h1,-,-,h4⟩:=h;rw[h4 d s hd hs];exact KO h1 hd hs
theorem Ms{w:World}{a D Z nw:Nat}{B:Nat->Prop}{M:Nat->Nat->List UInt8}(h:bN w a B D Z M nw){d s:Nat}(hd:d<D)(hs:s<Z):Calls Tryz.prog 218 #[.pointer (some ⟨a,0,none⟩),.int .i64 (d:Int),.int .i64 (s:Int)] w (rN w (M d s) (.bool true)):=by
 obtain⟨dv,dc,lv,st,f,F,W,h1,-,-,h4⟩:=h;rw[h4 d s hd hs];exact I6 h1 hd hs
theorem KY{w:World}{a D Z nw:Nat}{B:Nat->Prop}{M:Nat->Nat->List UInt8}(h:bN w a B D Z M nw):Calls Tryz.prog 140 #[.pointer (some ⟨a,0,none⟩),.int .i64 (-1),.int .i64 0] w (aK w (.tuple #[.slice none 0 0,.int .i64 5])):=by
 obtain⟨dv,dc,lv,st,f,F,W,h1,-⟩:=h;exact KS h1
theorem bN.len{w:World}{a D Z nw:Nat}{B:Nat->Prop}{M:Nat->Nat->List UInt8}(h:bN w a B D Z M nw){d s:Nat}(hd:d<D)(hs:s<Z):(M d s).length=256:=by
 obtain⟨dv,dc,lv,st,f,F,W,h1,-,-,h4⟩:=h;rw[h4 d s hd hs];exact rM h1.wok (h1.fok d s hd hs)
theorem AJ(w:World)(m a:Nat)(hm:eX w m a):Calls Tryz.prog 188 #[.pointer (some ⟨m,0,none⟩)] w (aK w (.bool false)):=by
 have c0:=hm.c0;clear hm;go_enter Tryz.func188,Tryz.ntmps188;go_wp2_with fail;go_ret;exact aK.of (aA.refl _ _)
theorem Je(w:World)(n:Nat)(hn:0<n):Calls Tryz.prog 191 #[.int .i64 (n:Int)] w (aK w (.tuple #[.int .i64 (n:Int),.int .i64 0])):=by
 have e:((n:Int) == 0)=false:=by rw[beq_eq_false_iff_ne];omega
 go_enter Tryz.func191,Tryz.ntmps191;go_wp2_with fail
 go_ret2
 exact aK.of (aA.refl _ _)
theorem Jf{w:World}{a D Z nw:Nat}{B:Nat->Prop}{M:Nat->Nat->List UInt8}(h:bN w a B D Z M nw):Calls Tryz.prog 141 #[.pointer (some ⟨a,0,none⟩)] w fun e w'=>∃m,e=.returned (.tuple #[.pointer (some ⟨m,0,none⟩),.int .i64 0])/\w.heap.size≤m/\eX w' m a/\aA aB w w':=by
 have HD:=O (kC h);have hbd:=h.bd;have e:((D:Int) == 0)=false:=by rw[beq_eq_false_iff_ne];omega
 have hbM:∀w,(Instr.build 278 #[(0,.pointer (some ⟨a,0,none⟩))]).run Tryz.prog w=.ok (.agg (Bv a).toArray) w:=fun w=>by kernel_rfl
 clear h hbd;go_enter Tryz.func141,Tryz.ntmps141;go_wp2_with fail;refine HD.out.mono ?_;rintro e w1 ⟨rfl,hk⟩;have HK:=O hk;have hsz:=hk.size;clear hk HD
 go_wp2_with ((with_reducible show WL _ _);first
  | refine bld 278 #[(0,.tmp 7)] [(0,.pointer (some ⟨a,0,none⟩))] (.agg (Bv a).toArray) hbM ?_
  | refine bx 278 (.tmp 8) (Bv a).toArray ?_)
 intro b w2 hb hk2 hn;have HR:Hid (∃m,Ending.returned (.tuple #[.pointer (some ⟨b,0,none⟩),.int .i64 0])=.returned (.tuple #[.pointer (some ⟨m,0,none⟩),.int .i64 0])/\w.heap.size≤m/\eX w2 m a/\aA aB w w2):=O ⟨b,rfl,by omega,hn,HK.out.trans hk2⟩;clear hb hk2 hn;go_wp2_with fail
 go_ret2
 exact HR.out
theorem kZ{x:Ad}{D Z:Nat}(h:eC x D Z):∃d s:Nat,x=⟨(d:Int),(s:Int)⟩/\d<D/\5≤s/\s<Z:=by
 obtain⟨xd,xs⟩:=x;obtain⟨h1,h2,h3,h4⟩:=h;replace h1:0≤xd:=h1;replace h2:xd<(D:Int):=h2;replace h3:5≤xs:=h3;replace h4:xs<(Z:Int):=h4;exact⟨xd.toNat,xs.toNat,by rw[Int.toNat_of_nonneg h1,Int.toNat_of_nonneg (by omega)],by omega,by omega,by omega⟩
theorem tO{w:World}{m a D Z nw:Nat}{B:Nat->Prop}{Mm:Nat->Nat->List UInt8}(h:bN w a B D Z Mm nw)(hm:eX w m a)(v:Value)(l:List Ad)(hr:Rd w 2 v l.length (aU l))(hl:∀x∈l,eC x D Z):Calls Tryz.prog 189 #[.pointer (some ⟨m,0,none⟩),v] w (aK w (.bool true)):=by
 obtain⟨oa,ca,rfl,-,-⟩:=hr.form;obtain⟨n,hn⟩:∃n,l.length=n:=⟨_,rfl⟩
 have HN:=O hn;rw[hn] at hr ⊢;have hmx:n≤maxLen:=by obtain⟨_,a',c',h1,h2,h3,-⟩:=hr;omega
 unfold maxLen at hmx;have HR:=O hr;have HA:=O h;have HMM:=O hm;have HLL:=O hl;clear hr h hm hl hn;go_enter Tryz.func189,Tryz.ntmps189;go_wp2_with fail
 go_loopw [9] (fun i wr=>∃k:Nat,k≤n/\i=.int .i64 k/\Hid (aA aB w wr)) (fun i _=>n-(intOf i).toNat)
 case atStart=>exact⟨0,by omega,rfl,O (aA.refl _ _)⟩
 case round =>
  obtain⟨k,hk,rfl,HK⟩:=hrel
  by_cases hk8:k<n
  ·obtain⟨x,hx⟩:∃x,l[k]?=some x:=⟨l[k]'(by rw[HN.out];exact hk8),List.getElem?_eq_getElem _⟩
   obtain⟨d,s,rfl,hd,hs5,hsZ⟩:=kZ (HLL.out x (List.mem_of_getElem? hx));have hrr:=HR.out;rw[←HN.out] at hrr;obtain⟨g,o,cap',hv,hat⟩:=jD hrr hx;obtain rfl:oa=some ⟨g,o,none⟩:=by cases hv;rfl
   have HX:=O (HK.out.rangeAt hat);have HL:=O (Loc.nil aB aB wr);have HAW:=O (HA.out.keep0 HK.out);have HMW:Hid (eX wr m a):=O (HK.out.blk HMM.out id);have hk0:(0:Int)≤(k:Int):=by omega
   have hk1:(k:Int)<(n:Int):=by omega
   have e1:¬((d:Int)<0):=by omega
   have e2:¬((D:Int)≤(d:Int)):=by omega
   have e3:¬((s:Int)<5):=by omega
   have e4:¬((Z:Int)≤(s:Int)):=by omega
   clear hx hrr hat hv
   go_wp2_with ((with_reducible show WL _ _);first
    | refine wpList_load_mid rfl 74 (.tmp 11) rfl g (o+k*2) rfl (aO ⟨(d:Int),(s:Int)⟩) _ HX.out bV rfl (by rw[bE];exact iR) ?_
    | refine al 74 (.agg jJ.toArray) (jJ.toArray) tH ?_)
   intro b6 w1 hbs hk0 hb0_
   go_wp2_with ((with_reducible show WL _ _);refine sta 74 (.tmp 6) (.tmp 12) b6 0 (aO ⟨(d:Int),(s:Int)⟩) hb0_ (by first|decide|(rw[List.size_toArray,bE];exact Nat.le_refl _)|simp[bE]) (by rw[bE];exact iR) (bM _) ?_)
   intro w2 hk hb;rw[aI _ _ (by first|rfl|(rw[List.size_toArray,bE];rfl)|simp[bE])] at hb;replace hk:=hk0.trans' hk (U:=aB) (fun _ _ h=>h) (fun i hi e=>by omega);replace HL:=O (HL.out.new (fun _ h=>h.elim) hbs hk hb);replace HX:=O (hk.rangeAt HX.out);replace HAW:=O (HAW.out.keep0 hk);replace HMW:=O (hk.blk HMW.out id);clear hbs hk hb hk0 hb0_;clear HX;go_wp2_with fail;obtain⟨S,hS0⟩:∃S:World->Prop,S=fun w'=>aA aB w2.drew w':=⟨_,rfl⟩
   have HSE:=O (show ∀w',S w'->aA aB w2.drew w' from fun w' h=>by rw[hS0] at h;exact h);have HSI:=O (show ∀w',aA aB w2.drew w'->S w' from fun w' h=>by rw[hS0];exact h);have hS:S w2.drew:=by rw[hS0];exact aA.refl _ _
   have hkd:=(aA.refl aB w2).drew;clear hS0;refine wp_region_held (S:=S) (by kernel_rfl) ?_;change wpAnyH _ _ _ _ _ _ _ _ w2.drew;generalize w2.drew=w3 at HSE HSI hS hkd ⊢;replace HL:=O (HL.out.keeps hkd);replace HAW:=O (HAW.out.keep0 hkd);replace HMW:=O (hkd.blk HMW.out id);clear hkd;have HLs:=HL;have HAWs:=HAW;have HMWs:=HMW;refine tnb 0 (.pointer (some ⟨b6,0,none⟩)) rfl hS ?_;refine tnd 1 (.int .i64 (d:Int)) rfl (.inl ⟨by rfl,fun w' hw'=>by have c:World.cell? w' ⟨b6,0,none⟩=some (.int .i64 (d:Int)):=(aD (i:=0) ((HSE.out w' hw').blk (HLs.out.b 0) id) rfl);go_simp⟩) hS ?_;refine tnd 2 (.bool false) rfl (.inl ⟨by rfl,fun _ _=>by go_simp<;>first|omega|(simp;omega)⟩) hS ?_;refine tna 3 (.bool false) rfl hS ?_;refine tnb 4 (.pointer (some ⟨b6,0,none⟩)) rfl hS ?_;refine tnd 5 (.int .i64 (d:Int)) rfl (.inl ⟨by rfl,fun w' hw'=>by have c:World.cell? w' ⟨b6,0,none⟩=some (.int .i64 (d:Int)):=(aD (i:=0) ((HSE.out w' hw').blk (HLs.out.b 0) id) rfl);go_simp⟩) hS ?_;refine tna 6 (.pointer (some ⟨m,0,none⟩)) rfl hS ?_;refine tnb 7 (.pointer (some ⟨m,0,none⟩)) rfl hS ?_;refine tnb 8 (.pointer (some ⟨m,0,none⟩)) rfl hS ?_;refine tnd 9 (.pointer (some ⟨a,0,none⟩)) rfl (.inl ⟨by rfl,fun w' hw'=>by have c:World.cell? w' ⟨m,0,none⟩=some (.pointer (some ⟨a,0,none⟩)):=(HSE.out w' hw').cell (eX.c0 HMWs.out) id;go_simp⟩) hS ?_;refine wA9 10 ?_;go_wp2_with fail;refine(kC HAW.out).mono ?_;rintro e w4 ⟨rfl,hk⟩;have hS1:=HSI.out _ ((HSE.out _ hS).trans hk);replace HL:=O (HL.out.keeps hk);replace HAW:=O (HAW.out.keep0 hk);replace HMW:=O (hk.blk HMW.out id);clear hS hk;go_wp2_with fail;refine⟨hS1,?_⟩;refine tnd 11 (.bool false) rfl (.inl ⟨by rfl,fun _ _=>by go_simp<;>first|omega|(simp;omega)⟩) hS1 ?_;refine tna 12 (.bool false) rfl hS1 ?_;refine tna 13 (.bool false) rfl hS1 ?_;refine tnb 14 (.pointer (some ⟨b6,1,none⟩)) rfl hS1 ?_;refine tnd 15 (.int .i64 (s:Int)) rfl (.inl ⟨by rfl,fun w' hw'=>by have c:World.cell? w' ⟨b6,1,none⟩=some (.int .i64 (s:Int)):=(aD (i:=1) ((HSE.out w' hw').blk (HLs.out.b 0) id) rfl);go_simp⟩) hS1 ?_;refine tnd 16 (.bool false) rfl (.inl ⟨by rfl,fun _ _=>by go_simp<;>first|omega|(simp;omega)⟩) hS1 ?_;refine tna 17 (.bool false) rfl hS1 ?_;refine tna 18 (.bool false) rfl hS1 ?_;refine tnb 19 (.pointer (some ⟨b6,1,none⟩)) rfl hS1 ?_;refine tnd 20 (.int .i64 (s:Int)) rfl (.inl ⟨by rfl,fun w' hw'=>by have c:World.cell? w' ⟨b6,1,none⟩=some (.int .i64 (s:Int)):=(aD (i:=1) ((HSE.out w' hw').blk (HLs.out.b 0) id) rfl);go_simp⟩) hS1 ?_;refine tna 21 (.pointer (some ⟨m,0,none⟩)) rfl hS1 ?_;refine tnb 22 (.pointer (some ⟨m,0,none⟩)) rfl hS1 ?_;refine tnb 23 (.pointer (some ⟨m,0,none⟩)) rfl hS1 ?_;refine tnd 24 (.pointer (some ⟨a,0,none⟩)) rfl (.inl ⟨by rfl,fun w' hw'=>by have c:World.cell? w' ⟨m,0,none⟩=some (.pointer (some ⟨a,0,none⟩)):=(HSE.out w' hw').cell (eX.c0 HMWs.out) id;go_simp⟩) hS1 ?_;refine wA9 25 ?_;go_wp2_with fail;refine(tN HAW.out).mono ?_;rintro e w5 ⟨rfl,hk⟩;have hS2:=HSI.out _ ((HSE.out _ hS1).trans hk);replace HL:=O (HL.out.keeps hk);replace HAW:=O (HAW.out.keep0 hk);replace HMW:=O (hk.blk HMW.out id);clear hS1 hk;go_wp2_with fail;refine⟨hS2,?_⟩;refine tnd 26 (.bool false) rfl (.inl ⟨by rfl,fun _ _=>by go_simp<;>first|omega|(simp;omega)⟩) hS2 ?_;refine tna 27 (.bool false) rfl hS2 ?_;refine wpAnyH_done (by kernel_rfl) ?_ _;clear hS2 HSE HSI HLs HAWs HMWs;have HK2:=O (HK.out.trans HL.out.keep);clear HL HAW HMW;go_wp2_with fail
   go_roundw
   case rel=>exact⟨k+1,by omega,by go_num,HK2⟩
   case measure=>simp[intOf];omega
  ·obtain rfl:n=k:=by omega
   go_wp2_with fail;go_ret;exact aK.of HK.out
theorem Fa(w:World)(v:Value)(l:List Ad)(hr:Rd w 2 v l.length (aU l))(hl:(l.map (·.dev)).Nodup)(hl2:nO l):Calls Tryz.prog 190 #[v] w (aK w (.bool true)):=by
 obtain⟨oa,ca,rfl,-,-⟩:=hr.form;obtain⟨n,hn⟩:∃n,l.length=n:=⟨_,rfl⟩
 have HN:=O hn;rw[hn] at hr ⊢;have hnc:n≤ca:=by obtain⟨_,a',c',h1,h2,h3,-⟩:=hr;cases h1;exact h2
 have hmx:n≤maxLen:=by obtain⟨_,a',c',h1,h2,h3,-⟩:=hr;omega
 unfold maxLen at hmx;have HR:=O hr;have HLL:=O hl;have HOK:=O hl2;clear hr hl hl2 hn;go_enter Tryz.func190,Tryz.ntmps190;go_wp2_with fail
 go_loopw [9] (fun i wr=>∃k:Nat,k≤n/\i=.int .i64 k/\Hid (aA aB w wr)) (fun i _=>n-(intOf i).toNat)
 case atStart=>exact⟨0,by omega,rfl,O (aA.refl _ _)⟩
 case round =>
  obtain⟨k,hk,rfl,HK⟩:=hrel
  by_cases hk8:k<n
  ·obtain⟨x,hx⟩:∃x,l[k]?=some x:=⟨l[k]'(by rw[HN.out];exact hk8),List.getElem?_eq_getElem _⟩
   have hrr:=HR.out;rw[←HN.out] at hrr;obtain⟨g,o,cap',hv,hat⟩:=jD hrr hx;obtain rfl:oa=some ⟨g,o,none⟩:=by cases hv;rfl
   have HX:=O (HK.out.rangeAt hat);have HXX:=O hx;have HL:=O (Loc.nil aB aB wr);have hk0:(0:Int)≤(k:Int):=by omega
   have hk1:(k:Int)<(n:Int):=by omega
   have hkc:(k:Int)≤(ca:Int):=by omega
   clear hx hrr hat hv
   go_wp2_with ((with_reducible show WL _ _);first
    | refine wpList_load_mid rfl 74 (.tmp 12) rfl g (o+k*2) rfl (aO x) _ HX.out bV rfl (by rw[bE];exact iR) ?_
    | refine al 74 (.agg jJ.toArray) (jJ.toArray) tH ?_)
   intro b4 w1 hbs hk0 hb0_
   go_wp2_with ((with_reducible show WL _ _);refine sta 74 (.tmp 4) (.tmp 13) b4 0 (aO x) hb0_ (by first|decide|(rw[List.size_toArray,bE];exact Nat.le_refl _)|simp[bE]) (by rw[bE];exact iR) (bM _) ?_)
   intro w2 hk hb;rw[aI _ _ (by first|rfl|(rw[List.size_toArray,bE];rfl)|simp[bE])] at hb;replace hk:=hk0.trans' hk (U:=aB) (fun _ _ h=>h) (fun i hi e=>by omega);replace HL:=O (HL.out.new (fun _ h=>h.elim) hbs hk hb);replace HX:=O (hk.rangeAt HX.out);clear hbs hk hb hk0 hb0_;clear HX;go_wp2_with fail;have HB4:=O (HL.out.b 0);have HK1:=O (HK.out.trans HL.out.keep)
   go_loopw [18] (fun i wr2=>∃j:Nat,j≤k/\i=.int .i64 j/\Hid (aA aB w2 wr2)) (fun i _=>k-(intOf i).toNat)
   case atStart=>exact⟨0,by omega,rfl,O (aA.refl _ _)⟩
   case round =>
    rename_i wo;obtain⟨j,hj,rfl,HK2⟩:=hrel
    by_cases hj8:j<k
    ·obtain⟨y,hy⟩:∃y,l[j]?=some y:=⟨l[j]'(by rw[HN.out];omega),List.getElem?_eq_getElem _⟩
     have hrr:=HR.out;rw[←HN.out] at hrr;obtain⟨g',o',cap',hv,hat⟩:=jD hrr hy;cases hv
     have HX:=O ((HK1.out.trans HK2.out).rangeAt hat)
     have hne:x.dev≠y.dev:=by
      intro e;have h1:(l.map (·.dev))[k]?=some x.dev:=by rw[List.getElem?_map,HXX.out];rfl
      have h2:(l.map (·.dev))[j]?=some x.dev:=by rw[List.getElem?_map,hy,e];rfl
      have:=((List.getElem?_inj (List.getElem?_eq_some_iff.1 h1).1 HLL.out).1 (h1.trans h2.symm))
      omega
     have hee:(x.dev == y.dev)=false:=by rw[beq_eq_false_iff_ne];exact hne
     have HB5:=O (HK2.out.blk HB4.out id);have hj0:(0:Int)≤(j:Int):=by omega
     have hj1:(j:Int)<(k:Int):=by omega
     have hj2:(j:Int)<(n:Int):=by omega
     have HL:=O (Loc.nil aB aB wr);clear hy hrr hat hne
     go_wp2_with ((with_reducible show WL _ _);first
      | refine wpList_load_mid rfl 74 (.tmp 20) rfl g (o+j*2) rfl (aO y) _ HX.out bV rfl (by rw[bE];exact iR) ?_
      | refine al 74 (.agg jJ.toArray) (jJ.toArray) tH ?_)
     intro b6 w3 hbs hk0 hb0_
     go_wp2_with ((with_reducible show WL _ _);refine sta 74 (.tmp 6) (.tmp 21) b6 0 (aO y) hb0_ (by first|decide|(rw[List.size_toArray,bE];exact Nat.le_refl _)|simp[bE]) (by rw[bE];exact iR) (bM _) ?_)
     intro w4 hk hb;rw[aI _ _ (by first|rfl|(rw[List.size_toArray,bE];rfl)|simp[bE])] at hb;replace hk:=hk0.trans' hk (U:=aB) (fun _ _ h=>h) (fun i hi e=>by omega);replace HL:=O (HL.out.new (fun _ h=>h.elim) hbs hk hb);replace HX:=O (hk.rangeAt HX.out);replace HB5:=O (hk.blk HB5.out id);clear hbs hk hb hk0 hb0_;have c1:w4.cell? ⟨b4,0,none⟩=some (.int .i64 x.dev):=aD (i:=0) HB5.out rfl;have c2:w4.cell? ⟨b6,0,none⟩=some (.int .i64 y.dev):=aD (i:=0) (HL.out.b 0) rfl;have HK3:=O (HK2.out.trans HL.out.keep);go_wp2_with fail
     go_roundw
     case rel=>exact⟨j+1,by omega,by go_num,HK3⟩
     case measure=>simp[intOf];omega
    ·obtain rfl:k=j:=by omega
     have HK3:=O (HK1.out.trans HK2.out);go_wp2_with fail
     go_roundw
     case rel=>exact⟨k+1,by omega,by go_num,HK3⟩
     case measure=>simp[intOf];omega
  ·obtain rfl:n=k:=by omega
   go_wp2_with fail;go_ret;exact aK.of HK.out
def oW(w:World)(a:Nat)(B:Nat->Prop)(D Z:Nat)(Mm:Nat->Nat->List UInt8)(nw:Nat)(l:List Ad)(b:List UInt8)(e:Ending)(w':World):Prop:=
 e=.returned (.tuple #[.int .i64 (l.length:Int),.int .i64 0])/\∃B',bN w' a B' D Z (kP b l Mm) (nw+l.length)/\(∀k,B' k->B k\/w.heap.size≤k)/\aA B w w'
theorem oW.keep{w w1 w2:World}{a D Z nw:Nat}{B:Nat->Prop}{Mm:Nat->Nat->List UInt8}{l:List Ad}{b:List UInt8}{e:Ending}(h:oW w a B D Z Mm nw l b e w1)(k:aA aB w1 w2):oW w a B D Z Mm nw l b e w2:=by
 obtain⟨h1,B',h2,h3,h4⟩:=h;exact⟨h1,B',h2.keep0 k,h3,h4.trans k.any⟩
structure MPI(w wr:World)(a:Nat)(B Bk:Nat->Prop)(D Z:Nat)(Mm:Nat->Nat->List UInt8)(nw k:Nat)(l:List Ad)(b:List UInt8):Prop where
 arr:bN wr a Bk D Z (kP b (l.take k) Mm) (nw+k)
 grow:∀i,Bk i->B i\/w.heap.size≤i
 keep:aA B w wr
theorem Jg{w:World}{m a D Z nw:Nat}{B:Nat->Prop}{Mm:Nat->Nat->List UInt8}(h:bN w a B D Z Mm nw)(hm:eX w m a)(hmB:¬B m)(v:Value)(l:List Ad)(hr:Rd w 2 v l.length (aU l))(hl:∀x∈l,eC x D Z)(hld:(l.map (·.dev)).Nodup)(hlo:nO l)(h1:1≤l.length)(h3:l.length≤3)
 (hv:∀i,v.ownBlock=some i->¬B i) (vb':Value) (b:List UInt8) (hbl:b.length=256) (hb:Rd w 1 vb' 256 (b.map vb)) (hvb:∀i,vb'.ownBlock=some i->¬B i) (hn:nw<90000000000) :
 Calls Tryz.prog 134 #[.pointer (some ⟨m,0,none⟩),v,vb'] w (oW w a B D Z Mm nw l b):=by
 obtain⟨oa,ca,rfl,-,-⟩:=hr.form
 obtain⟨g2,o2,c2,rfl⟩:∃g o c,vb'=.slice (some ⟨g,o,none⟩) 256 c:=by
  obtain⟨h1,a',c',rfl,-,-,-,h4⟩:=hb;obtain⟨g,o,rfl,hc⟩:=h4 (by rw[h1];decide);exact⟨g,o,c',rfl⟩
 obtain⟨n,hn_⟩:∃n,l.length=n:=⟨_,rfl⟩
 have HN:=O hn_
 have hg0:oa=none\/∃g o,oa=some ⟨g,o,none⟩/\g<w.heap.size:=by
  obtain⟨hl0,a',c',he,-,-,-,h4⟩:=hr;obtain⟨g,o,rfl,hc⟩:=h4 (by rw[hl0];omega);cases he
  obtain⟨u,hu⟩:∃u,(aU l)[0]?=some u:=⟨_,List.getElem?_eq_getElem (by rw[hl0];omega)⟩
  exact .inr ⟨g,o,rfl,World.block_lt_of_cell? w _ (hc 0 u hu)⟩
 have hmlt:m<w.heap.size:=lt_of_block hm
 have hg2:g2<w.heap.size:=by
  obtain⟨hl0,a',c',he,-,-,-,h4⟩:=hb;obtain⟨g,o,e,hc⟩:=h4 (by rw[hl0];decide);cases he;cases e
  obtain⟨u,hu⟩:∃u,(b.map vb)[0]?=some u:=⟨_,List.getElem?_eq_getElem (by rw[hl0];decide)⟩
  exact World.block_lt_of_cell? w _ (hc 0 u hu)
 rw[hn_] at hr h1 h3 hv ⊢;have e1:¬((n:Int)<1):=by omega
 have e3:¬(3<(n:Int)):=by omega
 have HA:=O h;have HMM:=O hm;have HR:=O hr;have HRB:=O hb;have HLP:=O hl;have HLD:=O hld;have HLO:=O hlo;have HV:=O hv;have HVB:=O hvb;have HG0:=O hg0;have HS:=O (by have:=tO h hm _ l (by rw[hn_];exact hr) hl;exact this);have HK0:=O (aA.refl aB w);clear h hm hr hb hl hld hlo hv hvb hn_ hg0;have HL:=O (Loc.nil aB aB w);go_enter Tryz.func134,Tryz.ntmps134;clear HS HK0;go_wp2_with fail;refine(AJ w m a HMM.out).mono ?_;rintro e w1 ⟨rfl,hk⟩;replace HL:=O (HL.out.keeps hk);replace HA:=O (HA.out.keep0 hk);replace HMM:=O (hk.blk HMM.out id);replace HR:=O (HR.out.keep hk fun _ _=>id);replace HRB:=O (HRB.out.keep hk fun _ _=>id);clear hk;go_wp2_with fail;refine(tO HA.out HMM.out _ l (by rw[HN.out];exact HR.out) HLP.out).mono ?_;rintro e w2 ⟨rfl,hk⟩;replace HL:=O (HL.out.keeps hk);replace HA:=O (HA.out.keep0 hk);replace HMM:=O (hk.blk HMM.out id);replace HR:=O (HR.out.keep hk fun _ _=>id);replace HRB:=O (HRB.out.keep hk fun _ _=>id);clear hk;go_wp2_with fail;refine(Fa w2 _ l (by rw[HN.out];exact HR.out) HLD.out HLO.out).mono ?_;rintro e w3 ⟨rfl,hk⟩;replace HL:=O (HL.out.keeps hk);replace HA:=O (HA.out.keep0 hk);replace HMM:=O (hk.blk HMM.out id);replace HR:=O (HR.out.keep hk fun _ _=>id);replace HRB:=O (HRB.out.keep hk fun _ _=>id);clear hk;go_wp2_with fail;have H0:Hid (MPI w3 w3 a B B D Z Mm nw 0 l b):=O ⟨by rw[List.take_zero];exact HA.out,fun i h=>.inl h,aA.refl _ _⟩;have hmw:m<w3.heap.size:=lt_of_block HMM.out;have HM0:Hid (w.heap.size≤w3.heap.size):=O HL.out.keep.size;have HK0:=O HL.out.keep;have hmw2:w.heap.size≤w3.heap.size:=HM0.out;have HRW:=O HR.out;have HRBW:=O HRB.out;have HMMW:=O HMM.out
 go_loopw [8,41] (fun c i wr=>∃(k:Nat) (Bk:Nat->Prop),k≤n/\i=.int .i64 k/\c=.int .i64 k/\Hid (MPI w3 wr a B Bk D Z Mm nw k l b)) (fun _ i _=>n-(intOf i).toNat)
 case atStart=>exact⟨0,B,by omega,rfl,rfl,H0⟩
 case round =>
  clear H0 HL HA;obtain⟨k,Bk,hk,rfl,rfl,HI⟩:=hrel
  by_cases hk8:k<n
  ·obtain⟨x,hx⟩:∃x,l[k]?=some x:=⟨l[k]'(by rw[HN.out];exact hk8),List.getElem?_eq_getElem _⟩
   obtain⟨d,s,rfl,hd,hs5,hsZ⟩:=kZ (HLP.out x (List.mem_of_getElem? hx));have HKW:=O HI.out.keep;have hrr:=HRW.out.keep HKW.out HV.out;rw[←HN.out] at hrr;obtain⟨g,o,cap',hv,hat⟩:=jD hrr hx;obtain rfl:oa=some ⟨g,o,none⟩:=by cases hv;rfl
   have HX:=O hat;have HXX:=O hx;have hnB:¬Bk g2:=fun e=>(HI.out.grow g2 e).elim (HVB.out g2 rfl) (by omega)
   have hnm:¬Bk m:=fun e=>(HI.out.grow m e).elim hmB (by omega)
   have HRB2:=O (HRBW.out.keep HKW.out HVB.out);have HMM2:Hid (eX wr m a):=O (HKW.out.blk HMMW.out hmB);have HAW:=O HI.out.arr;have HL:=O (Loc.nil Bk Bk wr);have hk0:(0:Int)≤(k:Int):=by omega
   have hk1:(k:Int)<(n:Int):=by omega
   have hnk:nw+k<100000000000:=by omega
   clear hx hrr hat hv
   go_wp2_with ((with_reducible show WL _ _);first
    | refine wpList_load_mid rfl 74 (.tmp 43) rfl g (o+k*2) rfl (aO ⟨(d:Int),(s:Int)⟩) _ HX.out bV rfl (by rw[bE];exact iR) ?_
    | refine al 74 (.agg jJ.toArray) (jJ.toArray) tH ?_)
   intro b10 w4 hbs hk0 hb0_
   go_wp2_with ((with_reducible show WL _ _);refine sta 74 (.tmp 10) (.tmp 44) b10 0 (aO ⟨(d:Int),(s:Int)⟩) hb0_ (by first|decide|(rw[List.size_toArray,bE];exact Nat.le_refl _)|simp[bE]) (by rw[bE];exact iR) (bM _) ?_)
   intro w5 hk hb;rw[aI _ _ (by first|rfl|(rw[List.size_toArray,bE];rfl)|simp[bE])] at hb;replace hk:=hk0.trans' hk (U:=aB) (fun _ _ h=>h) (fun i hi e=>by omega);replace HL:=O (HL.out.new (fun _ hk=>HAW.out.lt hk) hbs hk hb);replace HX:=O (hk.rangeAt HX.out);replace HAW:=O (HAW.out.keep0 hk);replace HMM2:=O (hk.blk HMM2.out id);replace HRB2:=O (HRB2.out.keep hk fun _ _=>id);clear hbs hk hb hk0 hb0_;clear HX;go_wp2_with fail;obtain⟨S,hS0⟩:∃S:World->Prop,S=fun w'=>aA Bk w5.drew w':=⟨_,rfl⟩
   have HSE:=O (show ∀w',S w'->aA Bk w5.drew w' from fun w' h=>by rw[hS0] at h;exact h);have HSI:=O (show ∀w',aA Bk w5.drew w'->S w' from fun w' h=>by rw[hS0];exact h);have hS:S w5.drew:=by rw[hS0];exact aA.refl _ _
   have hkd:=(aA.refl aB w5).drew;clear hS0;refine wp_region_held (S:=S) (by kernel_rfl) ?_;change wpAnyH _ _ _ _ _ _ _ _ w5.drew;generalize w5.drew=w6 at HSE HSI hS hkd ⊢;replace HL:=O (HL.out.keeps hkd);replace HAW:=O (HAW.out.keep0 hkd);replace HMM2:=O (hkd.blk HMM2.out id);replace HRB2:=O (HRB2.out.keep hkd fun _ _=>id);clear hkd;have HLs:=HL;have HAWs:=HAW;have HMM2s:=HMM2;have HRB2s:=HRB2;refine tna 0 (.pointer (some ⟨m,0,none⟩)) rfl hS ?_;refine tnb 1 (.pointer (some ⟨m,0,none⟩)) rfl hS ?_;refine tnb 2 (.pointer (some ⟨m,0,none⟩)) rfl hS ?_;refine tnd 3 (.pointer (some ⟨a,0,none⟩)) rfl (.inl ⟨by rfl,fun w' hw'=>by have c:World.cell? w' ⟨m,0,none⟩=some (.pointer (some ⟨a,0,none⟩)):=(HSE.out w' hw').cell (eX.c0 HMM2s.out) hnm;go_simp⟩) hS ?_;refine tnb 4 (.pointer (some ⟨b10,0,none⟩)) rfl hS ?_;refine tnd 5 (.int .i64 (d:Int)) rfl (.inl ⟨by rfl,fun w' hw'=>by have c:World.cell? w' ⟨b10,0,none⟩=some (.int .i64 (d:Int)):=(aD (i:=0) ((HSE.out w' hw').blk (HLs.out.b 0) ((HLs.out.aq 0))) rfl);go_simp⟩) hS ?_;refine tnb 6 (.pointer (some ⟨b10,1,none⟩)) rfl hS ?_;refine tnd 7 (.int .i64 (s:Int)) rfl (.inl ⟨by rfl,fun w' hw'=>by have c:World.cell? w' ⟨b10,1,none⟩=some (.int .i64 (s:Int)):=(aD (i:=1) ((HSE.out w' hw').blk (HLs.out.b 0) ((HLs.out.aq 0))) rfl);go_simp⟩) hS ?_;refine tna 8 (.slice (some ⟨g2,o2,none⟩) 256 c2) rfl hS ?_;refine wA9 9 ?_;go_wp2_with fail;refine(rO HAW.out hd hsZ b hbl _ HRB2.out (fun i hi=>by cases hi;exact hnB) hnk).mono ?_;rintro e w7 ⟨rfl,B2,ha2,hg2,hk2⟩;have hS1:=HSI.out _ ((HSE.out _ hS).trans hk2);have hkk:=HI.out.keep.trans' ((HL.out.keep).trans hk2) (U:=B) (fun _ _ h=>h) (fun i hi e=>(HI.out.grow i e).elim id (fun h=>absurd hi (by omega)));have HI2:Hid (MPI w3 w7 a B B2 D Z Mm nw (k+1) l b):=O ⟨by rw[List.take_add_one,HXX.out];show bN _ _ _ _ _ (kP b (l.take k++[⟨(d:Int),(s:Int)⟩]) Mm) _;rw[AB];exact ha2,fun i hi=>(hg2 i hi).elim (fun h=>HI.out.grow i h) (fun h=>.inr (Nat.le_trans (Nat.le_trans HI.out.keep.size HL.out.keep.size) h)),hkk⟩;clear ha2 hg2 hk2 hkk hS;go_wp2_with fail;refine⟨hS1,?_⟩;refine wpAnyH_done (by kernel_rfl) ?_ _;clear hS1 HSE HSI HLs HAWs HMM2s HRB2s;clear HL HAW HMM2 HRB2;go_wp2_with fail
   go_roundw
   case rel=>exact⟨k+1,_,by omega,by go_num,by go_num,HI2⟩
   case measure=>simp[intOf];omega
  ·obtain rfl:n=k:=by omega
   have HP:Hid (oW w a B D Z Mm nw l b (.returned (.tuple #[.int .i64 (n:Int),.int .i64 0])) wr):=O (by
    have h:=HI.out;refine⟨by rw[HN.out],Bk,?_,fun i hi=>(h.grow i hi).imp id fun h=>by omega,HK0.out.any.trans h.keep⟩;have ha:=h.arr;rw[List.take_of_length_le (by rw[HN.out];exact Nat.le_refl _)] at ha;rw[HN.out];exact ha)
   clear HI;go_wp2_with fail;refine(Je wr n (by omega)).mono ?_;rintro e w2 ⟨rfl,hk2⟩;have HP2:=O (HP.out.keep hk2);clear hk2 HP;go_wp2_with fail
   go_ret2
   exact HP2.out
end
end Go.Proofs.YtjkbekifgobeaaaGreat
