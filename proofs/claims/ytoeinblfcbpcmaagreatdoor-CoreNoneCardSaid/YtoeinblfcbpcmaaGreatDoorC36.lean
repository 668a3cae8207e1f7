import Derived.Test.YtoeinblfcbpcmaaGreatDoorC28
import Derived.Test.YtoeinblfcbpcmaaGreatDoorC35
namespace Go.Proofs.YtoeinblfcbpcmaaGreatDoor
open Tryz
set_option maxHeartbeats 0
set_option maxRecDepth 100000
set_option linter.unusedVariables false
section
open Go.RowKit Go.Maps Go.ChangeMaps
structure QIs(w:World)(B qb:Nat)(v:Value)(es:List (Value×Ub)):Prop where
 box:w.heap[qb]?=some (.cells #[v] 285 (0,0))
 own:w.ownsRow B 287 70 v es.length (eP es)
 lens:gU es
 sls:∀e∈es,∃a n c,e.1=.slice a n c
def QK(qb:Nat)(v:Value):Nat->Prop:=fun j=>j=qb\/v.ownBlock=some j
variable{w w':World}{B qb i k g c n j sz:Nat}{v:Value}{es q d:List (Value×Ub)}{p:Value×Ub->Prop}{a: Option Addr}{xs:List Value}{x:Value×Ub}
theorem QIs.form(h:QIs w B qb v es):∃a c,v=.slice a es.length c:=by
 obtain⟨a,c,b,-,-⟩:=(Rd.of_owns h.own).form;exact⟨a,c,b⟩
theorem QIs.keep(h:QIs w B qb v es)(k:aA aB w w'):QIs w' B qb v es:=⟨k.blk h.box id,k.owns h.own fun _ _=>id,h.lens,h.sls⟩
theorem QIs.apart(h:QIs w B qb v es):v.ownBlock≠some qb:=by
 intro e;obtain⟨cur,b⟩:=aH h.own e;rw[h.box] at b;cases b
theorem Dn(f:i<es.length)(l:k<es.length)(h:∀e∈es,p e):∀e∈eD es i k,p e:=fun e b=>h e ((BK f l).mem_iff.1 b)
theorem QIs.swap(h:QIs w B qb (.slice g es.length c) es)(f:i<es.length)(l:k<es.length)
 (m:w'.ownsRow B 287 70 (.slice g es.length c) es.length (eP (eD es i k))) (b:aA (fun j=>j=g) w w'):QIs w' B qb (.slice g es.length c) (eD es i k)/\aA (QK qb (.slice g es.length c)) w w':=by
 refine⟨⟨b.blk h.box (fun e=>h.apart (by rw[e];rfl)),by rw[mL];exact m,Dn f l h.lens,Dn f l h.sls⟩,b.mono fun j _ e=>.inr (by rw[e];rfl)⟩
theorem Jg(h:¬2*i+1<n):∀f,cO aS f q i n=(q,i)
 | 0=>rfl
 | f+1=>by unfold cO;rw[if_neg h]
theorem vS(h:2*i+1<n)(b:kA aS q (2*i+1) n=j)(e:aS (gD q j) (gD q i)=false)(f:Nat):cO aS (f+1) q i n=(q,i):=by
 unfold cO;rw[if_pos h,b,if_neg (by rw[e];decide)]
theorem AY(h:2*i+1<n)(b:kA aS q (2*i+1) n=j)(e:aS (gD q j) (gD q i)=true)(f:Nat):cO aS (f+1) q i n=cO aS f (eD q i j) j n:=by
 conv=>lhs;unfold cO
 rw[if_pos h,b,if_pos e]
theorem NW(w : World)(qb : Nat) : Sem.run prog (method (prog.types.size + Made.depth) 289 (.pointer (some ⟨qb, 0, none⟩)) "Len") w = Sem.run prog (do let x ← loadVar 285 ⟨qb, 0, none⟩; pure ((310 : FuncId), x)) w := by kernel_rfl
theorem Hc{w: World}{qb n c: Nat}(b : w.heap[qb]? = some (.cells #[.slice a n c] 285 (0, 0))) : Sem.run prog (method 527 289 (.pointer (some ⟨qb, 0, none⟩)) "Len") w = .ok (310, .slice a n c) w := by
 have e:=cell_of_one b;rw[show (527:Nat)=prog.types.size+Made.depth by kernel_rfl,NW]
 go_simp
theorem LJ(w : World)(qb : Nat) : Sem.run prog (method (prog.types.size + Made.depth) 289 (.pointer (some ⟨qb, 0, none⟩)) "Less") w = Sem.run prog (do let x ← loadVar 285 ⟨qb, 0, none⟩; pure ((311 : FuncId), x)) w := by kernel_rfl
theorem vT{w: World}{qb n c: Nat}(b : w.heap[qb]? = some (.cells #[.slice a n c] 285 (0, 0))) : Sem.run prog (method 527 289 (.pointer (some ⟨qb, 0, none⟩)) "Less") w = .ok (311, .slice a n c) w := by
 have e:=cell_of_one b;rw[show (527:Nat)=prog.types.size+Made.depth by kernel_rfl,LJ]
 go_simp
theorem LK(w : World)(qb : Nat) : Sem.run prog (method (prog.types.size + Made.depth) 289 (.pointer (some ⟨qb, 0, none⟩)) "Swap") w = Sem.run prog (do let x ← loadVar 285 ⟨qb, 0, none⟩; pure ((312 : FuncId), x)) w := by kernel_rfl
theorem AZ{w: World}{qb n c: Nat}(b : w.heap[qb]? = some (.cells #[.slice a n c] 285 (0, 0))) : Sem.run prog (method 527 289 (.pointer (some ⟨qb, 0, none⟩)) "Swap") w = .ok (312, .slice a n c) w := by
 have e:=cell_of_one b;rw[show (527:Nat)=prog.types.size+Made.depth by kernel_rfl,LK]
 go_simp
def oJ(w:World)(B qb:Nat)(v:Value)(q:List (Value×Ub))(e:Ending)(w':World):Prop:=(∃b,e=.returned (.bool b))/\QIs w' B qb v q/\aA (QK qb v) w w'
theorem FF(w:World)(B qb:Nat)(v:Value)(es:List (Value×Ub))(h:QIs w B qb v es)(n i:Nat)(hn:es.length=n)(hm:n≤64)(hi:i≤n)(iv nv:Int)(qg:iv=(i:Int))(qi:nv=(n:Int)) :
 Calls prog 237 #[.iface 289 (.pointer qb),.int .i64 iv,.int .i64 nv] w (oJ w B qb v (cO aS n es i n).1):=by
 subst qg;subst qi;obtain⟨I,s,rfl⟩:=h.form;rw[hn] at h ⊢;have H:=O h;have HN:=O hn;clear h hn;go_in;go_wp2_with fail
 go_loopw [7] (fun t wr=>∃(l f:Nat) (q:List (Value×Ub)),t=.int .i64 l/\l≤n/\n-l≤f/\Hid (q.length=n)/\Hid (cO aS n es i n=cO aS f q l n)/\Hid (QIs wr B qb (.slice I n s) q)/\Hid (aA (QK qb (.slice I n s)) w wr)) (fun t _=>n-(intOf t).toNat)
 case atStart=>exact⟨i,n,es,rfl,hi,by omega,HN,O rfl,H,O (aA.refl _ _)⟩
 case round =>
 obtain⟨l,f,q,rfl,qn,hf,o,Y,m,z⟩:=hrel;have qm:(0:Int)≤(l:Int):=by omega
 have qo:(l:Int)≤64:=by omega
 have qp:(n:Int)≤64:=by omega
 by_cases G:2*l+1<n
 ·have qe:2*(l:Int)+1<(n:Int):=by omega
  have qj:¬(n:Int)≤2*(l:Int)+1:=by omega
  have ql:¬(2*(l:Int)+1<0):=by omega
  obtain⟨M,rfl⟩:∃M,f=M+1:=⟨f-1,by omega⟩
  have qk:0≤2*(l:Int)+1:=by omega
  by_cases T:2*l+2<n
  ·have qf:2*(l:Int)+1+1<(n:Int):=by omega
   have qh:=vT m.box;go_wp2_with fail;obtain⟨b2,qa⟩:=zX9 (aS (gD q (2*l+2)) (gD q (2*l+1)))
   have C:Calls prog 311 #[.slice I n s,.int .i64 (2*(l:Int)+1+1),.int .i64 (2*(l:Int)+1)] wr (bM wr b2):=by
    rw[←qa];have hr:=Rd.of_owns m.own;exact sO wr _ q hr m.lens (2*l+2) (2*l+1) _ _ (by omega) (by omega) (by rw[o.out];omega) (by rw[o.out];omega)
   refine C.mono ?_;clear C;rintro e S ⟨rfl,u⟩;have m:=O (m.keep u);have z:=O (z.trans u.any);clear u;have qc:=O qa;clear qa;clear qh;cases b2
   ·have U:Hid (kA aS q (2*l+1) n=2*l+1):=O (by unfold kA;rw[show aS (gD q (2*l+1+1)) (gD q (2*l+1))=false from qc.out,Bool.and_false,if_neg Bool.false_ne_true])
    have qd:=vT m.box;go_wp2_with fail;obtain⟨V,y⟩:=zX9 (aS (gD q (2*l+1)) (gD q (l)))
    have C:Calls prog 311 #[.slice I n s,.int .i64 (2*(l:Int)+1),.int .i64 ((l:Int))] S (bM S V):=by
     rw[←y];have hr:=Rd.of_owns m.own;exact sO S _ q hr m.lens (2*l+1) (l) _ _ (by omega) (by omega) (by rw[o.out];omega) (by rw[o.out];omega)
    refine C.mono ?_;clear C;rintro e wc ⟨rfl,u⟩;have m:=O (m.keep u);have z:=O (z.trans u.any);clear u;have A:=O y;clear y;cases V
    ·have K:Hid ((cO aS n es i n).1=q):=O (by rw[Y.out,vS G U.out A.out M])
     have Z:Hid (∀b,oJ w B qb (.slice I n s) (cO aS n es i n).1 (.returned (.bool b)) wc):=O (fun b=>⟨⟨_,rfl⟩,by rw[K.out];exact m.out,z.out⟩);clear K;go_wp2;go_ret;exact Z.out _
    ·have N:=AZ m.box
     go_wp2_with fail
     obtain⟨F,sc,P⟩:∃g c,Value.slice I n s=.slice (some ⟨g,0,none⟩) n c:=by
      have D:=m.own;rw[o.out] at D;obtain⟨g,cur,h,-⟩:=nL D (by omega);exact⟨g,s,by rw[h]⟩
     injection P with Q _ R
     subst Q;subst R
     have C:Calls prog 312 #[.slice F n s,.int .i64 (l:Int),.int .i64 (2*(l:Int)+1)] wc fun e w'=>e=.returned (.tuple #[])/\QIs w' B qb (.slice F n s) (eD q l (2*l+1))/\aA (QK qb (.slice F n s)) wc w':=by
      have X:=m.own;have c:=AX wc B F s q (by rw[o.out] at X ⊢;exact X) m.lens m.sls l (2*l+1) _ _ rfl (show 2*(l:Int)+1=(((2*l+1):Nat):Int) by omega) (by rw[o.out];omega) (by rw[o.out];omega);rw[o.out] at c;refine c.mono fun e w' ⟨G,T,h3⟩=>?_
      have E:=m.out;rw[←o.out] at E T;have r:=E.swap (k:=2*l+1) (by rw[o.out];omega) (by rw[o.out];omega) T h3;rw[o.out] at r;exact⟨G,r⟩
     refine C.mono ?_;clear C;rintro e ww ⟨rfl,E,u⟩;have m:=O E;have z:=O (z.trans u);have J:Hid (cO aS n es i n=cO aS M (eD q l (2*l+1)) (2*l+1) n):=O (by rw[Y.out,AY G U.out A.out]);have L:Hid ((eD q l (2*l+1)).length=n):=O (by rw[mL];exact o.out);clear E u N;go_wp2
     go_roundw
     case rel=>exact⟨2*l+1,M,eD q l (2*l+1),by go_num,by omega,by omega,L,J,m,z⟩
     case measure=>simp[intOf];omega
   ·have U:Hid (kA aS q (2*l+1) n=2*l+2):=O (by unfold kA;rw[show aS (gD q (2*l+1+1)) (gD q (2*l+1))=true from qc.out,Bool.and_true,if_pos (decide_eq_true (by omega))])
    have qd:=vT m.box;go_wp2_with fail;obtain⟨V,y⟩:=zX9 (aS (gD q (2*l+2)) (gD q (l)))
    have C:Calls prog 311 #[.slice I n s,.int .i64 (2*(l:Int)+1+1),.int .i64 ((l:Int))] S (bM S V):=by
     rw[←y];have hr:=Rd.of_owns m.own;exact sO S _ q hr m.lens (2*l+2) (l) _ _ (by omega) (by omega) (by rw[o.out];omega) (by rw[o.out];omega)
    refine C.mono ?_;clear C;rintro e wc ⟨rfl,u⟩;have m:=O (m.keep u);have z:=O (z.trans u.any);clear u;have A:=O y;clear y;cases V
    ·have K:Hid ((cO aS n es i n).1=q):=O (by rw[Y.out,vS G U.out A.out M])
     have Z:Hid (∀b,oJ w B qb (.slice I n s) (cO aS n es i n).1 (.returned (.bool b)) wc):=O (fun b=>⟨⟨_,rfl⟩,by rw[K.out];exact m.out,z.out⟩);clear K;go_wp2;go_ret;exact Z.out _
    ·have N:=AZ m.box
     go_wp2_with fail
     obtain⟨F,sc,P⟩:∃g c,Value.slice I n s=.slice (some ⟨g,0,none⟩) n c:=by
      have D:=m.own;rw[o.out] at D;obtain⟨g,cur,h,-⟩:=nL D (by omega);exact⟨g,s,by rw[h]⟩
     injection P with Q _ R
     subst Q;subst R
     have C:Calls prog 312 #[.slice F n s,.int .i64 (l:Int),.int .i64 (2*(l:Int)+1+1)] wc fun e w'=>e=.returned (.tuple #[])/\QIs w' B qb (.slice F n s) (eD q l (2*l+2))/\aA (QK qb (.slice F n s)) wc w':=by
      have X:=m.own;have c:=AX wc B F s q (by rw[o.out] at X ⊢;exact X) m.lens m.sls l (2*l+2) _ _ rfl (show 2*(l:Int)+1+1=(((2*l+2):Nat):Int) by omega) (by rw[o.out];omega) (by rw[o.out];omega);rw[o.out] at c;refine c.mono fun e w' ⟨G,T,h3⟩=>?_
      have E:=m.out;rw[←o.out] at E T;have r:=E.swap (k:=2*l+2) (by rw[o.out];omega) (by rw[o.out];omega) T h3;rw[o.out] at r;exact⟨G,r⟩
     refine C.mono ?_;clear C;rintro e ww ⟨rfl,E,u⟩;have m:=O E;have z:=O (z.trans u);have J:Hid (cO aS n es i n=cO aS M (eD q l (2*l+2)) (2*l+2) n):=O (by rw[Y.out,AY G U.out A.out]);have L:Hid ((eD q l (2*l+2)).length=n):=O (by rw[mL];exact o.out);clear E u N;go_wp2
     go_roundw
     case rel=>exact⟨2*l+2,M,eD q l (2*l+2),by go_num,by omega,by omega,L,J,m,z⟩
     case measure=>simp[intOf];omega
  ·have qf:¬2*(l:Int)+1+1<(n:Int):=by omega
   have U:Hid (kA aS q (2*l+1) n=2*l+1):=O (by unfold kA;rw[decide_eq_false (by omega),Bool.false_and,if_neg Bool.false_ne_true]);have qd:=vT m.box;go_wp2_with fail;obtain⟨V,y⟩:=zX9 (aS (gD q (2*l+1)) (gD q (l)))
   have C:Calls prog 311 #[.slice I n s,.int .i64 (2*(l:Int)+1),.int .i64 ((l:Int))] wr (bM wr V):=by
    rw[←y];have hr:=Rd.of_owns m.own;exact sO wr _ q hr m.lens (2*l+1) (l) _ _ (by omega) (by omega) (by rw[o.out];omega) (by rw[o.out];omega)
   refine C.mono ?_;clear C;rintro e S ⟨rfl,u⟩;have m:=O (m.keep u);have z:=O (z.trans u.any);clear u;have A:=O y;clear y;cases V
   ·have K:Hid ((cO aS n es i n).1=q):=O (by rw[Y.out,vS G U.out A.out M])
    have Z:Hid (∀b,oJ w B qb (.slice I n s) (cO aS n es i n).1 (.returned (.bool b)) S):=O (fun b=>⟨⟨_,rfl⟩,by rw[K.out];exact m.out,z.out⟩);clear K;go_wp2;go_ret;exact Z.out _
   ·have N:=AZ m.box
    go_wp2_with fail
    obtain⟨F,sc,P⟩:∃g c,Value.slice I n s=.slice (some ⟨g,0,none⟩) n c:=by
     have D:=m.own;rw[o.out] at D;obtain⟨g,cur,h,-⟩:=nL D (by omega);exact⟨g,s,by rw[h]⟩
    injection P with Q _ R
    subst Q;subst R
    have C:Calls prog 312 #[.slice F n s,.int .i64 (l:Int),.int .i64 (2*(l:Int)+1)] S fun e w'=>e=.returned (.tuple #[])/\QIs w' B qb (.slice F n s) (eD q l (2*l+1))/\aA (QK qb (.slice F n s)) S w':=by
     have X:=m.own;have c:=AX S B F s q (by rw[o.out] at X ⊢;exact X) m.lens m.sls l (2*l+1) _ _ rfl (show 2*(l:Int)+1=(((2*l+1):Nat):Int) by omega) (by rw[o.out];omega) (by rw[o.out];omega);rw[o.out] at c;refine c.mono fun e w' ⟨G,T,h3⟩=>?_
     have E:=m.out;rw[←o.out] at E T;have r:=E.swap (k:=2*l+1) (by rw[o.out];omega) (by rw[o.out];omega) T h3;rw[o.out] at r;exact⟨G,r⟩
    refine C.mono ?_;clear C;rintro e ww ⟨rfl,E,u⟩;have m:=O E;have z:=O (z.trans u);have J:Hid (cO aS n es i n=cO aS M (eD q l (2*l+1)) (2*l+1) n):=O (by rw[Y.out,AY G U.out A.out]);have L:Hid ((eD q l (2*l+1)).length=n):=O (by rw[mL];exact o.out);clear E u N;go_wp2
    go_roundw
    case rel=>exact⟨2*l+1,M,eD q l (2*l+1),by go_num,by omega,by omega,L,J,m,z⟩
    case measure=>simp[intOf];omega
 ·have qe:(n:Int)≤2*(l:Int)+1:=by omega
  have K:Hid ((cO aS n es i n).1=q):=O (by rw[Y.out,Jg G]);have Z:Hid (∀b,oJ w B qb (.slice I n s) (cO aS n es i n).1 (.returned (.bool b)) wr):=O (fun b=>⟨⟨_,rfl⟩,by rw[K.out];exact m.out,z.out⟩);clear K;go_wp2;go_ret;exact Z.out _
open Go.RowKit Go.Maps Go.ChangeMaps
set_option maxRecDepth 100000
set_option linter.unusedVariables false
theorem FG(w:World)(a:Option Addr)(n c:Nat):Calls prog 310 #[.slice a n c] w fun e w'=>e=.returned (.int .i64 (n:Int))/\w=w':=by
 go_in;go_wp2;go_ret;exact⟨rfl,rfl⟩
theorem NX(b:q.length=n):nH aS q (k+1)=nH aS (cO aS n q k n).1 k:=by
 conv=>lhs;unfold nH
 rw[b]
theorem NY(w:World)(B qb:Nat)(v:Value)(es:List (Value×Ub))(h:QIs w B qb v es)(P:es.length≤64) :
 Calls prog 201 #[.iface 289 (.pointer qb)] w fun e w'=>e=.returned (.tuple #[])/\QIs w' B qb v (sK aS es)/\aA (QK qb v) w w':=by
 obtain⟨u,y,rfl⟩:=h.form;obtain⟨n,I⟩:=zX9 es.length
 rw[I] at h P ⊢;have H:=O h;have M:=O I;have G:=Hc h.box;have Q:(n:Int).tdiv 2=((n / 2:Nat):Int):=by rw[Int.tdiv_eq_ediv_of_nonneg (by omega)];omega
 have l:=O Q;clear h I Q;go_in;go_wp2_with fail;refine(FG w u n y).mono ?_;rintro e V ⟨rfl,rfl⟩;go_wp2_with fail;clear G
 go_loopw [3] (fun t wr=>∃(j:Int) (k:Nat) (q:List (Value×Ub)),t=.int .i64 j/\-1≤j/\j≤64/\Hid (j=(k:Int)-1/\k≤n / 2)/\Hid (q.length=n)/\Hid (nH aS es (n / 2)=nH aS q k)/\Hid (QIs wr B qb (.slice u n y) q)/\Hid (aA (QK qb (.slice u n y)) w wr)) (fun t _=>(intOf t+1).toNat)
 case atStart=>exact⟨((n / 2:Nat):Int)-1,n / 2,es,by first|rfl|(rw[l.out];rfl)|(rw[l.out];go_num)|go_num,by omega,by omega,O ⟨rfl,Nat.le_refl _⟩,M,O rfl,H,O (aA.refl _ _)⟩
 case round =>
 obtain⟨j,k,q,rfl,T,U,f,s,K,N,L⟩:=hrel
 by_cases S:0≤j
 ·have C:Calls prog 237 #[.iface 289 (.pointer qb),.int .i64 j,.int .i64 (n:Int)] wr (oJ wr B qb (.slice u n y) (cO aS n q (k-1) n).1):=FF wr B qb _ q N.out n (k-1) s.out P (by have:=f.out;omega) _ _ (by have:=f.out;omega) rfl
  have J:=O C;clear C;go_wp2_with fail;refine J.mono ?_;rintro e X ⟨⟨b,rfl⟩,r,o⟩;have F:=O r;have D:=O (L.trans o);have m:k=(k-1)+1:=by have:=f.out;omega
  have z:Hid (nH aS es (n / 2)=nH aS (cO aS n q (k-1) n).1 (k-1)):=O (by
   rw[K.out]
   conv=>lhs;rw[m]
   exact NX s.out)
  have E:Hid ((cO aS n q (k-1) n).1.length=n):=O (by rw[(nG aS n q (k-1) n (by rw[s.out];exact Nat.le_refl _)).length_eq];exact s.out);have A:Hid (j-1=((k-1:Nat):Int)-1/\k-1≤n / 2):=O (by have:=f.out;omega);clear r o m J;go_wp2
  go_roundw
  case rel=>exact⟨j-1,k-1,_,rfl,by omega,by omega,A,E,z,F,D⟩
  case measure=>simp[intOf];omega
 ·have R:Hid (sK aS es=q):=O (by
   have h:=f.out;obtain rfl:k=0:=by omega
   unfold sK;rw[M.out,K.out];rfl)
  go_wp2_with fail
  go_end0
  exact⟨rfl,by rw[R.out];exact N.out,L.out⟩
theorem PF(w:World)(qb:Nat):Calls prog 260 #[.iface 289 (.pointer qb),.int .i64 0] w fun e w'=>e=.returned (.tuple #[])/\aA aB w w':=by
 go_in;go_wp2_with fail
 go_loopw [1] (fun t wr=>t=.int .i64 0/\Hid (aA aB w wr)) (fun _ _=>0)
 case atStart=>exact⟨rfl,O (aA.refl _ _)⟩
 case round =>
 obtain⟨rfl,b⟩:=hrel;go_wp2_with fail
 go_end0
 exact⟨rfl,b.out⟩
theorem PG(w:World)(B qb:Nat)(v:Value)(es:List (Value×Ub))(h:QIs w B qb v es)(z:es.length≤64) :
 Calls prog 238 #[.iface 289 (.pointer qb),.int .i64 0] w fun e w'=>e=.returned (.tuple #[])/\QIs w' B qb v (cO aS es.length es 0 es.length).1/\aA (QK qb v) w w':=by
 obtain⟨D,E,rfl⟩:=h.form;have s:=O (FF w B qb _ es h es.length 0 rfl z (Nat.zero_le _) 0 _ rfl rfl);obtain⟨q,C⟩:=zX9 ((cO aS es.length es 0 es.length).1)
 rw[C] at s ⊢;obtain⟨n,A⟩:=zX9 es.length
 rw[A] at s h z ⊢;have y:=Hc h.box;clear C A h;go_in;go_wp2_with fail;refine(FG w D n E).mono ?_;rintro e G ⟨rfl,rfl⟩;go_wp2_with fail;refine s.mono ?_;rintro e F ⟨⟨b,rfl⟩,r,o⟩;have m:=O r;have l:=O o;clear r o y;cases b
 ·go_wp2_with fail
  refine(PF F qb).mono ?_;rintro e w3 ⟨rfl,f⟩;have u:=O (m.keep f);have t:=O (l.trans f.any);clear f;go_wp2_with fail
  go_end0
  exact⟨rfl,u.out,t.out⟩
 ·go_wp2_with fail
  go_end0
  exact⟨rfl,m.out,l.out⟩
open Go.RowKit Go.Maps Go.ChangeMaps
set_option maxRecDepth 100000
set_option linter.unusedVariables false
theorem Do{α:Type}{f:α->List Value}:∀(l:List α) (k:Nat),(∀y∈l,(f y).length=sz)->(l.flatMap f).take (k*sz)=(l.take k).flatMap f
 | [],k,_=>by simp
 | x::l,0,_=>by simp
 | x::l,k+1,h=>by
   have b:=h x (List.mem_cons_self ..);rw[List.flatMap_cons,List.take_succ_cons,List.flatMap_cons,List.take_append,b,Nat.succ_mul,List.take_of_length_le (by rw[b];omega),show k*sz+sz-sz=k*sz by omega,Do l k (fun y e=>h y (List.mem_cons_of_mem _ e))]
theorem NZ{e:Nat}{a:Option Addr}(h:w.ownsRow B e sz (.slice a n c) n xs)(y:k≤n)(A:0<n):w.ownsRow B e sz (.slice a k c) k (xs.take (k*sz)):=by
 have l:k*sz≤n*sz:=Nat.mul_le_mul_right _ y;refine⟨by rw[List.length_take,h.1];omega,.inr ?_⟩;rcases h.2 with⟨b,m⟩|⟨g,o,cur,b,m,r,z,s,t,u⟩
 ·omega
 ·injection b with b _ f
  subst b;subst f;refine⟨g,c,cur,rfl,m,r,by omega,s,t,?_⟩;rw[←u,List.take_take,Nat.min_eq_left l]
theorem FH(m:0<es.length)(h:∀e∈es,p e):∀e∈gN es,p e:=fun e l=>by
 have f:e∈es.set 0 (gD es (es.length-1)):=List.mem_of_mem_take l;rcases List.mem_or_eq_of_mem_set f with b|b
 ·exact h e b
 ·rw[b];exact h _ (List.mem_of_getElem? (nF (by omega)))
theorem QIs.cut{z w3:World}(h:QIs w B qb (.slice g es.length c) es)(b:0<es.length){cur:Array Value}(A:w.heap[g]?=some (.cells cur 287 (0,0)))
 (r:z.heap[g]?=some (.cells (spl cur 0 (cY (gD es (es.length-1)))) 287 (0,0))) (o:w3.heap[qb]?=some (.cells #[.slice g (es.length-1) c] 285 (0,0))) (F:aA (fun j=>j=qb) z w3) :
 QIs w3 B qb (.slice g (gN es).length c) (gN es):=by
 have f:=h.lens _ (List.mem_of_getElem? (nF (q:=es) (i:=es.length-1) (by omega)));have t:=AW h.lens h.own b f A (by rw[Nat.zero_mul];exact r);rw[List.length_set] at t;have u:=NZ t (k:=es.length-1) (by omega) b
 have s:gU (es.set 0 (gD es (es.length-1))):=fun q D=>by
  rcases List.mem_or_eq_of_mem_set D with m|m
  ·exact h.lens q m
  ·rw[m];exact f
 have e:(eP (es.set 0 (gD es (es.length-1)))).take ((es.length-1)*70)=eP (gN es):=Do _ _ fun y E=>eZ (s y E)
 rw[e] at u;have l:g≠qb:=fun e=>h.apart (by rw[e];rfl)
 refine⟨by rw[oI];exact o,?_,FH b h.lens,FH b h.sls⟩;rw[oI];exact F.owns u fun i C e=>l (by cases C;exact e)
theorem N3(h:0<es.length-1):eR aS es=(cO aS (gN es).length (gN es) 0 (gN es).length).1:=by
 unfold eR;rw[if_pos h,oI]
theorem N4(h:¬0<es.length-1):eR aS es=gN es:=by
 unfold eR;rw[if_neg h]
def Jh:List Value:=aV (.slice none 0 0) zUb++[.string ⟨#[]⟩]
theorem Hd(w:World):(zeroValue 287).run prog w=.ok (.agg Jh.toArray) w:=by kernel_rfl
theorem N5(w:World)(B qb:Nat)(v:Value)(es:List (Value×Ub))(h:QIs w B qb v es)(qo:0<es.length)(hm:es.length≤64) :
 Calls prog 202 #[.pointer qb] w fun e w'=>e=.returned (.agg (cY (gD es 0)).toArray)/\∃v',QIs w' B qb v' (eR aS es)/\v'.ownBlock=v.ownBlock/\aA (QK qb v) w w':=by
 obtain⟨va,R,xd,xq,z7⟩:=(Rd.of_owns h.own).form;subst xd;unfold maxLen at z7;obtain⟨g,cur,xe,qc,zq,-⟩:=nL h.own qo;subst xe;have I:=qc;obtain⟨m,qn⟩:=zX9 (es.length-1)
 obtain⟨n,hn⟩:=zX9 es.length
 have zm:n=m+1:=by omega
 have qf:=nF qo;have qg:=nF (q:=es) (i:=m) (by omega);obtain⟨x,hx⟩:=zX9 (gD es 0)
 obtain⟨y,hy⟩:=zX9 (gD es m)
 rw[hx] at qf ⊢;rw[hy] at qg;have hr:=Rd.of_owns h.own;obtain⟨g1,o1,xf,hv,F⟩:=uC h.lens hr qf;obtain⟨g2,o2,xg,zr,K⟩:=uC h.lens hr qg;have e1:g=g1/\0=o1:=by cases hv;exact⟨rfl,rfl⟩
 obtain⟨rfl,rfl⟩:=e1;have e1:g=g2/\0=o2:=by cases zr;exact⟨rfl,rfl⟩
 obtain⟨rfl,rfl⟩:=e1;have f:=eZ (h.lens _ (List.mem_of_getElem? qf));have q7:=eZ (h.lens _ (List.mem_of_getElem? qg))
 have q1:∀u∈cY x,u.oneCell'=true:=by
  obtain⟨a,n,c,h⟩:=h.sls x (List.mem_of_getElem? qf);obtain⟨xv,xu⟩:=x;subst h;exact jX xu
 have q3:∀u∈cY y,u.oneCell'=true:=by
  obtain⟨a,n,c,h⟩:=h.sls y (List.mem_of_getElem? qg);obtain⟨yv,yu⟩:=y;subst h;exact jX yu
 have zo:¬qb=g:=fun e=>h.apart (by rw[e];rfl)
 have H:=O h;have z1:=O qo;have q0:=O zo;rw[Nat.zero_mul] at F;rw[Nat.zero_add] at F K;obtain⟨lx,qq⟩:=zX9 (cY x)
 obtain⟨ly,qe⟩:=zX9 (cY y)
 rw[qq] at f F q1 ⊢;rw[qe] at q7 K q3;have U:=O F;have A:=O K;have D:=O qc;have qt:=O q1;have zv:=O q3;have zz:Hid (cY (gD es (es.length-1))=ly):=O (by rw[qn,hy];exact qe);have r:=O h.box;rw[hn] at zq r;have HN:=O hn;have qi:=O qn;obtain⟨ze,zd⟩:=zX9 Jh
 have Q:ze.length=70:=by rw[←zd];rfl
 have zg:Hid (∀w,(zeroValue 287).run prog w=.ok (.agg ze.toArray) w):=O (by rw[←zd];exact Hd);obtain⟨w1,zt,N,zh,xc⟩:=aM w ze.toArray 287;have o:=N.blk r.out id;have qa:=cell_of_one o;have r:=O o;have U:=O (N.rangeAt U.out);have A:=O (N.rangeAt A.out);have D:=O (N.blk D.out id);have HK:=O N;have t:=O zh;obtain⟨rb,qp⟩:=zX9 w.heap.size
 have X:=O qp;rw[qp] at t;have xl:rb<w1.heap.size:=by omega
 have xp:(0:Int)<(n:Int):=by omega
 have xk:(n:Int)≤64:=by omega
 have xi:70≤cur.size:=by omega
 have xa:0+ly.length≤cur.size:=by omega
 rw[hn] at hm ⊢;have qz:=O zm;clear zm;have qy:=O I;have zy:=O h;have zj:g<w.heap.size:=lt_of_block I;have zp:qb<w.heap.size:=lt_of_block h.box;have zx:=O zj;have z2:=O zp;clear zj zp I;clear h qo zo F K qc q1 q3 hx hy qf qg hv zr hr qq qe qn hn zd N zh xc o zq;go_in
 go_wp2_with (first
  | ((with_reducible show WL (some 2) (.alloc 287));refine aG rfl 287 rfl _ zg.out ze.toArray rfl ?_;rw[zt,qp];clear zt qp)
  | ((with_reducible show WL _ (.load 287 (.tmp 8)));refine ldM g 0 lx U.out gG (cQ f) ?_)
  | ((with_reducible show WL _ (.alloc 287));refine aG rfl 287 rfl _ zg.out ze.toArray rfl ?_)
  | ((with_reducible show WL none (.store 287 (.tmp 3) (.tmp 9)))
     refine aE rfl 287 (.tmp 3) (.tmp 9) rfl w1.heap.size 0 lx rfl rfl ze.toArray _ (heap_alloc_new _ _) (by rw[f,List.size_toArray,Q];exact Nat.le_refl _) (cQ f) qt.out ?_;intro w2 ql zk;rw[aI _ _ (by rw[f,List.size_toArray,Q])] at ql;have P:aA aB w1 w2:=((aA.refl aB w1).alloc _).trans' zk (fun _ _ h=>h.elim) (fun i hi e=>by omega);clear zk;obtain⟨tb,za⟩:=zX9 w1.heap.size
     rw[za] at ql ⊢;have L:=O ql;have z6:=O za;have HK:=O (HK.trans P);have o:=P.blk r.out id;have qa:=cell_of_one o;have r:=O o;have A:=O (P.rangeAt A.out);have D:=O (P.blk D.out id);have t:=O (P.blk t.out id);have xr:rb≠tb:=by omega
     clear ql za P o))
 have zl:(n:Int)-1=(m:Int):=by have:=qz.out;omega
 rw[zl];have xo:(m:Int)<(n:Int):=by have:=qz.out;omega
 have qn:(0:Int)≤(m:Int):=by omega
 have xn:(m:Int)≤(R:Int):=by have:=HN.out;have:=qz.out;omega
 have xh:(R:Int)≤9223372036854775807:=by omega
 clear zl;obtain⟨S,qk⟩:∃S:World->Prop,S=fun w'=>aA (fun j=>j=g) w2 w':=⟨_,rfl⟩
 have Y:=O (show ∀w',S w'->aA (fun j=>j=g) w2 w' from fun w' h=>by rw[qk] at h;exact h);have zf:=O (show ∀w',aA (fun j=>j=g) w2 w'->S w' from fun w' h=>by rw[qk];exact h);have M:S w2.drew:=by rw[qk];exact(aA.refl _ _).drew
 clear qk;refine wp_region_held (S:=S) (by kernel_rfl) ?_;change wpAnyH _ _ _ _ _ _ _ _ w2.drew;have qw:w2.drew.heap[g]?=some (.cells cur 287 (0,0)):=D.out;have qv:w2.drew.rangeAt g (m*70) ly:=A.out;generalize w2.drew=wb at M qw qv ⊢;refine tka 0 (.pointer qb) rfl M ?_;simp only[Act.put,List.setIfInBounds_toArray,List.set_cons_zero,List.set_cons_succ,List.getElem_toArray,List.getElem_cons_zero];refine tnb 1 (.pointer qb) rfl M ?_;refine tnd 2 (.slice g n R) rfl (.inl ⟨by rfl,fun w' zb=>by have c:=(Y w' zb).cell qa q0.out;go_simp⟩) M ?_;refine tna 3 (.pointer qb) rfl M ?_;refine tnb 4 (.pointer qb) rfl M ?_;refine tnd 5 (.slice g n R) rfl (.inl ⟨by rfl,fun w' zb=>by have c:=(Y w' zb).cell qa q0.out;go_simp⟩) M ?_;refine tna 6 (.int .i64 (m:Int)) rfl M ?_;refine tnb 7 (.pointer (some ⟨g,m*70,none⟩)) rfl M ?_;refine wA9 8 ?_;refine wpList_load_mid (by rfl) 287 (.tmp 22) (by rfl) g (m*70) (by rfl) ly _ qv gG rfl (cQ q7) ?_;go_wp2_with fail;refine⟨M,?_⟩;refine tnd 9 (.pointer g) rfl (.inl ⟨by rfl,fun _ _=>by go_simp;first|done|(intro h;omega)⟩) M ?_;refine wA9 10 ?_;refine aE (by rfl) 287 (.tmp 24) (.tmp 23) (by rfl) g 0 ly (by rfl) (by rfl) cur 287 qw xa (cQ q7) zv.out ?_;intro wc zi hk;have zw:=O zi;clear zi;have q4:=zf.out _ ((Y _ M).trans hk);clear M hk;go_wp2_with fail;refine⟨q4,?_⟩;refine wpAnyH_done (by kernel_rfl) ?_ _;have qh:=O (Y _ q4);clear q4 Y zf qw qv qa;obtain⟨w3,zu⟩:=zX9 (wc.setCell ⟨qb,0,none⟩ (.slice g m R))
 have o:=qh.blk r.out q0.out;have qa:=cell_of_one o;have xm:=bP o 0;have Z:=cH o 0 (.slice g m R);rw[zu] at Z;have Z:w3.heap[qb]?=some (.cells #[.slice g m R] 285 (0,0)):=Z;have K3:aA (fun j=>j=qb) wc w3:=by rw[←zu];exact(aA.refl (fun j=>j=qb) wc).setCell (p:=⟨qb,0,none⟩) (fun _=>rfl) _
 have q9:QIs w3 B qb (.slice g (gN es).length R) (gN es):=zy.cut z1.out qy.out (by rw[zz.out];exact zw.out) (by rw[qi.out];exact Z) K3;have q5:(gN es).length=m:=by rw[oI];exact qi.out
 rw[q5] at q9;have V:=O q9;have qx:=O q5;have s:tb≠qb/\tb≠g/\rb≠qb/\rb≠g:=by have:=zx.out;have:=z2.out;have:=X.out;have:=z6.out;omega
 have E:=O s;have L:=O (K3.blk (qh.blk L.out s.2.1) s.1);have t:=O (K3.blk (qh.blk t.out s.2.2.2) s.2.2.1);have HK:=O (((HK.any (S:=QK qb (.slice g n R))).trans (qh.mono (T:=QK qb (.slice g n R)) (fun j _ e=>.inr (by rw[e];rfl)))).trans (K3.mono fun j _ e=>.inl e));clear o Z K3 q9 q5 s r
 by_cases qr:m=0
 ·have qj:Hid (eR aS es=gN es):=O (N4 (by rw[qi.out];omega))
  have xb:¬(0:Int)<(m:Int):=by omega
  have xj:(m:Int)≤0:=by omega
  clear qr
  go_wp2_with (first
   | ((with_reducible show WL _ (.load 287 (.tmp 3)));refine ldM tb 0 lx (aD L.out) gG (cQ f) ?_)
   | ((with_reducible show WL none (.store 287 (.tmp 2) (.tmp 37)))
      refine aE rfl 287 (.tmp 2) (.tmp 37) rfl rb 0 lx rfl rfl ze.toArray _ t.out (by rw[f,List.size_toArray,Q];exact Nat.le_refl _) (cQ f) qt.out ?_;intro w6 J qd;rw[aI _ _ (by rw[f,List.size_toArray,Q])] at J;have qu:=O J;have G:=O qd;clear J qd))
  refine bodyPost_ret (results_cell_row rfl _ _ rb _ _ _ _ rfl qu.out gG rfl (by rw[List.size_toArray];exact cQ f)) rfl ⟨rfl,.slice g m R,?_,rfl,?_⟩
  ·rw[qj.out]
   have hq:=V.out;exact⟨G.blk hq.box (fun e=>E.2.2.1 e.symm),G.owns hq.own (fun i hi e=>E.2.2.2 (by cases hi;exact e.symm)),hq.lens,hq.sls⟩
  ·exact HK.tT G.out (fun i hi e=>by have:=X.out;omega)
 ·have qj:Hid (eR aS es=(cO aS (gN es).length (gN es) 0 (gN es).length).1):=O (N3 (by rw[qi.out];omega))
  have xb:(0:Int)<(m:Int):=by omega
  have C:=O (PG w3 B qb _ (gN es) (by rw[←qx.out] at V;exact V.out) (by rw[qx.out];omega));rw[qx.out] at C qj;clear qr;go_wp2_with fail;refine C.out.mono ?_;rintro e w4 ⟨rfl,zn,qm⟩;have V:=O zn;have L:=O (qm.blk L.out (fun e=>e.elim (fun e=>E.1 e) (fun e=>E.2.1 (by cases e;rfl))));have t:=O (qm.blk t.out (fun e=>e.elim (fun e=>E.2.2.1 e) (fun e=>E.2.2.2 (by cases e;rfl))));have HK:=O (HK.trans (qm.mono fun j _ e=>e.elim .inl (fun e=>.inr (by rw[←e];rfl))));clear zn qm C
  go_wp2_with (first
   | ((with_reducible show WL _ (.load 287 (.tmp 3)));refine ldM tb 0 lx (aD L.out) gG (cQ f) ?_)
   | ((with_reducible show WL none (.store 287 (.tmp 2) (.tmp 37)))
      refine aE rfl 287 (.tmp 2) (.tmp 37) rfl rb 0 lx rfl rfl ze.toArray _ t.out (by rw[f,List.size_toArray,Q];exact Nat.le_refl _) (cQ f) qt.out ?_;intro w6 J qd;rw[aI _ _ (by rw[f,List.size_toArray,Q])] at J;have qu:=O J;have G:=O qd;clear J qd))
  refine bodyPost_ret (results_cell_row rfl _ _ rb _ _ _ _ rfl qu.out gG rfl (by rw[List.size_toArray];exact cQ f)) rfl ⟨rfl,.slice g m R,?_,rfl,?_⟩
  ·rw[qj.out]
   have hq:=V.out;exact⟨G.blk hq.box (fun e=>E.2.2.1 e.symm),G.owns hq.own (fun i hi e=>E.2.2.2 (by cases hi;exact e.symm)),hq.lens,hq.sls⟩
  ·exact HK.tT G.out (fun i hi e=>by have:=X.out;omega)
open Go.RowKit Go.Maps Go.ChangeMaps
set_option maxRecDepth 100000
set_option linter.unusedVariables false
theorem PH:(prog.info? 287).map (fun i=>(i.zero,i.size,i.bytes))=some (some (.agg Jh.toArray),70,136):=by kernel_rfl
theorem PI(b:List Value)(h:b.length=69):b=(List.range 69).map fun i=>b.getD i undef:=by
 apply List.ext_getElem?;intro i;rw[List.getElem?_map]
 by_cases e:i<69
 ·rw[List.getElem?_range e,List.getElem?_eq_getElem (by omega)]
  simp[List.getD,List.getElem?_eq_getElem (show i<b.length by omega)]
 ·rw[List.getElem?_eq_none (by omega),List.getElem?_eq_none (by simp;omega)];rfl
theorem Ji(f:Nat->Value)(s:ByteArray):prog.built 287 [(0,.agg ((List.range 69).map f).toArray),(1,.string s)]=some ((List.range 69).map f++[Value.string s]).toArray:=by kernel_rfl
theorem N6(b:List Value)(h:b.length=69)(s:ByteArray)(w:World):(Instr.build 287 #[(0,.agg b.toArray),(1,.string s)]).run prog w=.ok (.agg (b++[Value.string s]).toArray) w:=by
 refine run_build w 287 _ _ ?_;rw[PI b h];exact Ji _ s
theorem Jj(v b:Value)(u:Ub):(cY (v,u)).toArray.setIfInBounds 1 b=(cY (b,u)).toArray:=by rw[List.setIfInBounds_toArray];rfl
def kR(b:List (Value×Ub)):List (Value×Ub):=b.filter fun p=>p.2.may
theorem Dp(b:List (Value×Ub))(p:Value×Ub):kR (b++[p])=kR b++if p.2.may=true then [p] else []:=by
 unfold kR;rw[List.filter_append]
 by_cases h:p.2.may=true
 ·rw[if_pos h];simp[h]
 ·rw[if_neg h];simp[h]
theorem rU(b:List (Value×Ub)):∀p∈kR b,p∈b/\p.2.may=true:=fun p h=>List.mem_filter.1 h
def FJ(w:World)(L:List Ub)(e:Ending)(w':World):Prop:=
 ∃v qs,e=.returned v/\w'.ownsRow w.heap.size 71 69 v qs.length (dS qs)/\rR L (qs.map (·.2))/\fD w' w.heap.size qs/\aA aB w w'/\qs.length≤L.length
theorem PJ{f b:List (Value×Ub)}(r:gU f)(h:b.map (·.2)=(fA kB [] (rS (kR f))).map (·.2)):rR (f.map (·.2)) (b.map (·.2)):=by
 have s:∀e∈kR f,sL e.2:=fun e l=>⟨(r e (rU f e l).1).2,(r e (rU f e l).1).1,(rU f e l).2⟩
 have o:=Jd s;rw[←h] at o;refine⟨o.1,fun u=>⟨fun m=>?_,fun m=>(o.2 u).2 ?_⟩⟩
 ·have:=(o.2 u).1 m
  obtain⟨e,l,rfl⟩:=List.mem_map.1 this.1;exact⟨List.mem_map.2 ⟨e,(rU f e l).1,rfl⟩,this.2⟩
 ·obtain⟨e,l,rfl⟩:=List.mem_map.1 m.1
  exact⟨List.mem_map.2 ⟨e,List.mem_filter.2 ⟨l,m.2⟩,rfl⟩,m.2⟩
theorem BQ(h:q.length=j+1):nJ aS q.length q=gD q 0::nJ aS (eR aS q).length (eR aS q)/\(eR aS q).length=j:=by
 match q,h with
 | x::t,h =>
   have b:(eR aS (x::t)).length=j:=by rw[(vR aS).length_eq];simpa using h
   rw[b,h];exact⟨rfl,rfl⟩
theorem BR{P:Program}{e:Array Oper}{rest:List Oper}{o:Oper}{a:Act}{Q:Exit->Act->World->Prop}(r:o.guard=none)(t:TypeId)(b:Array (Nat×Operand))(s:o.op=.build t b)
 (vs:List (Nat×Value)) (y:(b.toList.map fun p=>(p.1,a.eval p.2))=vs) (u:Value) (m:∀w,(Instr.build t vs.toArray).run P w=.ok u w) (h:wpList P e Q rest (a.put o.dst u) w):wpList P e Q (o::rest) a w:=by
 have f:(b.map fun(x:Nat×Operand)=>match x with|(i,x)=>(i,a.eval x))=vs.toArray:=by
  rw[←y];apply Array.ext';rw[Array.toList_map,List.toList_toArray]
 refine wpList_plain r fun K l=>?_
 unfold Oper.wp execOp;simp only[s,f,Sem.run_bind,m,Result.andThen_ok,Sem.run_pure];exact l _ _ h
theorem Aj{b o:Nat}{ys:List Value}(h:w.rangeAt b o (xs++ys)):w.rangeAt b o xs:=fun j v e =>
 h j v (by rw[List.getElem?_append_left (List.getElem?_eq_some_iff.1 e).1];exact e)
theorem LL(h:kB x=(d.getLast?.map kB).getD []):fA kB [] (d++[x])=fA kB [] d:=by rw[qL,if_pos h,List.append_nil]
theorem N7(h:kB x≠(d.getLast?.map kB).getD []):fA kB [] (d++[x])=fA kB [] d++[x]:=by rw[qL,if_neg h]
theorem Dq(d:List (Value×Ub))(x:Value×Ub):((d++[x]).getLast?.map kB).getD []=kB x:=by rw[List.getLast?_append];rfl
def N8(qb:Nat)(w:World):Nat:=match w.cell? ⟨qb,0,none⟩ with|some (.slice _ n _)=>n|_=>0
theorem zF(h:QIs w B qb v es):N8 qb w=es.length:=by
 obtain⟨a,c,rfl⟩:=h.form;unfold N8;rw[cell_of_one h.box]
structure Jk(w wr:World)(qb:Nat)(ps:List (Value×Ub))(d q outs:List (Value×Ub))(vo:Value)(was:List UInt8):Prop where
 all:rS (kR ps)=d++nJ aS q.length q
 once:outs.map (·.2)=(fA kB [] d).map (·.2)
 was:was=(d.getLast?.map kB).getD []
 own:wr.ownsRow w.heap.size 71 69 vo outs.length (dS outs)
 ubs:fD wr w.heap.size outs
 keep:aA aB w wr
 len:outs.length≤d.length
 sum:d.length+q.length≤ps.length
theorem N9(w:World)(v:Value)(I:List (Value×Ub))(hr:Rd w 69 v I.length (dS I))(hV:yL w I)(hl:I.length≤64)(ha:∀p∈I,p.2.root.addrs.length≤65536) :
 Calls prog 136 #[v] w (FJ w (I.map (·.2))):=by
 obtain⟨oa,ca,rfl,-,-⟩:=hr.form;obtain⟨n,hn⟩:=zX9 I.length
 have HN:=O hn;have HR:=O hr;have HV:=O hV;have HA:=O ha;have HL:=O hV.lens;rw[hn] at hl ⊢;obtain⟨zc,uk,ul⟩:∃zc,aV (.slice none 0 0) zUb=zc/\zc.length=69:=⟨_,rfl,rfl⟩
 have um:∀w,(zeroValue 71).run prog w=.ok (.agg zc.toArray) w:=by rw[←uk];exact kQ
 obtain⟨ze,zw⟩:=zX9 Jh
 have qp:ze.length=70:=by rw[←zw];rfl
 have vt:Hid (∀w,(zeroValue 287).run prog w=.ok (.agg ze.toArray) w):=O (by rw[←zw];exact Hd);have vg:Hid ((prog.info? 287).map (fun i=>(i.zero,i.size,i.bytes))=some (some (.agg ze.toArray),70,136)):=O (by rw[←zw];exact PH);clear hr hV hn ha uk zw;have ja:=O um;clear um;obtain⟨w1,jl,v7,vy,ji⟩:=aM w #[.slice none 0 0] 285;have vm:Hid (QIs w1 w.heap.size w.heap.size (.slice none 0 0) []):=O ⟨vy,World.ownsRow_nil _ _ _ _,(fun p R=>by cases R),fun p R=>by cases R⟩;obtain⟨qb,x3⟩:=zX9 w.heap.size
 have za:=O x3;have uz:=O v7;have jr:qb<w1.heap.size:=by omega
 rw[x3] at vm;clear v7 vy ji;go_in;go_wp2_with fail;clear jl x3
 go_loopw [13] (fun i wr=>∃(k:Nat) (qv:Value),k≤n/\i=.int .i64 k/\Hid (QIs wr qb qb qv (kR (I.take k)))/\Hid (aA aB w wr)) (fun i _=>n-(intOf i).toNat)
 case atStart=>exact⟨0,_,Nat.zero_le _,rfl,vm,uz⟩
 case round =>
 obtain⟨k,qv,hk,rfl,HQ,HK⟩:=hrel
 by_cases jd:k<n
 ·have j1:(k:Int)<(n:Int):=by omega
  have jz:(0:Int)≤(k:Int):=by omega
  obtain⟨p,R⟩:∃p,I[k]?=some p:=⟨I[k]'(by rw[HN.out];exact jd),List.getElem?_eq_getElem _⟩
  have uh:=HR.keep HK.out fun _ _=>id
  obtain⟨g,o,ju,hv,xj⟩:=OE HL.out uh R;have e1:oa=some ⟨g,o,none⟩:=by cases hv;rfl
  subst e1;have x2:=List.mem_of_getElem? R;have q5:=(HV.keep HK.out) p x2;have jf:=HA.out p x2;have xf:Hid (I.take (k+1)=I.take k++[p]):=O (by rw[List.take_add_one,R];rfl);obtain⟨pv,pu⟩:=p;obtain⟨ba,bc,v1,-,-⟩:=q5.root.rd.form;have v2:pv=.slice ba pu.root.addrs.length bc:=v1;subst v2;have qd:=bZ (v:=.slice ba pu.root.addrs.length bc) q5.root.sum q5.pool;have zv:=fV (oa:=ba) (n:=pu.root.addrs.length) (ca:=bc) pu;have xr:=jX (oa:=ba) (n:=pu.root.addrs.length) (ca:=bc) pu;obtain⟨sv,x6⟩:=zX9 (Value.slice ba pu.root.addrs.length bc)
  have u5:Hid (∃a n c,sv=.slice a n c):=O ⟨_,_,_,x6.symm⟩;rw[x6] at q5 qd zv xr xj xf;obtain⟨uc,zu⟩:=zX9 (aV sv pu)
  have vr:=O zu;rw[zu] at qd zv;have uq:Hid (wr.rangeAt g (o+k*69) uc):=O (by rw[←zu];exact xj);have u4:Hid (UbV wr sv pu):=O q5;have u6:=O zv;have ux:=O xr;obtain⟨B1,vw⟩:=zX9 wr.heap.size
  have ur:=O vw;clear R uh hv xj x2 q5 jf zu zv xr v1 vw x6
  go_wp2_with (first
   | ((with_reducible show WL _ (.load 71 (.tmp 15)));refine ldM g (o+k*69) uc uq.out cP (cR qd) ?_)
   | ((with_reducible show WL _ (.alloc 71));refine aG rfl 71 rfl _ ja.out zc.toArray rfl ?_)
   | ((with_reducible show WL none (.store 71 (.tmp 5) (.tmp 16)));(refine aE rfl 71 (.tmp 5) (.tmp 16) rfl wr.heap.size 0 uc rfl rfl zc.toArray 71 (heap_alloc_new _ _) (by rw[List.size_toArray,ul,qd];exact Nat.le_refl _) (cR qd) u6.out ?_)
      intro G zp K;rw[aI _ _ (by rw[List.size_toArray,ul,qd])] at zp;have q0:aA aB wr G:=((aA.refl aB wr).alloc _).tT K (fun i Z e=>by omega);have zx:=O (u4.keep q0 fun _ _=>id);rw[ur.out] at zp ⊢;have zm:=O zp;have u0:=O (HK.trans q0);have r:=O (HQ.keep q0);clear zp K q0)
   | ((with_reducible show WL _ (.load 71 (.tmp 5)));refine ldM B1 0 uc (aD zm.out) cP (cR qd) ?_))
  refine(show Calls prog 139 #[.agg uc.toArray] G (yA G pu) from by rw[←vr.out];exact yB G _ pu zx.out).mono ?_;rintro e w3 ⟨v3,rfl,ue,N⟩;have zm:=O (N.blk zm.out id);have vh:=O (u0.trans N);have ql:=O (r.keep N);have zy:=O (zx.keep N fun _ _=>id);have zk:=Rd.of_owns ue;have xo:=tQ zk;clear ue N;obtain⟨a3,c3,jk,-,-⟩:=zk.form;subst jk;obtain⟨l3,ud⟩:=zX9 ((aY pu).length)
  rw[ud] at xo ⊢;obtain⟨st,qx⟩:=zX9 (fG (aY pu))
  have qq:=O qx;rw[qx] at xo;clear qx ud zk;cases hm:pu.may
  ·have HM:Hid (kR (I.take (k+1))=kR (I.take k)):=O (by rw[xf.out,Dp,if_neg (by rw[hm];decide),List.append_nil])
   clear hm xo;rw[if_neg Bool.false_ne_true];go_wp2
   go_roundw
   case rel=>exact⟨k+1,qv,by omega,by go_num,by rw[HM.out];exact ql,vh⟩
   case measure=>simp[intOf];omega
  ·have HM:Hid (kR (I.take (k+1))=kR (I.take k)++[(sv,pu)]):=O (by rw[xf.out,Dp,if_pos hm])
   rw[if_pos rfl];obtain⟨es,xt⟩:=zX9 (kR (I.take k))
   have zh:es.length≤63:=by
    have D:es.length≤(I.take k).length:=by rw[←xt];exact List.length_filter_le _ _
    rw[List.length_take] at D;omega
   rw[xt] at HM ql;obtain⟨qa,qc,rfl⟩:=ql.form;obtain⟨m,qi⟩:=zX9 es.length
   have y:=O qi;have u1:Hid (w3.ownsRow qb 287 70 (.slice qa m qc) m (eP es)):=O (by rw[←qi];exact ql.own);have F:=ql.box;rw[qi] at F zh;have xn:=cell_of_one F;have uu:=O F;have xl:=N6 uc qd st;have zg:(uc++[Value.string st]).length=70:=by rw[List.length_append,qd];rfl
   obtain⟨ec,xq⟩:=zX9 (uc++[Value.string st])
   have ve:Hid (cY (sv,pu)=ec):=O (by rw[←xq,←vr.out,←qq.out];rfl);have vf:Hid (∀u∈ec,u.oneCell'=true):=O (by rw[←ve.out];exact ux.out);rw[xq] at xl zg;have ut:=O xl;have zj:qb<w3.heap.size:=lt_of_block F;clear hm xt qi F xq xl
   go_wp2_with (first
    | ((with_reducible show WL _ (.load 71 (.tmp 5)));refine ldM B1 0 uc (aD zm.out) cP (cR qd) ?_)
    | ((with_reducible show WL _ (.build _ _));refine BR rfl 287 #[(0,.tmp 25),(1,.tmp 27)] rfl [(0,.agg uc.toArray),(1,.string st)] rfl (.agg ec.toArray) ut.out ?_)
    | ((with_reducible show WL _ (.buildSlice _ 1 _));refine bX rfl 285 287 (.tmp 28) rfl underlying285 vg.out (by decide) (ec) zg (by decide) rfl ?_
       have C:aA aB w3 (w3.alloc (.cells (ec).toArray 287)):=(aA.refl _ _).alloc _;have zb:=O (eL (n:=1) (size:=70) (heap_alloc_new w3 (.cells (ec).toArray 287)) zg (by unfold maxLen;omega));have L:=O C;have x4:w3.heap.size≤(w3.alloc (.cells (ec).toArray 287)).heap.size:=by rw[World.size_alloc];omega
       obtain⟨zz,qf⟩:=zX9 w3.heap.size
       rw[qf] at zb x4 ⊢;have un:w3.heap.size≤zz:=Nat.le_of_eq qf;have u8:=O qf;clear qf;generalize xi:w3.alloc (.cells (ec).toArray 287)=T at *;clear xi C)
    | (have vk:=O (L.owns u1.out fun _ _=>id)
       have jn:qb≤T.heap.size:=Nat.le_trans (Nat.le_of_lt zj) L.size
       (at_builtin;refine aK rfl (.tmp 24) (.tmp 29) 285 rfl qb 287 (.agg ze.toArray) 70 136 underlying285 vg.out (by show ze.toArray.size=70;rw[List.size_toArray];exact qp) (by decide) (.slice qa m qc) (m) (eP es) rfl vk.out (.slice zz 1 1) (1) (ec) rfl zb.out vf.out (by unfold maxLen;omega) (by omega) (by omega) ?_
        intro v' w6 qu P xz Y;obtain⟨g',qz,rfl⟩:=ownsRow_succ qu;have qk:=O qu;have qj:=O P;have us:=O Y;clear qu P xz Y)
       have qn:=qj.blk (L.blk uu.out id) (fun e=>(ql.keep L.out).apart (by rw[y.out];exact e));have jo:=cell_of_one qn;have jp:=bP qn 0;obtain⟨w7,x9⟩:=zX9 (w6.setCell ⟨qb,0,none⟩ (.slice g' (m+1) qz))
       have uf:QIs w7 qb qb (.slice g' (m+1) qz) (es++[(sv,pu)]):=by
        have jc:(es++[(sv,pu)]).length=m+1:=by rw[List.length_append,y.out];rfl
        refine⟨by rw[←x9];exact cH qn 0 _,?_,fun p R=>?_,fun p R=>?_⟩
        ·rw[jc,DY,Je,ve.out,←x9]
         have x0:g'≠qb:=fun e=>by
          obtain⟨cur,hc⟩:=aH qk.out (k:=g') rfl;rw[e,qn] at hc;cases hc
         exact((aA.refl (fun j=>j=qb) w6).setCell (p:=⟨qb,0,none⟩) (fun _=>rfl) _).owns qk.out (fun i Z e=>x0 (by cases Z;exact e))
        ·rcases List.mem_append.1 R with R|R
         ·exact ql.lens p R
         ·obtain rfl:p=(sv,pu):=by simpa using R
          exact⟨zy.root.sum,zy.pool⟩
        ·rcases List.mem_append.1 R with R|R
         ·exact ql.sls p R
         ·obtain rfl:p=(sv,pu):=by simpa using R
          exact u5.out
       have ua:aA aB w w7:=by
        rw[←x9];exact(((vh.trans L.out).trans' qj.out (U:=aB) (fun _ _ h=>h) (fun i Z e=>by have:=aX vk.out e;have:=za.out;omega)).setCell (p:=⟨qb,0,none⟩) (fun h=>absurd h (by have:=za.out;show ¬qb<_;omega)) _)
       have q9:=O uf;have zn:=O ua;clear uf ua qn))
   go_roundw
   case rel=>exact⟨k+1,_,by omega,by go_num,by rw[HM.out];exact q9,zn⟩
   case measure=>simp[intOf];omega
 ·obtain rfl:k=n:=by omega
  rw[List.take_of_length_le (by rw[HN.out];exact Nat.le_refl _)] at HQ;have zh:(kR I).length≤I.length:=List.length_filter_le _ _;rw[HN.out] at zh;have uw:=O zh;have HI:=O (NY wr qb qb qv _ HQ.out (by omega));have F:=HQ.box;clear zh F;go_wp2_with fail;refine HI.mono ?_;rintro e G ⟨rfl,qo,K⟩
  have vx:aA aB w G:=HK.tT K (fun i Z e=>by
   have hB:=za.out;rcases e with e|e
   ·omega
   ·have:=aX HQ.own e;omega)
  have vd:Hid (Jk w G qb I [] (sK aS (kR I)) [] (.slice none 0 0) []):=O
   ⟨by rw[List.nil_append,(nI aS _).length_eq];rfl,rfl,rfl,World.ownsRow_nil _ _ _ _,(fun q hq=>by cases hq),vx,Nat.le_refl _,by rw[(nI aS _).length_eq,List.length_nil,HN.out];have:=uw.out;omega⟩
  have r:=O qo;have xb:∃(Q:Value) (q:List (Value×Ub)),Hid (QIs G qb qb Q q)/\Hid (Jk w G qb I [] q [] (.slice none 0 0) []):=⟨qv,_,r,vd⟩
  clear qo K vx HI vd r;go_wp2_with fail
  go_loopw [8,9] (fun o s wr=>∃(pa:Option Addr) (pc j:Nat) (was:List UInt8) (d q f:List (Value×Ub)) (qv:Value),o=.slice pa j pc/\s=.string (fG was)/\Hid (f.length=j)/\Hid (QIs wr qb qb qv q)/\Hid (Jk w wr qb I d q f (.slice pa j pc) was)) (fun _ _ wr=>N8 qb wr)
  case atStart =>
   obtain⟨Q,q,D,h2⟩:=xb;exact⟨none,0,0,[],[],q,[],Q,rfl,rfl,O rfl,D,h2⟩
  case round =>
  clear xb;obtain⟨pa,pc,j,was,d,q,f,qv,rfl,rfl,HJ,HQ,HB⟩:=hrel;obtain⟨qa,qc,rfl⟩:=HQ.form;obtain⟨m,qi⟩:=zX9 q.length
  have y:=O qi;have j2:m≤64:=by have D:=HB.sum;rw[HN.out,qi] at D;omega
  have F:=HQ.box;rw[qi] at F;have xn:=cell_of_one F;clear F qi
  by_cases je:m=0
  ·subst je
   have HW:Hid (FJ w (I.map (·.2)) (.returned (.slice pa j pc)) wr):=O (by
    have X:=HB.out;have jg:q=[]:=List.eq_nil_of_length_eq_zero y.out;subst jg;have hd:rS (kR I)=d:=by rw[X.all];exact List.append_nil _
    have v6:f.length=j:=HJ.out;refine⟨_,f,rfl,by rw[v6];have:=X.own;rw[v6] at this;exact this,PJ HL.out (by rw[hd];exact X.once),X.ubs,X.keep,?_⟩;rw[List.length_map];have D:=X.len;have h2:=X.sum;omega)
   go_wp2;go_ret;exact HW.out
  ·have j3:(0:Int)<(m:Int):=by omega
   have zo:=O (N5 wr qb qb _ q HQ.out (by rw[y.out];omega) (by rw[y.out];omega));obtain⟨⟨xv,E⟩,hx⟩:∃x,gD q 0=x:=⟨_,rfl⟩
   have jm:(xv,E)∈q:=List.mem_of_getElem? (by rw[←hx];exact nF (by rw[y.out];omega))
   have uj:(xv,E)∈kR I:=by
    refine(sM _).mem_iff.1 ?_;rw[HB.all];refine List.mem_append.2 (.inr ?_);obtain⟨j',xx⟩:∃j',q.length=j'+1:=⟨m-1,by rw[y.out];omega⟩
    rw[(BQ xx).1,hx];exact List.mem_cons_self ..
   have va:=(rU I _ uj).1;have qm:Hid (UbV w xv E):=O (HV _ va);have u7:Hid (E.root.addrs.length≤65536):=O (HA _ va);rw[hx,y.out] at zo;have HX:=O hx;clear jm uj va hx;obtain⟨xa,xc,zl,-,-⟩:=qm.root.rd.form;have zl:xv=.slice xa E.root.addrs.length xc:=zl;have qt:=eZ (p:=(xv,E)) ⟨qm.root.sum,qm.pool⟩;have vu:∀u∈cY (xv,E),u.oneCell'=true:=by rw[zl];exact jX E
   obtain⟨lx,q1⟩:=zX9 (cY (xv,E))
   have q7:=O q1;have vc:Hid (∀u∈lx,u.oneCell'=true):=O (by rw[←q1];exact vu);rw[q1] at zo qt;have xg:=O zl;have jx:=O HB.keep
   have q3:Hid (nJ aS q.length q=(xv,E)::nJ aS (eR aS q).length (eR aS q)/\(eR aS q).length+1=m):=O (by
    obtain⟨j',xx⟩:∃j',q.length=j'+1:=⟨m-1,by rw[y.out];omega⟩
    have D:=BQ xx;refine⟨by rw[D.1,HX.out],?_⟩;have:=y.out;omega)
   obtain⟨st,qx⟩:=zX9 (fG (aY E))
   obtain⟨sw,zt⟩:=zX9 (fG was)
   have qq:=O qx;have jt:=O zt;have x5:(st.toList == sw.toList)=decide (aY E=was):=by rw[←qx,←zt];exact yZ _ _
   rw[zt];obtain⟨jv,z6⟩:=zX9 (eR aS q)
   have js:=O z6;clear q1 vu zl qx zt z6
   by_cases zr:aY E=was
   case' pos =>
    have he:(st.toList == sw.toList)=true:=by rw[x5];exact decide_eq_true zr
   case' neg =>
    have he:(st.toList == sw.toList)=false:=by rw[x5];exact decide_eq_false zr
   all_goals clear x5
   case neg =>
    go_wp2_with fail;refine zo.mono ?_;rintro e G ⟨rfl,Q,qo,jh,K⟩;have r:=O qo
    have H:Hid (aA aB w G):=O (HB.keep.tT K (fun i Z e=>by
     have hB:=za.out;rcases e with e|e
     ·omega
     ·have D:=HQ.own;rw[y.out] at D;have:=aX D e;omega))
    have zi:∀i,QK qb (.slice qa m qc) i->i=qb\/∃cur,wr.heap[i]?=some (.cells cur 287 (0,0)):=fun i e=>by
     rcases e with e|e
     ·exact .inl e
     ·have D:=HQ.own;rw[y.out] at D;exact .inr (aH D e)
    have M:∀(e:TypeId) (B s n:Nat) (v:Value) (xs:List Value),e≠287->e≠285->wr.ownsRow B e s v n xs->G.ownsRow B e s v n xs:=fun e B s n v xs zf xp ho=>K.owns ho (fun i Z h=>by
     obtain⟨cur,hc⟩:=aH ho Z;rcases zi i h with h|⟨z2,h⟩
     ·have h2:=HQ.box;rw[←h,hc] at h2;cases h2;exact xp rfl
     ·rw[hc] at h;cases h;exact zf rfl)
    have qe:Hid (G.ownsRow w.heap.size 71 69 (.slice pa j pc) j (dS f)):=O (by have D:=HB.own;rw[HJ.out] at D;exact M _ _ _ _ _ _ (by decide) (by decide) D)
    have V:Hid (fD G w.heap.size f):=O (fun q hq=>by
     obtain⟨a,b,c,d⟩:=HB.ubs q hq;exact⟨a,b,c,M _ _ _ _ _ _ (by decide) (by decide) d⟩)
    have A:Hid (UbV G xv E):=O (qm.keep H.out fun _ _=>id);have F:=r.box;have zj:qb<G.heap.size:=lt_of_block F;clear qo zi M F xn
    go_wp2_with (first
     | ((with_reducible show WL _ (.alloc 287));refine aG rfl 287 rfl _ vt.out ze.toArray rfl ?_)
     | ((with_reducible show WL none (.store 287 (.tmp 10) (.tmp 37)))
        refine aE rfl 287 (.tmp 10) (.tmp 37) rfl G.heap.size 0 lx rfl rfl ze.toArray _ (heap_alloc_new _ _) (by rw[qt,List.size_toArray,qp];exact Nat.le_refl _) (cQ qt) vc.out ?_;intro w3 J N;rw[aI _ _ (by rw[qt,List.size_toArray,qp])] at J;have C:aA aB G w3:=((aA.refl aB G).alloc _).trans' N (fun _ _ h=>h.elim) (fun i Z e=>by omega);clear N;obtain⟨S,qy⟩:=zX9 G.heap.size
        rw[qy] at J ⊢;have vo:=O J;have zd:w3.cell? ⟨S,69,none⟩=some (.string st):=aC J (by rw[←qq.out,←q7.out,List.getElem?_toArray];unfold cY;rw[List.getElem?_append_right (by rw[bZ A.root.sum A.pool];omega),bZ A.root.sum A.pool];rfl);have xm:w3.cell? ⟨S,1,none⟩=some (.slice xa E.root.addrs.length xc):=aC J (by rw[←q7.out,xg.out,List.getElem?_toArray];rfl);have xe:=r;have H:=O (H.trans C);have r:=O (r.keep C);have qe:=O (C.owns qe.out fun _ _=>id);have V:=O (V.keep C);have A:=O (A.keep C fun _ _=>id);have ui:S≠qb:=by omega
        have ug:Q.ownBlock≠some S:=fun e=>by
         obtain⟨cur,hc⟩:=aH xe.own e;have:=lt_of_block hc;omega
        have jj:w.heap.size≤S:=by rw[←qy];have:=HB.keep.size;have:=K.size;omega
        clear J qy C zj))
    refine(jU w3 _ E.root.addrs (by rw[←xg.out];exact A.root.rd) u7.out).mono ?_;rintro e w4 ⟨v4,rfl,x1,qr⟩;obtain⟨a4,c4,x7,-,-⟩:=(Rd.of_owns x1).form;have q4:=bZ (v:=v4) A.root.sum A.pool;have xh:∀u∈aV v4 E,u.oneCell'=true:=by rw[x7];exact fV E
    obtain⟨T,x8⟩:=zX9 (w4.setCell ⟨S,1,none⟩ v4)
    have zq:=qr.blk vo.out id;have jy:=bP zq 1;have jw:w4.cell? ⟨S,1,none⟩=some (.slice xa E.root.addrs.length xc):=qr.cell xm id
    have Y:T.heap[S]?=some (.cells (aV v4 E++[Value.string st]).toArray 287 (0,0)):=by
     have D:=cH zq 1 v4;rw[x8,←q7.out,Jj xv v4 E] at D;rw[D,←qq.out];rfl
    have P:aA (fun i=>i=S) w4 T:=by rw[←x8];exact(aA.refl (fun i=>i=S) w4).setCell (p:=⟨S,1,none⟩) (fun _=>rfl) _
    have z7:aA (fun i=>i=S) w3 T:=qr.any.trans P
    have qh:∀(e B s n:Nat) (v:Value) (xs:List Value),e≠287->w4.ownsRow B e s v n xs->T.ownsRow B e s v n xs:=fun e B s n v xs zf ho=>P.owns ho (fun i Z h=>by
     obtain⟨cur,hc⟩:=aH ho Z;rw[h,zq] at hc;cases hc
     exact zf rfl)
    have vi:=H;have H:=O (H.tT z7 (fun i Z e=>by omega))
    have r:Hid (QIs T qb qb Q (eR aS q)):=O (by
     have D:=r.keep qr;refine⟨P.blk D.box (fun e=>ui e.symm),?_,D.lens,D.sls⟩;refine P.owns D.own (fun i Z e=>?_);rw[e] at Z;exact ug Z)
    have qe:=O (qh _ _ _ _ _ _ (by decide) (qr.owns qe.out fun _ _=>id))
    have V:Hid (fD T w.heap.size f):=O (fun p R=>by
     obtain⟨a,b,c,d⟩:=V.keep qr p R;exact⟨a,b,c,qh _ _ _ _ _ _ (by decide) d⟩)
    have u2:Hid (T.ownsRow w.heap.size 93 2 v4 E.root.addrs.length (aJ E.root.addrs)):=O (qh _ _ _ _ _ _ (by decide) (aQ x1 (by have:=vi.size;omega)));have zd:T.cell? ⟨S,69,none⟩=some (.string st):=aC Y (by rw[List.getElem?_toArray,List.getElem?_append_right (by omega),q4];rfl);have vn:Hid (T.rangeAt S 0 (aV v4 E)):=O (Aj (aD Y));obtain⟨lc,xy⟩:=zX9 (aV v4 E)
    have vj:=O xy;rw[xy] at q4 xh vn;have up:=O xh;have xd:w.heap.size≤T.heap.size:=H.size
    have jq:j≤64:=by
     have D:=HB.len;have h2:=HB.sum;have h3:=HJ.out;have h4:=HN.out;omega
    rw[x7] at x8 ⊢;have vp:=O Y;have uy:=O xd;clear qr zq Y P z7 qh xy xh x1 xm x7 xd
    go_wp2_with (first
     | ((with_reducible show WL _ (.load 71 (.tmp 51)));refine ldM S 0 lc vn.out cP (cR q4) ?_)
     | ((with_reducible show WL _ (.buildSlice _ 1 _));refine bX rfl 214 71 (.tmp 52) rfl underlying214 uB (by decide) (lc) q4 (by decide) rfl ?_
        have C:aA aB T (T.alloc (.cells (lc).toArray 71)):=(aA.refl _ _).alloc _;have zb:=O (eL (n:=1) (size:=69) (heap_alloc_new T (.cells (lc).toArray 71)) q4 (by unfold maxLen;omega));have L:=O C;have x4:T.heap.size≤(T.alloc (.cells (lc).toArray 71)).heap.size:=by rw[World.size_alloc];omega
        obtain⟨z1,qg⟩:=zX9 T.heap.size
        rw[qg] at zb x4 ⊢;have uo:T.heap.size≤z1:=Nat.le_of_eq qg;have u9:=O qg;clear qg;generalize xi:T.alloc (.cells (lc).toArray 71)=w6 at *;clear xi C)
     | (have qk:=O (L.owns qe.out fun _ _=>id)
        have jn:w.heap.size≤w6.heap.size:=Nat.le_trans uy.out L.size
        (at_builtin;refine aK rfl (.tmp 50) (.tmp 53) 214 rfl w.heap.size 71 (.agg (aV (.slice none 0 0) ⟨0,⟨[],0,0,dM⟩,0,dM⟩).toArray) 69 120 underlying214 uB rfl (by decide) (.slice pa j pc) (j) (dS f) rfl qk.out (.slice z1 1 1) (1) (lc) rfl zb.out up.out (by unfold maxLen;omega) (by omega) (by omega) ?_
         intro v' w7 qu P xz Y;obtain⟨g',qz,rfl⟩:=ownsRow_succ qu;have u3:=O qu;have qj:=O P;have us:=O Y;clear qu P xz Y)
        have xw:∀(i:Nat) (cur:Array Value) (t:TypeId),w6.heap[i]?=some (.cells cur t (0,0))->t≠71->¬(Value.slice pa j pc).ownBlock=some i:=fun i cur t X x0 e=>by
         obtain⟨z2,hc⟩:=aH qk.out e;rw[X] at hc;cases hc
         exact x0 rfl
        have qw:=r.keep L.out;have q9:Hid (QIs w7 qb qb Q (eR aS q)):=O ⟨qj.blk qw.box (xw _ _ _ qw.box (by decide)),qj.owns qw.own (fun i Z e=>Ai qk.out qw.own (by decide) e Z),qw.lens,qw.sls⟩;have xk:=L.blk vp.out id;have vz:=qj.blk xk (xw _ _ _ xk (by decide));have zd:w7.cell? ⟨S,69,none⟩=some (.string st):=aC vz (by rw[vj.out,List.getElem?_toArray,List.getElem?_append_right (by omega),q4];rfl);have vq:Hid (fD w7 w.heap.size (f++[(v4,E)])):=O ((((V.snoc A.pool A.root.sum A.root.ads u2.out)).keep L.out).grow qk.out qj.out);have zn:Hid (aA aB w w7):=O ((H.trans L.out).trans' qj.out (U:=aB) (fun _ _ h=>h) (fun i Z e=>by have:=aX qk.out e;omega));have H:=zn;have r:=q9;have V:=vq;clear xw qw xk vz))
    go_roundw
    case rel =>
     have X:=HB.out
     exact⟨some ⟨g',0,none⟩,qz,j+1,aY E,d++[(xv,E)],eR aS q,f++[(v4,E)],Q,by go_num,by rw[qq.out],O (by rw[List.length_append,HJ.out];rfl),q9,O
      ⟨by rw[X.all,q3.1,List.append_assoc];rfl,by rw[List.map_append,X.once,N7 (by show aY E≠_;rw[←X.was];exact zr),List.map_append];rfl,(Dq d (xv,E)).symm,
       by rw[List.length_append,HJ.out,yM,Dm,vj.out];exact u3.out,vq.out,zn.out,by have D:=X.len;simp only[List.length_append,List.length_cons,List.length_nil];omega,
       by have D:=X.sum;have h2:=q3.2;have h3:=y.out;simp only[List.length_append,List.length_cons,List.length_nil];omega⟩⟩
    case measure =>
     rw[zF q9.out,zF HQ.out,y.out];have:=q3.2;omega
   go_wp2_with fail;refine zo.mono ?_;rintro e G ⟨rfl,Q,qo,jh,K⟩;have r:=O qo
   have H:Hid (aA aB w G):=O (HB.keep.tT K (fun i Z e=>by
    have hB:=za.out;rcases e with e|e
    ·omega
    ·have D:=HQ.own;rw[y.out] at D;have:=aX D e;omega))
   have zi:∀i,QK qb (.slice qa m qc) i->i=qb\/∃cur,wr.heap[i]?=some (.cells cur 287 (0,0)):=fun i e=>by
    rcases e with e|e
    ·exact .inl e
    ·have D:=HQ.own;rw[y.out] at D;exact .inr (aH D e)
   have M:∀(e:TypeId) (B s n:Nat) (v:Value) (xs:List Value),e≠287->e≠285->wr.ownsRow B e s v n xs->G.ownsRow B e s v n xs:=fun e B s n v xs zf xp ho=>K.owns ho (fun i Z h=>by
    obtain⟨cur,hc⟩:=aH ho Z;rcases zi i h with h|⟨z2,h⟩
    ·have h2:=HQ.box;rw[←h,hc] at h2;cases h2;exact xp rfl
    ·rw[hc] at h;cases h;exact zf rfl)
   have qe:Hid (G.ownsRow w.heap.size 71 69 (.slice pa j pc) j (dS f)):=O (by have D:=HB.own;rw[HJ.out] at D;exact M _ _ _ _ _ _ (by decide) (by decide) D)
   have V:Hid (fD G w.heap.size f):=O (fun q hq=>by
    obtain⟨a,b,c,d⟩:=HB.ubs q hq;exact⟨a,b,c,M _ _ _ _ _ _ (by decide) (by decide) d⟩)
   have A:Hid (UbV G xv E):=O (qm.keep H.out fun _ _=>id);have F:=r.box;have zj:qb<G.heap.size:=lt_of_block F;clear qo zi M F xn
   go_wp2_with (first
    | ((with_reducible show WL _ (.alloc 287));refine aG rfl 287 rfl _ vt.out ze.toArray rfl ?_)
    | ((with_reducible show WL none (.store 287 (.tmp 10) (.tmp 37)))
       refine aE rfl 287 (.tmp 10) (.tmp 37) rfl G.heap.size 0 lx rfl rfl ze.toArray _ (heap_alloc_new _ _) (by rw[qt,List.size_toArray,qp];exact Nat.le_refl _) (cQ qt) vc.out ?_;intro w3 J N;rw[aI _ _ (by rw[qt,List.size_toArray,qp])] at J;have C:aA aB G w3:=((aA.refl aB G).alloc _).trans' N (fun _ _ h=>h.elim) (fun i Z e=>by omega);clear N;obtain⟨S,qy⟩:=zX9 G.heap.size
       rw[qy] at J ⊢;have vo:=O J;have zd:w3.cell? ⟨S,69,none⟩=some (.string st):=aC J (by rw[←qq.out,←q7.out,List.getElem?_toArray];unfold cY;rw[List.getElem?_append_right (by rw[bZ A.root.sum A.pool];omega),bZ A.root.sum A.pool];rfl);have xm:w3.cell? ⟨S,1,none⟩=some (.slice xa E.root.addrs.length xc):=aC J (by rw[←q7.out,xg.out,List.getElem?_toArray];rfl);have xe:=r;have H:=O (H.trans C);have r:=O (r.keep C);have qe:=O (C.owns qe.out fun _ _=>id);have V:=O (V.keep C);have A:=O (A.keep C fun _ _=>id);have ui:S≠qb:=by omega
       have ug:Q.ownBlock≠some S:=fun e=>by
        obtain⟨cur,hc⟩:=aH xe.own e;have:=lt_of_block hc;omega
       have jj:w.heap.size≤S:=by rw[←qy];have:=HB.keep.size;have:=K.size;omega
       clear J qy C zj))
   go_roundw
   case rel =>
    have X:=HB.out
    exact⟨pa,pc,j,aY E,d++[(xv,E)],eR aS q,f,Q,rfl,by rw[qq.out],HJ,r,O
     ⟨by rw[X.all,q3.1,List.append_assoc];rfl,by rw[X.once,LL (by show aY E=_;rw[zr];exact X.was)],(Dq d (xv,E)).symm,by rw[HJ.out];exact qe.out,V.out,H.out,Nat.le_trans X.len (by simp),
      by have D:=X.sum;have h2:=q3.2;have h3:=y.out;simp only[List.length_append,List.length_cons,List.length_nil];omega⟩⟩
   case measure =>
    rw[zF r.out,zF HQ.out,y.out];have:=q3.2;omega
end
section
open Go.RowKit
def Ef(B1:Nat)(oa:Option Addr)(A B:World):Prop:=B.heap[B1]?=A.heap[B1]?/\∀b,oa=some b->B.heap[b.block]?=A.heap[b.block]?
variable{oa:Option Addr}{vs:List Value}{ob B1 x:Nat}{w3 w W:World}{v:Value}{qs:List (Value×Ub)}{hs:List (List UInt8)}{pool:List UInt8}{pre:List Nat}
theorem He{A B:World}{m b:Nat}(h:Rd A 1 (.slice oa m b) m vs)(k:∀f,oa=some f->B.heap[f.block]?=A.heap[f.block]?):Rd B 1 (.slice oa m b) m vs:=by
 obtain⟨h0,a,c,l,r,s,t,y⟩:=h;refine⟨h0,a,c,l,r,s,t,fun C=>?_⟩;obtain⟨g,o,rfl,z⟩:=y C;refine⟨g,o,rfl,fun i u D=>?_⟩;have e:oa=some ⟨g,o,none⟩:=by cases l;rfl
 have:=z i u D;have E:=k _ e;unfold World.cell? at this ⊢;rw[E];exact this
theorem PK(n l B1:Nat)(oa:Option Addr)(m f:Nat)(vs:List Value)(J Q:List Nat->World->Prop)(X:Nat)(hA:AbidesFrom X J)(hm:m≤4096)
 (D:∀u∈vs,∃a n c,u=.slice a n c)
 (hY:∀pre x W,J pre W->pre.length<m->YieldAt Fence.wide (n-1) prog l #[.int .i64 ((x % m:Nat):Int),vs.getD (x % m) (.slice none 0 0)] W fun e z =>
   (e=.returned (.bool true)/\J (pre++[x]) z/\Ef B1 oa W z)\/(e=.returned (.bool false)/\Q (pre++[x]) z))
 (W:World) (K:W.heap[B1]?=some (.cells #[.slice oa m f] 173 (0,0))) (L:Rd W 1 (.slice oa m f) m vs) (h0:J [] W) :
 CallsIn Fence.wide n prog 232 #[.func (.yield l) #[] #[],.pointer B1] W fun e z=>(∃v,e=.returned v) /\
  ((∃ys,ys=List.range m/\J ys z)\/(∃pre,True/\Q pre z)):=by
 have c0:=cell_of_one K;have H:=O (And.intro K L);have r:vs.length=m:=by have:=L.1;omega
 have Y:=O r;have Z:=O D;clear K L r D;refine callsIn_of_wp func232 rfl trivial ?_ rfl;simp only[ntmps232,List.size_toArray,List.length_cons,List.length_nil,Nat.reduceAdd,Nat.reduceSub,Array.replicate_succ,Array.replicate_zero,List.push_toArray,List.append_toArray,List.nil_append,List.cons_append]
 gi_wp2
 clear c0
 gi_loopw [7] (fun i wr=>∃k:Nat,k≤m/\i=.int .i64 k/\J (List.range k) wr/\Hid (wr.heap[B1]?=some (.cells #[.slice oa m f] 173 (0,0))/\Rd wr 1 (.slice oa m f) m vs))
  (fun i _=>m-(intOf i).toNat)
 case atStart=>exact⟨0,Nat.zero_le _,rfl,h0,H⟩
 case round =>
  obtain⟨k,hk,rfl,N,E⟩:=hrel
  by_cases y:k<m
  ·have e1:(k:Int)<(m:Int):=by omega
   have qa:(0:Int)≤(k:Int):=by omega
   obtain⟨u,F⟩:∃u,vs[k]?=some u:=⟨vs[k]'(by rw[Y.out];exact y),List.getElem?_eq_getElem _⟩
   obtain⟨ua,un,uc,rfl⟩:=Z.out u (List.mem_of_getElem? F);obtain⟨I,b,R,V,-,-,-,S⟩:=E.out.2;obtain⟨g,o,rfl,U⟩:=S (by omega);have e2:oa=some ⟨g,o,none⟩:=by cases V;rfl
   subst e2;have ck:wr.cell? ⟨g,o+k,none⟩=some (.slice ua un uc):=U k _ F;have s:=hY (List.range k) k wr N (by simpa using y);rw[Nat.mod_eq_of_lt y,List.getD_eq_getElem?_getD,F] at s;simp only[Option.getD_some] at s;obtain⟨fn,tmps,assign,body,hy,T⟩:=s;clear U S V F I
   gi_wp2
   refine⟨fun h=>by simp[Fence.wide] at h,T.mono ?_⟩;rintro e G (⟨rfl,A,t⟩|⟨rfl,C⟩)
   ·have M:Hid (G.heap[B1]?=some (.cells #[.slice (some ⟨g,o,none⟩) m f] 173 (0,0))/\Rd G 1 (.slice (some ⟨g,o,none⟩) m f) m vs):=
     O ⟨t.1.trans E.out.1,He E.out.2 t.2⟩
    have P:=O (show J (List.range (k+1)) G by rw[List.range_succ];exact A);clear A t N T hy E ck
    gi_wp2
    go_roundw
    case rel=>exact⟨k+1,by omega,by go_num,P.out,M⟩
    case measure=>simp[intOf];omega
   ·gi_wp2
    refine bodyPost_ret (results_none rfl _ _ _) rfl ?_;exact⟨⟨_,rfl⟩,.inr ⟨_,trivial,C⟩⟩
  ·obtain rfl:k=m:=by omega
   gi_wp2
   go_end0
   exact⟨⟨_,rfl⟩,.inl ⟨_,rfl,N⟩⟩
theorem LM(n B1:Nat)(oa:Option Addr)(m b:Nat)(vs:List Value)(C:m≤4096)(o:∀u∈vs,∃a n c,u=.slice a n c)(w:World)
 (r:w.heap[B1]?=some (.cells #[.slice oa m b] 173 (0,0))) (y:Rd w 1 (.slice oa m b) m vs) (h:∀f,oa=some f->f.block<w.heap.size) :
 SeqStopsK Fence.wide n prog 232 #[.pointer B1] (fun x:Nat=>#[.int .i64 ((x % m:Nat):Int),vs.getD (x % m) (.slice none 0 0)]) (Ef B1 oa) (fun ys=>ys=List.range m) (fun _=>True) m w:=
 fun l J t W s z _ A h0=>PK n l B1 oa m b vs J t _ z C o A W ((s.block _ (lt_of_block r)).trans r) (He y (fun f e=>s.block _ (h f e))) h0
theorem Oa(v:Value)(w:World)(b:∃a n c,v=.slice a n c) :
 Calls prog 199 #[v] w fun e w'=>e=.returned (.func (.func 232) #[] #[.pointer (w.heap.size)])/\w'=w.alloc (.cells #[v] 173):=by
 obtain⟨a,n,c,rfl⟩:=b;go_in
 go_wp2
 go_ret;exact⟨rfl,rfl⟩
open Go.RowKit Go.Maps Go.ChangeMaps
set_option maxRecDepth 100000
set_option linter.unusedVariables false
def iG(pool:List UInt8)(i:Nat)(L:List UInt8):List Ub:=if (bC L).2=0/\(bC L).1.pool=pool/\eC (bC L).1.txg=(i:Int)+1 then [(bC L).1] else []
def jY(hs:List (List UInt8))(pool:List UInt8)(i:Nat):List Ub:=match hs[i]? with|some L=>iG pool i L|none=>[]
def lR(hs:List (List UInt8))(pool:List UInt8):List Ub×Int:=if hs.length=4 then ((List.range 4).flatMap (jY hs pool),0) else ([],2)
theorem QV(f:Nat->List Ub):(List.range 4).flatMap f=f 0++(f 1++(f 2++(f 3++[]))):=rfl
def yP(w:World)(r:List Ub×Int)(e:Ending)(w':World):Prop:=
 ∃v qs,e=.returned (.tuple #[v,.int .i64 r.2])/\w'.ownsRow w.heap.size 71 69 v qs.length (dS qs)/\qs.map (·.2)=r.1/\fD w' w.heap.size qs/\aA aB w w'
def FoI(ob:Nat)(w3:World)(hs:List (List UInt8))(pool:List UInt8)(pre:List Nat)(W:World):Prop:=
 (∃v qs,W.heap[ob]?=some (.cells #[v] 214 (0,0))/\W.ownsRow w3.heap.size 71 69 v qs.length (dS qs)/\qs.map (·.2)=pre.flatMap (fun i=>jY hs pool (i % 4))/\fD W w3.heap.size qs/\qs.length≤pre.length)/\aA (fun k=>k=ob) w3 W
theorem FoI.own(I:ob<w3.heap.size)(hs:List (List UInt8))(pool:List UInt8):OwnFrom w3.heap.size (FoI ob w3 hs pool):=by
 rintro pre W H row ⟨⟨v,qs,m,r,z,s,A⟩,E⟩ t y;have l:=aA.of_grown t
 have no:∀k cur e,W.heap[k]?=some (.cells cur e (0,0))->¬row=some k:=fun k cur e b f=>by
  obtain⟨_,o,u,h⟩:=y k f;rw[b] at u;cases u
  cases h
 refine⟨⟨v,qs,l.blk m (no _ _ _ m),l.owns r (fun k C=>by obtain⟨cur,b⟩:=aH r C;exact no _ _ _ b),z,s.far l (fun q G i D=>by obtain⟨cur,b⟩:=aH (s q G).2.2.2 D;exact no _ _ _ b),A⟩,E.grown t fun k f F=>?_⟩;have:=(y k f).1;omega
theorem Jl{L:List Ub}{D:Nat}{o s:Obj}(C:o.isCells=false)(z:W.heap[D]?=some o)(r:W.ownsRow w3.heap.size 71 69 v qs.length (dS qs))(u:qs.map (·.2)=L)(y:fD W w3.heap.size qs)
 (A:aA aB w W) (hs:w.heap.size≤w3.heap.size/\w3.heap.size≤D):yP w (L,0) (.returned (.tuple #[v,.int .i64 0])) (W.putObj D s):=by
 have m:=aA.of_grown (grownBy_putObj' W D s)
 have no:∀k cur e,W.heap[k]?=some (.cells cur e (0,0))->¬some D=some k:=fun k cur e f t=>by
  cases t
  rw[z] at f;cases f
  cases C
 refine⟨v,qs,rfl,?_,u,fun q E=>?_,A.tT m (fun i F e=>by cases e;omega)⟩
 ·exact aQ (m.owns r fun k l=>by obtain⟨cur,f⟩:=aH r l;exact no _ _ _ f) hs.1
 ·obtain⟨a,b,c,d⟩:=y q E
  exact⟨a,b,c,aQ (m.owns d fun k l=>by obtain⟨cur,f⟩:=aH d l;exact no _ _ _ f) hs.1⟩
theorem vU{b:World}(u:FoI ob w3 hs pool pre W)(k:aA aB W b)(h0:jY hs pool (x % 4)=[])(z:B1<w3.heap.size)(m:∀f,oa=some f->f.block<w3.heap.size) :
 KeepsOthers W b/\Ef B1 oa W b/\FoI ob w3 hs pool (pre++[x]) b:=by
 obtain⟨⟨v,qs,o,r,s,t,y⟩,l⟩:=u;refine⟨cW k (fun _ _ _ h=>h.elim),⟨k.block _ (by have:=l.size;omega) id,fun f e=>k.block _ (by have:=l.size;have:=m f e;omega) id⟩,⟨v,qs,k.blk o id,k.owns r (fun _ _=>id),?_,t.keep k,by rw[List.length_append];omega⟩,l.tT k (fun _ _ h=>h.elim)⟩;rw[List.flatMap_append,List.flatMap_cons,List.flatMap_nil,h0,s];simp
theorem Jm{t b:World}{f:Value}{E:Value}{U:Ub}(N:ob<w3.heap.size)(F:W.heap[ob]?=some (.cells #[v] 214 (0,0)))
 (u:W.ownsRow w3.heap.size 71 69 v qs.length (dS qs)) (J:qs.map (·.2)=pre.flatMap (fun i=>jY hs pool (i % 4))) (Q:qs.length≤pre.length) (C:aA (fun k=>k=ob) w3 W) (k:aA aB W t)
 (G:fD t w3.heap.size (qs++[(E,U)])) (D:aA (fun j=>v.ownBlock=some j) t b) (H:b.ownsRow w3.heap.size 71 69 f (qs.length+1) (dS qs++aV E U))
 (h0:jY hs pool (x % 4)=[U]) (R:B1<w3.heap.size) (z:B1≠ob) (m:∀l,oa=some l->l.block<w3.heap.size/\l.block≠ob) :
 KeepsOthers W (b.setCell ⟨ob,0,none⟩ f)/\Ef B1 oa W (b.setCell ⟨ob,0,none⟩ f)/\FoI ob w3 hs pool (pre++[x]) (b.setCell ⟨ob,0,none⟩ f):=by
 have y:=k.owns u (fun _ _=>id);have far:∀j,v.ownBlock=some j->w3.heap.size≤j:=fun j h=>aX u h
 have s:aA (fun j=>j=ob\/v.ownBlock=some j) W (b.setCell ⟨ob,0,none⟩ f):=(k.trans' D (fun _ _ h=>h.elim) (fun i _ h=>.inr h)).setCell (fun _=>.inl rfl) _;have I:aA (fun j=>j=ob) b (b.setCell ⟨ob,0,none⟩ f):=aA.setCell (S:=fun k=>k=ob) (p:=⟨ob,0,none⟩) (aA.refl _ _) (fun _=>rfl) _;have A:b.heap[ob]?=some (.cells #[v] 214 (0,0)):=D.blk (k.blk F id) (fun h=>by have:=far _ h;omega);refine⟨cW s ?_,⟨s.block _ (by have:=C.size;omega) ?_,fun l e=>s.block _ (by have:=C.size;have:=(m l e).1;omega) ?_⟩,⟨f,qs++[(E,U)],?_,?_,?_,?_,?_⟩,C.trans' s (fun _ _ h=>h) ?_⟩
 ·rintro j o r (rfl|h)
  ·rw[F] at r;cases r;rfl
  ·obtain⟨cur,L⟩:=aH u h
   rw[L] at r;cases r;rfl
 ·rintro (h|h)
  ·exact z h
  ·have:=far _ h;omega
 ·rintro (h|h)
  ·exact(m l e).2 h
  ·have:=far _ h;have:=(m l e).1;omega
 ·exact cH A 0 f
 ·rw[List.length_append,yM,Dm]
  exact I.owns H fun j K e=>by have:=aX H K;omega
 ·rw[List.map_append,J,List.flatMap_append,List.flatMap_cons,List.flatMap_nil,h0];rfl
 ·refine fD.far ?_ I (fun q P j M e=>?_) (B:=w3.heap.size)
  ·exact fD.grow G y D
  ·have:=aX (G q P).2.2.2 M;omega
 ·rw[List.length_append,List.length_append];simp;omega
 ·rintro i T (h|h)
  ·exact h
  ·have:=far _ h;omega
theorem LN(h:∀(i:Nat) (L:List UInt8),hs[i]?=some L->∃u,vs[i]?=some u/\Rd w 1 u L.length (L.map vb))(o:vs.length=hs.length):∀u∈vs,∃a n c,u=.slice a n c:=by
 intro u m;obtain⟨i,l,rfl⟩:=List.getElem_of_mem m;obtain⟨r,b,e⟩:=h i (hs[i]'(by omega)) (List.getElem?_eq_getElem _);rw[List.getElem?_eq_getElem l] at b;cases b
 obtain⟨a,c,f,-,-⟩:=e.form;exact⟨a,_,c,f⟩
def Jn(oa:Option Addr)(b:Nat)(pcs:List Value)(e ob B1:Nat)(i:Int)(u:Value):Act:={ tmps:=#[.slice oa 4 b,.agg pcs.toArray,undef,.pointer e,.slice none 0 0,.int .i64 0,.pointer ob,.int .i64 i,u,undef,undef,undef,undef,.slice oa 4 b,.int .i64 4,.bool false,.slice oa 4 b,.func (.func 232) #[] #[.pointer B1],.int .i64 i,u,undef,undef,undef,undef,undef,undef,undef,undef,undef,undef,undef,undef,undef,undef,undef,undef,undef,undef,undef,undef,undef,undef,undef,undef,undef,undef,undef,undef,undef,undef,undef,undef],defers:=[] }
theorem Ob(T:Array Value)(p q:Tmp)(a b:Value):((#[p,q].zip #[a,b]).foldl (fun(t:Array Value) (x:Tmp×Value)=>match x with|(p,v)=>t.setIfInBounds p v) T)=(T.setIfInBounds p a).setIfInBounds q b:=by simp
theorem LO(w:World)(aF aR:Addr)(hg:iK w aF aR)(v:Value)(hs:List (List UInt8))(hr:oR w v hs)(pool:List UInt8)(xb:pool.length=32)(qy:∀L∈hs,L.length≤65536) :
 Calls prog 134 #[v,.agg (pool.map vb).toArray] w (yP w (lR hs pool)):=by
 obtain⟨oa,ca,hv,z1⟩:=hr.form;subst hv;have HG:=O hg;have HR:=O hr;have H6:=O qy;have zf:(pool.map vb).length=32:=by rw[List.length_map];exact xb
 have xo:=O (bA pool);obtain⟨pcs,ql⟩:=zX9 (pool.map vb)
 have xp:=O ql;rw[ql] at zf xo ⊢;obtain⟨n,hn⟩:=zX9 hs.length
 have HN:=O hn;rw[hn] at z1 ⊢;unfold maxLen at z1;clear hg hr qy hn ql;obtain⟨w1,x8,k1,zx,s1⟩:=aM w pcs.toArray 31
 by_cases h4:n=4
 case neg =>
  have vm:(¬(n:Int)=4):=by omega
  have HE:Hid (lR hs pool=([],2)):=O (by unfold lR;rw[if_neg (by rw[HN.out];exact h4)]);rw[HE.out];go_in;go_wp2_with fail
  go_step3
  go_wp2
  go_ret2
  exact⟨_,[],rfl,World.ownsRow_nil _ _ _ _,rfl,(fun q hq=>by cases hq),k1⟩
 case pos =>
  subst h4;have HE:Hid (lR hs pool=((List.range 4).flatMap (jY hs pool),0)):=O (by unfold lR;rw[if_pos HN.out]);rw[HE.out];refine callsIn_wide.1 (callsIn_of_wp_marks (F:=Fence.wide) (n:=3) func134 rfl trivial (wpIn_wide.2 ?_));simp only[ntmps134,List.size_toArray,List.length_cons,List.length_nil,Nat.reduceAdd,Nat.reduceSub,Array.replicate_succ,Array.replicate_zero,List.push_toArray,List.append_toArray,List.nil_append,List.cons_append];obtain⟨w2,x9,k2,q7,s2⟩:=aM w1 #[.slice none 0 0] 214;obtain⟨ob,qt⟩:=zX9 w1.heap.size
  have zp:=O s1;have zq:=O s2;have xm:=O qt;clear s1 s2 qt;go_wp2_with fail
  go_step3
  go_wp2_with fail
  go_step3
  go_wp2_with fail;refine(Oa _ _ ⟨_,_,_,rfl⟩).mono ?_;rintro e w3 ⟨rfl,qv⟩;have k3:aA aB w2 w3:=by rw[qv];exact(aA.refl _ _).alloc _
  have zy:w3.heap[w2.heap.size]?=some (.cells #[.slice oa 4 ca] 173 (0,0)):=by rw[qv];exact heap_alloc_new _ _
  have s3:w3.heap.size=w2.heap.size+1:=by rw[qv];exact World.size_alloc _ _
  clear qv;have zr:=O s3;clear s3;go_wp2_with fail;have s1:=zp.out;have s2:=zq.out;have s3:=zr.out;have qt:=xm.out;clear x8 x9 zp zq zr;have qh:aA aB w w3:=(k1.trans k2).trans k3;have qz:aA aB w1 w3:=k2.trans k3;rw[qt] at q7 s2 ⊢;have q5:w3.heap[w.heap.size]?=some (.cells pcs.toArray 31 (0,0)):=qz.blk zx id;have xz:w3.heap[ob]?=some (.cells #[.slice none 0 0] 214 (0,0)):=k3.blk q7 id;obtain⟨vs,qa,V⟩:=HR.rows;rw[HN.out] at qa;have Z:=qa.keep qh (fun _ _=>id);have x6:=LN V (by have:=Z.1;rw[HN.out];omega)
  have E:∀Q,oa=some Q->Q.block<w3.heap.size:=fun Q e=>by
   obtain⟨k,z,h2⟩:=Z.lt (by have:=Z.1;omega);subst e;cases z
   exact h2
  have z2:∀Q,oa=some Q->Q.block≠ob:=fun Q e=>by
   obtain⟨k,z,h2⟩:=qa.lt (by have:=qa.1;omega);subst e;cases z
   have:=k1.size;omega
  obtain⟨B1,xy⟩:=zX9 w2.heap.size
  rw[xy] at zy s3 ⊢;have xt:Hid (∀(i:Nat) (L:List UInt8),hs[i]?=some L->∃u,vs[i]?=some u/\Rd w 1 u L.length (L.map vb)):=O V;have qw:=O qh;obtain⟨pb,ze⟩:=zX9 w.heap.size
  have vc:=O ze;rw[ze] at q5 s1 ⊢;have x5:pb≠ob:=by omega
  have z7:ob<w3.heap.size:=by omega
  have vn:w.heap.size≤ob:=by omega
  have xn:=O q5;clear k1 k2 k3 qh qz zx q7 V ze q5;refine wpIn_wide (n:=3).1 ?_;refine' wpIn_rangeFunc_ownF rfl (by omega) (gf:=232) rfl trivial (enters_of func232 (by kernel_rfl) rfl) (LM _ B1 oa 4 ca vs (by omega) x6 w3 zy Z E) ?hKt ?hKb (Below.refl _ _) (fun _=>rfl) (FoI ob w3 hs pool) (fun _ _ _=>False) (FoI.own z7 hs pool) (fun c s A B row hs _ _=>hs) ?h0 (fun x=>Jn oa ca pcs pb ob B1 ((x % 4:Nat):Int) (vs.getD (x % 4) (.slice none 0 0))) ?assign ?body ?done ?stop
  case hKt=>exact fun h k=>⟨k.1.trans h.1,fun Q e=>(k.2 Q e).trans (h.2 Q e)⟩
  case hKb=>exact fun W l o o' hl _ _ _=>⟨World.putObj_heap_other (by omega),fun Q e=>World.putObj_heap_other (by have:=E Q e;omega)⟩
  case h0=>exact⟨⟨.slice none 0 0,[],xz,World.ownsRow_nil _ _ _ _,rfl,(fun q hq=>by cases hq),Nat.le_refl _⟩,aA.refl _ _⟩
  case assign =>
   intro l x W K hK;rw[Ob];unfold Jn at hK;generalize ((x % 4:Nat):Int)=i at hK ⊢;generalize vs.getD (x % 4) (.slice none 0 0)=u at hK ⊢;simp only[List.setIfInBounds_toArray,List.set_cons_zero,List.set_cons_succ];refine wpIn_seq ?_;refine bS (by kernel_rfl) (fun ⟨_,_,h⟩=>h) ?_;go_wp2_with fail;refine bS (by kernel_rfl) (fun ⟨_,_,h⟩=>h) ?_;go_wp2_with fail;exact hK
  case stop=>exact fun D c pre W _ _ h _=>h.elim
  case done =>
   intro D xs W hD hS hI zu;obtain⟨⟨v,qs,z,h2,h3,h4,h5⟩,f⟩:=hI;have c1:=cell_of_one z;obtain⟨ar,cr,rfl,-,-⟩:=(Rd.of_owns h2).form;have zi:=O zu;subst hS;have S:aA aB w W:=qw.tT f (fun i hi e=>by omega);have HP:Hid (∀(D:Nat) (o:Obj),o.isCells=false->W.heap[D]?=some o->w3.heap.size≤D->∀{o':Obj},yP w ((List.range 4).flatMap (jY hs pool),0) (.returned (.tuple #[.slice ar qs.length cr,.int .i64 0])) (W.putObj D o')):=O (fun D o ho hD hB {o'}=>Jl ho hD h2 h3 h4 S ⟨by omega,hB⟩);clear z h2 h3 h4 h5 f S zu;go_wp2_with fail;rw[Exit.noGoto_ret];refine⟨by simp,.inl ⟨_,_,rfl,run_takeDeferred zi.out,?_⟩⟩;refine⟨_,results_tmp2 rfl _ _ _,?_⟩;exact HP.out D _ rfl zi.out hD
  case body =>
   rintro l pre x W ⟨⟨v,qs,z,h2,h3,h4,h5⟩,f⟩ vf;have xf:x % 4<4:=Nat.mod_lt _ (by decide);obtain⟨k,qi⟩:=zX9 (x % 4)
   rw[qi] at xf ⊢;obtain⟨L,hL⟩:∃L,hs[k]?=some L:=⟨hs[k]'(by rw[HN.out];exact xf),List.getElem?_eq_getElem _⟩
   have zw:=H6.out L (List.mem_of_getElem? hL);obtain⟨u,hu,qd⟩:=xt.out _ _ hL;have S:aA aB w W:=qw.tT f (fun i hi e=>by omega);have qd:=qd.keep S fun _ _=>id
   have HG:=O (HG.keep S);have H:=O (f.blk xn.out x5);obtain⟨ua,uc,x7,-,-⟩:=qd.form;subst x7;rw[List.getD_eq_getElem?_getD,hu,Option.getD_some];obtain⟨n,hn⟩:=zX9 L.length
   have zk:=O hn;rw[hn] at qd zw ⊢;obtain⟨av,cv,hv,-,-⟩:=(Rd.of_owns h2).form;subst hv;obtain⟨j,hj⟩:=zX9 qs.length
   have HJ:=O hj;have HI:=O (show FoI ob w3 hs pool pre W from⟨⟨_,qs,z,h2,h3,h4,h5⟩,f⟩);rw[hj] at z h2 h5;have vk:j<4:=by omega
   have qq:Hid (jY hs pool k=iG pool k L):=O (by unfold jY;rw[hL]);have P:=O qd;have C:=O z;have I:=O h2;have zm:=C;have zn:=I;have xr:=O h3;have N:=O h4;have xq:=O h5;have q4:=O f;have vi:=O S;have zz:=aA.refl aB W;have t:=O zz;clear z h2 h3 h4 h5 f S qd hL hu hn hj zz;unfold Jn;refine wpIn_block ?_;refine wpIn_seq ?_;refine bS (by kernel_rfl) (fun ⟨_,_,h⟩=>h) ?_;obtain⟨zc,zh,xg⟩:∃zc,aV (.slice none 0 0) zUb=zc/\zc.length=69:=⟨_,rfl,rfl⟩
   have xh:∀w,(zeroValue 71).run prog w=.ok (.agg zc.toArray) w:=by rw[←zh];exact kQ
   have xx:=O xh;have vj:=O zh;clear zh xh;go_wp2_with fail;refine((Gv W aF aR HG.out (.slice ua n uc) L (by rw[zk.out];exact P.out) (by rw[zk.out];exact zw)).mono fun e w' h=>fU.V h).mono ?_;rintro e wb ⟨v1,rfl,qo,xa,f⟩;have vg:=f.size;have H:=O (f.blk H.out id);have HG:=O (HG.keep f);have P:=O (P.keep f fun _ _=>id);have t:=O (t.trans f);have C:=O (f.blk C.out id);have I:=O (f.owns I.out fun _ _=>id);have N:=O (N.keep f);clear f;obtain⟨a1,c1,xe,-,-⟩:=qo.root.rd.form;have xd:v1=.slice a1 ((bC L).1).root.addrs.length c1:=xe;clear xe;subst xd;have T:=bZ (v:=.slice a1 ((bC L).1).root.addrs.length c1) qo.root.sum qo.pool;have q1:=O (fV (oa:=a1) (n:=((bC L).1).root.addrs.length) (ca:=c1) ((bC L).1));have y:=O qo;have M:=O xa;obtain⟨J,Y⟩:=zX9 (aV (.slice a1 ((bC L).1).root.addrs.length c1) ((bC L).1))
   rw[Y] at T q1
   try rw[Y]
   have qf:=O Y;clear Y;clear qo xa;have xj:=O (M.lt)
   go_wp2_with (first
    | ((with_reducible show WL _ (.alloc 71));refine aG rfl 71 rfl _ xx.out zc.toArray rfl ?_)
    | ((with_reducible show WL none (.store 71 (.tmp 9) (.tmp 23)))
       refine aE rfl 71 (.tmp 9) (.tmp 23) rfl wb.heap.size 0 J rfl rfl zc.toArray _ (heap_alloc_new _ _) (by rw[T,List.size_toArray,xg];exact Nat.le_refl _) (cR T) q1.out ?_;intro wc R qj;rw[aI _ _ (by rw[T,List.size_toArray,xg])] at R;have m:aA aB wb wc:=((aA.refl aB wb).alloc _).trans' qj (fun _ _ h=>h.elim) (fun i hi e=>by omega);clear qj;obtain⟨b1,q9⟩:=zX9 wb.heap.size
       rw[q9] at R ⊢;have va:=O q9;clear q9;have qp:=O R;clear R))
   have H:=O (m.blk H.out id);have HG:=O (HG.keep m);have P:=O (P.keep m fun _ _=>id);have t:=O (t.trans m);have C:=O (m.blk C.out id);have I:=O (m.owns I.out fun _ _=>id);have N:=O (N.keep m);have y:=O (y.keep m fun _ _=>id);have M:=O (m.owns M.out fun _ _=>id);clear m;go_wp2_with fail;obtain⟨U,hU⟩:=zX9 ((bC L).1)
   obtain⟨er,zb⟩:=zX9 ((bC L).2)
   have qc:=O hU;have q3:=O zb;rw[hU] at qf xj y M;rw[zb];have X:B1<w3.heap.size:=by omega
   clear hU zb
   by_cases h0:er=0
   ·subst h0
    have z6:U.may=true:=by
     have z:=BJ q3.out;rw[←qc.out,z.2.1];exact z.2.2.1
    obtain⟨ct,-,cl,cp⟩:=gI (o:=0) y.root.sum (by rw[qf.out];exact aD qp.out);have qk:=fun w=>uH (EH U.pool pool y.pool xb w)
    have qr:=O cp;have qm:(U.pool.map vb).length=32:=by rw[List.length_map];exact y.pool
    rw[xp.out] at qk;obtain⟨up,xc⟩:=zX9 (U.pool.map vb)
    rw[xc] at qk qm qr;obtain⟨bq,za⟩:=zX9 (decide (U.pool=pool))
    rw[za] at qk;simp only[Nat.zero_add] at ct cl qr;clear cp cl xc;have vd:True:=trivial;cases bq
    ·repeat refine wpIn_seq ?_
     refine bS (by kernel_rfl) (fun ⟨_,_,h⟩=>h) ?_
     go_wp2_with ((with_reducible show WL _ _);first
      | refine aP (by rfl) 31 (.tmp 28) rfl b1 37 rfl up _ qr.out underlying31 rfl (tO qm) ?_
      | refine aP (by rfl) 31 (.tmp 3) rfl pb 0 rfl pcs _ (aD H.out) underlying31 rfl (tO zf) ?_)
     refine wpIn_cond_true rfl ?_;refine wpIn_exit ?_;exact vU HI.out t.out (by rw[qi,qq.out];unfold iG;rw[if_neg];rintro⟨-,z,-⟩;rw[qc.out] at z;exact(of_decide_eq_false za) z) X E
    ·repeat refine wpIn_seq ?_
     refine bS (by kernel_rfl) (fun ⟨_,_,h⟩=>h) ?_
     go_wp2_with ((with_reducible show WL _ _);first
      | refine aP (by rfl) 31 (.tmp 28) rfl b1 37 rfl up _ qr.out underlying31 rfl (tO qm) ?_
      | refine aP (by rfl) 31 (.tmp 3) rfl pb 0 rfl pcs _ (aD H.out) underlying31 rfl (tO zf) ?_)
     refine wpIn_cond_false rfl ?_;refine wpIn_skip ?_;have hb:=mJ z6;have qu:lC U.txg=true:=by unfold lC;rw[decide_eq_true hb.1,decide_eq_true hb.2.1];rfl
     repeat refine wpIn_seq ?_
     refine bS (by kernel_rfl) (fun ⟨_,_,h⟩=>h) ?_;go_wp2_with fail;refine(Fo wc U.txg (by omega) (by omega)).mono ?_;rintro e wd ⟨rfl,f⟩;rw[qu];obtain⟨sl,qn⟩:=zX9 (eC U.txg)
     rw[qn];have zt:=O qn;clear qn hb qu;have H:=O (f.blk H.out id);have HG:=O (HG.keep f);have P:=O (P.keep f fun _ _=>id);have t:=O (t.trans f);have C:=O (f.blk C.out id);have I:=O (f.owns I.out fun _ _=>id);have N:=O (N.keep f);have y:=O (y.keep f fun _ _=>id);have M:=O (f.owns M.out fun _ _=>id);have qp:=O (f.blk qp.out id);clear f;go_wp2_with fail
     by_cases zg:sl=(k:Int)+1
     ·subst zg
      repeat refine wpIn_seq ?_
      refine bS (by kernel_rfl) (fun ⟨_,_,h⟩=>h) ?_;go_wp2_with fail;refine wpIn_cond_false rfl ?_;refine wpIn_skip ?_
      have zv:jY hs pool (x % 4)=[U]:=by
       rw[qi,qq.out];unfold iG;rw[if_pos ⟨q3.out,by rw[qc.out];exact of_decide_eq_true za,by rw[qc.out,zt.out]⟩,qc.out]
      have xk:=O zv;have x2:=cell_of_one C.out;have x3:=bP C.out 0;have xu:Hid (fD wd w3.heap.size (qs++[(.slice a1 U.root.addrs.length c1,U)])):=O (N.snoc y.pool y.root.sum y.root.ads (aQ M.out (by have:=q4.size;omega)));have q0:w3.heap.size≤wd.heap.size:=by have:=q4.size;have:=t.size;omega
      have xw:=O q0;clear zv q0 ct;refine bS (by kernel_rfl) (fun ⟨_,_,h⟩=>h) ?_
      go_wp2_with (first
       | ((with_reducible show WL _ (.load 71 (.tmp 9)));refine ldM b1 0 J (aD qp.out) cP (cR T) ?_)
       | ((with_reducible show WL _ (.buildSlice _ 1 _));refine bX rfl 214 71 (.tmp 48) rfl underlying214 uB (by decide) (J) T (by decide) rfl ?_
          have m:aA aB wd (wd.alloc (.cells (J).toArray 71)):=(aA.refl _ _).alloc _;have zo:=O (eL (n:=1) (size:=69) (heap_alloc_new wd (.cells (J).toArray 71)) T (by unfold maxLen;omega));have qe:=O m;have qu:wd.heap.size≤(wd.alloc (.cells (J).toArray 71)).heap.size:=by rw[World.size_alloc];omega
          obtain⟨qx,G⟩:=zX9 wd.heap.size
          rw[G] at zo qu ⊢;have xi:wd.heap.size≤qx:=Nat.le_of_eq G;have xv:=O G;clear G;generalize x0:wd.alloc (.cells (J).toArray 71)=w6 at *;clear x0 m)
       | (have zl:=O (qe.owns I.out fun _ _=>id)
          have vo:w3.heap.size≤w6.heap.size:=Nat.le_trans xw.out qe.size
          (at_builtin;refine aK rfl (.tmp 47) (.tmp 49) 214 rfl w3.heap.size 71 (.agg (aV (.slice none 0 0) ⟨0,⟨[],0,0,dM⟩,0,dM⟩).toArray) 69 120 underlying214 uB rfl (by decide) (.slice av j cv) (j) (dS qs) rfl zl.out (.slice qx 1 1) (1) (J) rfl zo.out q1.out (by unfold maxLen;omega) (by omega) (by omega) ?_
           intro v' w7 zd qj x4 R;obtain⟨g',ve,rfl⟩:=ownsRow_succ zd;have xl:=O zd;have zj:=O qj;have vh:=O R;clear zd qj x4 R)
          have qg:=zj.blk (qe.blk C.out id) (fun e=>by have:=aX zl.out e;omega);have x2:=cell_of_one qg;have x3:=bP qg 0;clear qg))
      refine Jm z7 zm.out (by rw[HJ.out];exact zn.out) xr.out (by rw[HJ.out];exact xq.out) q4.out (t.trans qe.out) (xu.keep qe.out) zj.out (by rw[HJ.out,qf.out];exact xl.out) xk.out X (by omega) (fun Q e=>⟨E Q e,z2 Q e⟩)
     ·have x1:(sl != (k:Int)+1)=true:=by simpa using zg
      repeat refine wpIn_seq ?_
      refine bS (by kernel_rfl) (fun ⟨_,_,h⟩=>h) ?_;go_wp2_with fail
      try simp only[x1]
      refine wpIn_cond_true rfl ?_;refine wpIn_exit ?_;exact vU HI.out t.out (by rw[qi,qq.out];unfold iG;rw[if_neg];rintro⟨-,-,z⟩;rw[qc.out,zt.out] at z;exact zg z) X E
   ·repeat refine wpIn_seq ?_
    refine bS (by kernel_rfl) (fun ⟨_,_,h⟩=>h) ?_;go_wp2_with fail;refine wpIn_cond_true rfl ?_;refine wpIn_exit ?_;exact vU HI.out t.out (by rw[qi,qq.out];unfold iG;rw[if_neg];rintro⟨z,-,-⟩;exact h0 (q3.symm.trans z)) X E
end
end Go.Proofs.YtoeinblfcbpcmaaGreatDoor
