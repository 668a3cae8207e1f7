import Derived.Test.YtoeinblfcbpcmaaGreatR5
import Derived.Test.YtoeinblfcbpcmaaGreatR11
import Derived.Test.YtoeinblfcbpcmaaGreatR15
import Derived.Defers
import Derived.Recover
namespace Go.Proofs.YtoeinblfcbpcmaaGreat
open Tryz
set_option maxHeartbeats 0
set_option maxRecDepth 100000
set_option linter.unusedVariables false
section
open Go.RowKit
attribute [local go_sem] Oper.semAt_some
def PL:Value->Nat
 | .slice _ n _=>n
 | _=>0
def iE(w:World)(base:Nat)(bs:List UInt8)(xs:List Nat)(ps:List Value):Prop:=
 ps.length=xs.length/\∀(i:Nat) (p:Value),ps[i]?=some p->∃x,xs[i]?=some x/\w.ownsRow base 5 1 p 64 ((jT bs (x % many bs.length)).map vb)
variable{S:Nat->Prop}{w w' w3 W Wd Wp Wr w2:World}{base B p b3 k b6 n at_ An Ar Al Ah Ao:Nat}{bs l:List UInt8}{xs pre:List Nat}{ps:List Value}{v x v':Value}{T:TypeId}{s:St}{fe fa size low high:Int}
theorem iE.keep(h:iE w base bs xs ps)(e:aA S w w')(b:∀k cur,w.heap[k]?=some (.cells cur 5 (0,0))->¬S k):iE w' base bs xs ps:=
 ⟨h.1,fun i p f=>by
  obtain⟨x,g,a⟩:=h.2 i p f;exact⟨x,g,e.owns a fun k c=>by obtain⟨cur,d⟩:=aJ a c;exact b k cur d⟩⟩
theorem iE.snoc(h:iE w base bs xs ps)(x:Nat)(p:Value)(d:w.ownsRow base 5 1 p 64 ((jT bs (x % many bs.length)).map vb)):iE w base bs (xs++[x]) (ps++[p]):=by
 refine⟨by simp[h.1],fun i q b=>?_⟩;rcases Nat.lt_trichotomy i ps.length with a|a|a
 ·rw[List.getElem?_append_left a] at b
  obtain⟨y,e,c⟩:=h.2 i q b;exact⟨y,by rw[List.getElem?_append_left (by rw[←h.1];exact a)];exact e,c⟩
 ·subst a
  have:q=p:=by simpa using b.symm
  subst this;exact⟨x,by rw[h.1];simp,d⟩
 ·rw[List.getElem?_eq_none (by simp;omega)] at b;cases b
theorem PM:(prog.info? 68).map (fun i=>(i.zero,i.size,i.bytes))=some (some (.slice none 0 0),1,24):=by kernel_rfl
def FI(B:Nat)(w3:World)(bs:List UInt8)(pre:List Nat)(W:World):Prop:=
 (∃v ps,W.heap[B]?=some (.cells #[v] 258 (0,0))/\W.ownsRow w3.heap.size 68 1 v pre.length ps/\iE W w3.heap.size bs pre ps)/\aA (fun k=>k=B) w3 W
theorem FI.own(y:B<w3.heap.size)(bs:List UInt8):OwnFrom w3.heap.size (FI B w3 bs):=by
 rintro pre W u row ⟨⟨v,ps,f,g,m⟩,r⟩ h j;have d:=aA.of_grown h
 have no:∀k cur e,W.heap[k]?=some (.cells cur e (0,0))->¬row=some k:=fun k cur e a b=>by
  obtain⟨_,o,i,c⟩:=j k b;rw[a] at i;cases i
  cases c
 refine⟨⟨v,ps,d.blk f (no _ _ _ f),d.owns g (fun k q=>by obtain⟨cur,a⟩:=aJ g q;exact no _ _ _ a),m.keep d (fun k cur a=>no _ _ _ a)⟩,r.grown h fun k b t=>?_⟩;have:=(j k b).1;omega
theorem Eo{bs:List UInt8}{p:Value}(g:B+2<w3.heap.size)
 (d:W.heap[B]?=some (.cells #[v] 258 (0,0))) (e:W.ownsRow w3.heap.size 68 1 v pre.length ps)
 (a:aA aB W Wd) (b:aA (fun k=>(Value.slice none 0 0).ownBlock=some k) Wd Wp) (c:aA (fun k=>v.ownBlock=some k) (Wp.alloc (.cells #[p] 68)) Wr) :
 Wr.heap[B]?=some (.cells #[v] 258 (0,0)):=by
 have f:aA aB W Wp:=a.tT b (fun i _ h=>by cases h);refine c.blk ((f.alloc _).blk d id) fun h=>?_
 have:=(e.lt B h).1;omega
theorem Mu{x:Nat}{p:Value}(C:B+2<w3.heap.size)
 (q:W.heap[B]?=some (.cells #[v] 258 (0,0))) (f:W.ownsRow w3.heap.size 68 1 v pre.length ps) (A:iE W w3.heap.size bs pre ps) (m:aA (fun k=>k=B) w3 W)
 (c:aA aB W Wd) (E:Wp.ownsRow w3.heap.size 5 1 p (0+64) ([]++(jT bs (x % many bs.length)).map vb)) (d:aA (fun k=>(Value.slice none 0 0).ownBlock=some k) Wd Wp)
 (t:Wr.ownsRow w3.heap.size 68 1 v' (pre.length+1) (ps++[p])) (a:aA (fun k=>v.ownBlock=some k) (Wp.alloc (.cells #[p] 68)) Wr) :
 KeepsOthers W (Wr.setCell ⟨B,0,none⟩ v')/\BO (B+1) (B+1+1) W (Wr.setCell ⟨B,0,none⟩ v')/\FI B w3 bs (pre++[x]) (Wr.setCell ⟨B,0,none⟩ v'):=by
 have r:=Eo (bs:=bs) C q f c d a;have u:aA aB W Wp:=c.tT d (fun i _ h=>by cases h);have y:aA aB W (Wp.alloc (.cells #[p] 68)):=u.alloc _
 have j:aA (fun k=>k=B\/v.ownBlock=some k) W (Wr.setCell ⟨B,0,none⟩ v'):=
  (y.trans' a (fun _ _ h=>h.elim) (fun i _ h=>.inr h)).setCell (fun _=>.inl rfl) _
 have z:aA (fun k=>k=B) Wr (Wr.setCell ⟨B,0,none⟩ v'):=aA.setCell (S:=fun k=>k=B) (p:=⟨B,0,none⟩) (aA.refl _ _) (fun _=>rfl) _;have far:∀k,v.ownBlock=some k->w3.heap.size≤k:=fun k h=>(f.lt k h).1
 refine⟨fK j ?_,⟨j.block _ (by have:=m.size;omega) ?_,j.block _ (by have:=m.size;omega) ?_⟩,⟨v',ps++[p],?_,?_,?_⟩,m.trans' j (fun _ _ h=>h) ?_⟩
 ·rintro k o g (rfl|h)
  ·rw[q] at g;cases g;rfl
  ·obtain⟨cur,b⟩:=aJ f h
   rw[b] at g;cases g;rfl
 ·rintro (h|h)
  ·omega
  ·have:=far _ h;omega
 ·rintro (h|h)
  ·omega
  ·have:=far _ h;omega
 ·exact dQ r 0 v'
 ·rw[List.length_append]
  exact z.owns t fun k D e=>by have:=(t.lt k D).1;omega
 ·refine iE.keep ?_ z (fun k cur b e=>by subst e;rw[r] at b;cases b)
  refine iE.keep (w:=Wp.alloc (.cells #[p] 68)) ?_ a (fun k cur b e=>by obtain⟨c2,h⟩:=aJ (y.owns f fun _ _=>id) e;rw[b] at h;cases h);refine iE.keep (w:=Wp) (S:=aB) ?_ ((aA.refl _ _).alloc _) (fun _ _ _=>id);exact(A.keep u fun _ _ _=>id).snoc x p (by simpa using E)
 ·rintro i F (h|h)
  ·exact h
  ·have:=far _ h;omega
def Ep(w:World)(bs:List UInt8)(e:Ending)(w':World):Prop:=
 ∃v ps,e=.returned v/\w'.ownsRow w.heap.size 68 1 v (many bs.length) ps/\iE w' w.heap.size bs (List.range (many bs.length)) ps/\aA aB w w'
theorem Iw(z:Value)(bs:List UInt8)(w:World)(I:Rd w 1 z bs.length (bs.map vb))(M:bs.length≤140737488351232) :
 Calls prog 211 #[z] w (NY w bs):=by
 obtain⟨y,a,m,rfl,o,q,g,r⟩:=I;cases a with
 | none =>
   have G:=g rfl;subst G;have u:bs=[]:=List.eq_nil_of_length_eq_zero (by omega);subst u;clear o q g r y;have H:=fun(w:World) (a:Option Addr) (n c:Nat)=>Lib.run_eql_slice_nil (P:=prog) w 68 5 a n c 0 0 underlying68
   go_in;go_wp2;go_ret;exact⟨_,rfl,World.ownsRow_nil _ _ _ _,aA.refl _ _⟩
 | some F =>
   have K:aA aB w (w.alloc (.cells #[] 5)):=(aA.refl _ _).alloc _;have D:=O ((show Rd w 1 (.slice (some F) bs.length m) bs.length (bs.map vb) from⟨y,_,_,rfl,o,q,g,r⟩).keep K fun _ _=>id);have A:=O K;have f:0+bs.length≤maxLen:=by unfold maxLen;omega
   have E:=O f;clear o q g r y K f;have H:=fun(w:World) (a:Option Addr) (n c:Nat)=>Lib.run_eql_slice_nil (P:=prog) w 68 5 a n c 0 0 underlying68
   go_in
   go_wp2_with (at_builtin;refine aM rfl (.tmp 5) (.tmp 6) 68 rfl w.heap.size 5 _ 1 1 underlying68 gJ rfl (by omega) _ 0 [] rfl (World.ownsRow_made w #[] 0 (Nat.le_refl _) (by unfold maxLen;omega) (by simp)) _ bs.length (bs.map vb) rfl D.out (bR _) E.out (by omega) (by simp) ?_;intro v' w2 b d e t;obtain⟨J,c3,rfl,-,-⟩:=(Rd.of_owns b).form;have C:=O b;have j:=O d;clear b d e t)
   go_ret;refine⟨_,rfl,by simpa using C.out,A.tT j.out (fun i N h=>?_)⟩;have L:w.heap.size=i:=Option.some.inj h;omega
theorem zZ{wr:World}{b:UInt8}(g:x=vb b){N:Nat}(f:N=l.length)(c:wr.ownsRow w.heap.size 5 1 v N (l.map vb))(e:aA aB w wr)
 (a:w2.ownsRow w.heap.size 5 1 v' (N+1) (l.map vb++[x]))
 (d:aA (fun i=>v.ownBlock=some i) (wr.alloc (.cells #[x] 5)) w2) :
 Hid (w2.ownsRow w.heap.size 5 1 v' (N+1) ((l++[b]).map vb))/\Hid (aA aB w w2):=by
 subst g;refine⟨O (by simpa using a),O ?_⟩;refine(e.alloc _).tT d (fun i j h=>?_);have:=(c.lt i h).1;omega
theorem J8{D:Nat}{o g:Obj}(b:o.isCells=false)(q:W.heap[D]?=some o)(d:W.ownsRow w3.heap.size 68 1 v (many bs.length) ps)(m:iE W w3.heap.size bs (List.range (many bs.length)) ps)
 (t:aA aB w W) (f:w.heap.size≤w3.heap.size/\w3.heap.size≤D):Ep w bs (.returned v) (W.putObj D g):=by
 have c:=aA.of_grown (grownBy_putObj' W D g)
 have no:∀k cur e,W.heap[k]?=some (.cells cur e (0,0))->¬some D=some k:=fun k cur e a j=>by
  cases j
  rw[q] at a;cases a
  cases b
 refine⟨v,ps,rfl,?_,?_,t.tT c (fun i z e=>by cases e;omega)⟩
 ·exact bA (c.owns d fun k r=>by obtain⟨cur,a⟩:=aJ d r;exact no _ _ _ a) f.1
 ·have:=m.keep c fun k cur a=>no _ _ _ a
  exact⟨this.1,fun i p u=>by obtain⟨x,y,b⟩:=this.2 i p u;exact⟨x,y,bA b f.1⟩⟩
theorem Mv(bv:Value)(bs:List UInt8)(w:World)(hr:Rd w 1 bv bs.length (bs.map vb))(hb:bs.length≤140737488350208) :
 Calls prog 181 #[bv] w (Ep w bs):=by
 have C:=O (Iw bv bs w hr (by omega));obtain⟨a,c,rfl,-,-⟩:=hr.form;clear hr;refine callsIn_wide.1 (callsIn_of_wp_marks (F:=Fence.wide) (n:=3) func181 rfl trivial (wpIn_wide.2 ?_));simp only[ntmps181,List.size_toArray,List.length_cons,List.length_nil,Nat.reduceAdd,Nat.reduceSub,Array.replicate_succ,Array.replicate_zero,List.push_toArray,List.append_toArray,List.nil_append,List.cons_append];go_wp2_with fail;refine C.out.mono ?_;rintro e w1 ⟨v,rfl,qd,H⟩;have qn:=O (show (Value.int .u8 128)=vb 128 from rfl);have H0:=O (show (Value.int .u8 0)=vb 0 from rfl);have j:bs.length+1≤maxLen:=by unfold maxLen;omega
 have q:=O j;clear j;have r:=O qd;have m:=O H;clear qd H;have z:∀k:Int,∀u∈[Value.int .u8 k],u.oneCell'=true:=by simp[Value.oneCell']
 have V:=O z;clear z;have E:w.heap.size≤(w1.alloc (.cells #[.int .u8 128] 5)).heap.size:=by have:=m.size;simp;omega
 have HS:=O E;clear E
 go_wp2_with (at_builtin;refine aM rfl (.tmp 9) (.tmp 10) 68 rfl w.heap.size 5 _ 1 1 underlying68 gJ rfl (by omega) _ bs.length _ rfl (r.alloc _) _ 1 _ rfl (vZ _ _ _) (V _) q.out (by omega) HS.out ?_;intro v' w2 d y f t;have R:=zZ qn.out rfl r.out m.out d y;obtain⟨a3,c3,rfl,-,-⟩:=(Rd.of_owns d).form;clear d y f t r m HS)
 obtain⟨r,m⟩:=R
 go_loopw [3] (fun v wr=>∃k N:Nat,k≤nF bs.length/\N=bs.length+1+k/\(∃a c,v=.slice a N c)/\Hid (wr.ownsRow w.heap.size 5 1 v N ((bs++[128]++List.replicate k 0).map vb))/\Hid (aA aB w wr)) (fun v _=>bs.length+1+nF bs.length-PL v)
 case atStart=>exact⟨0,_,by omega,rfl,⟨_,_,rfl⟩,by simpa using r,m⟩
 case round =>
  clear r m q;obtain⟨k,N,H,hN,⟨a4,c4,rfl⟩,r,m⟩:=hrel;have hp:=BP bs.length;have zo:N≤140737488350400:=by omega
  have U:=O hN
  by_cases P:k<nF bs.length
  ·have qc:((N:Int) % 64)≠56:=by
    have:=CA bs.length k H;rw[←hN] at this;omega
   have E:w.heap.size≤(wr.alloc (.cells #[.int .u8 0] 5)).heap.size:=by have:=m.size;simp;omega
   have HS:=O E;clear E;have j:N+1≤maxLen:=by unfold maxLen;omega
   have q:=O j;clear j;have HN:=O (show N=(bs++[128]++List.replicate k 0).length by simp[hN];omega);clear hN
   go_wp2_with (at_builtin;refine aM rfl (.tmp 16) (.tmp 17) 68 rfl w.heap.size 5 _ 1 1 underlying68 gJ rfl (by omega) _ N _ rfl (r.alloc _) _ 1 _ rfl (vZ _ _ _) (V _) q.out (by omega) HS.out ?_;intro v' w2 d y f t;have R:=zZ H0.out HN.out r.out m.out d y;obtain⟨a5,c5,rfl,-,-⟩:=(Rd.of_owns d).form;clear d y f t r m HS HN)
   go_roundw
   case rel=>exact⟨k+1,N+1,by omega,by rw[U.out];omega,⟨_,_,rfl⟩,by rw[List.replicate_succ',←List.append_assoc];exact R.1,R.2⟩
   case measure=>have:=U.out;simp[PL];omega
  ·obtain rfl:k=nF bs.length:=by omega
   have qc:((N:Int) % 64)=56:=by
    have:=CA bs.length _ H;rw[←hN] at this;omega
   clear hN;go_wp2_with fail;obtain⟨L,hL⟩:∃L,L=bs++[128]++List.replicate (nF bs.length) 0:=⟨_,rfl⟩
   rw[←hL] at r;have qt:N=L.length:=by rw[U.out,hL];simp;omega
   obtain⟨M,hM⟩:∃M:Nat,M=8*bs.length:=⟨_,rfl⟩
   have qq:(bs.length:Int)*8=(M:Int):=by omega
   rw[qq];have zn:M<2251799813685248:=by omega
   have HL:=O hL;have HM:=O hM;have qo:=O qt;clear hL hM qq qt P H qc;obtain⟨wo,rfl⟩:∃wo:World,wo=wr:=⟨_,rfl⟩
   go_loopw [3,23] (fun v i wr=>∃k G:Nat,k≤8/\G=N+k/\i=.int .i64 k/\(∃a c,v=.slice a G c)/\Hid (wr.ownsRow w.heap.size 5 1 v G ((L++(List.range k).map (iY M 8)).map vb))/\Hid (aA aB w wr)) (fun _ i _=>8-(intOf i).toNat)
   case atStart=>exact⟨0,N,by omega,rfl,rfl,⟨_,_,rfl⟩,by simpa using r,m⟩
   case round =>
    clear r m;obtain⟨k,G,H,qr,rfl,⟨a5,c5,rfl⟩,r,m⟩:=hrel;have zk:G≤140737488350500:=by omega
    have qa:=O qr;clear qr
    by_cases P:k<8
    ·have j:G+1≤maxLen:=by unfold maxLen;omega
     have q:=O j;clear j;have HV:=O (show (Value.int .u8 ((M:Int) / 2 ^ (56-8*k) % 256))=vb (iY M 8 k) by rw[QA,uI,show 8*(8-k-1)=56-8*k by omega]);have HN:=O (show G=(L++(List.range k).map (iY M 8)).length by rw[qa.out,qo.out];simp);have E:w.heap.size≤(wr.alloc (.cells #[.int .u8 ((M:Int) / 2 ^ (56-8*k) % 256)] 5)).heap.size:=by have:=m.size;simp;omega
     have HS:=O E;clear E
     go_wp2_with (at_builtin;refine aM rfl (.tmp 26) (.tmp 33) 68 rfl w.heap.size 5 _ 1 1 underlying68 gJ rfl (by omega) _ G _ rfl (r.alloc _) _ 1 _ rfl (vZ _ _ _) (V _) q.out (by omega) HS.out ?_;intro v' w2 d y f t;have R:=zZ HV.out HN.out r.out m.out d y;obtain⟨a6,c6,rfl,-,-⟩:=(Rd.of_owns d).form;clear d y f t r m HS HN HV)
     go_roundw
     case rel=>exact⟨k+1,G+1,by omega,by rw[qa.out];omega,by go_num,⟨_,_,rfl⟩,by rw[tD,←List.append_assoc];exact R.1,R.2⟩
     case measure=>simp[intOf];omega
    ·obtain rfl:k=8:=by omega
     have HF:Hid (wr.ownsRow w.heap.size 5 1 (.slice a5 G c5) G ((tG bs).map vb)):=by
      refine O ?_;have:=r.out;rw[HL.out,HM.out] at this;exact this
     have qf:=O (show G=64*many bs.length by rw[←tF,qa.out,U.out]);clear r HL HM qa qo U P H;go_wp2_with fail;refine(JX _ _ ⟨_,_,_,rfl⟩).mono ?_;rintro e w3 ⟨rfl,ql⟩;obtain⟨w4,qm⟩:=zX9 (wr.alloc (.cells #[.slice none 0 0] 258))
     rw[qm] at ql;have J:=O ql;have qb:=O qm;clear ql qm;go_wp2_with fail;have Y:w4.heap.size=wr.heap.size+1:=by rw[←qb.out];simp
     have zm:w3.heap.size=wr.heap.size+3:=by rw[J.out];simp[Y]
     obtain⟨g,X,cur,hv,zp,qx,zh,zi,zq,zj⟩:∃g X cur,Value.slice a5 G c5=.slice (some ⟨g,0,none⟩) G X/\w.heap.size≤g/\wr.heap[g]?=some (.cells cur 5 (0,0))/\G≤X/\X≤maxLen/\cur.size=X*1/\cur.toList.take (G*1)=(tG bs).map vb:=by
      rcases HF.2 with⟨h,h0⟩|h
      ·have:=Ek bs.length;have:=qf.out;omega
      ·exact h
     cases hv
     have zd:w3.heap[wr.heap.size+1]?=some (.cells #[.slice (some ⟨g,0,none⟩) (64*many bs.length) c5] 68 (0,0)):=by
      rw[J.out,←Y,←qf.out];exact heap_alloc2_old _ _ _
     have ze:w3.heap[wr.heap.size+1+1]?=some (.cells #[.int .i64 64] 3 (0,0)):=by
      rw[J.out,←Y];exact heap_alloc2_new _ _ _
     refine wpIn_wide (n:=3).1 ?_;refine' wpIn_rangeFunc_ownF rfl (by omega) (gf:=234) rfl trivial (enters_of func234 (by kernel_rfl) rfl) (F7 _ (wr.heap.size+1) (wr.heap.size+1+1) g 0 (many bs.length) c5 (by rw[←qf.out];exact zh) zi w3 zd ze) ?hKt ?hKb (Below.refl _ _) (fun _=>rfl) (FI wr.heap.size w3 bs) (fun _ _ _=>False) (FI.own (by omega) bs) (fun c s A B row hs _ _=>hs) ?h0 _ ?assign ?body ?done ?stop
     case hKt=>exact fun h k=>⟨k.1.trans h.1,k.2.trans h.2⟩
     case hKb=>exact fun W l o o' hl _ _ _=>⟨World.putObj_heap_other (by omega),World.putObj_heap_other (by omega)⟩
     case h0 =>
      refine⟨⟨.slice none 0 0,[],?_,World.ownsRow_nil _ _ _ _,rfl,fun i p h=>by simp at h⟩,aA.refl _ _⟩;rw[J.out,←qb.out];exact(((aA.refl aB _).alloc _).alloc _).blk (heap_alloc_new _ _) id
     case assign =>
      intro l x W K hK
      gi_wp2_with fail
      exact hK
     case body =>
      rintro l pre x W ⟨⟨v,ps,h1,h2,h3⟩,H⟩ zl;obtain⟨av,cv,rfl,-,-⟩:=(Rd.of_owns h2).form;have P:x % many bs.length<many bs.length:=Nat.mod_lt _ (Ek _)
      have HP:Hid (Rd W 1 (.slice (some ⟨g,0+64*(x % many bs.length),none⟩) 64 64) 64 ((jT bs (x % many bs.length)).map vb)):=by
       refine O ⟨by simp[qT bs _ P],_,64,rfl,Nat.le_refl _,by unfold maxLen;omega,(by intro h;cases h),fun _=>⟨g,_,rfl,fun i u hu=>?_⟩⟩
       have hi:i<64:=by
        have:=(List.getElem?_eq_some_iff.1 hu).1
        simpa [qT bs _ P] using this
       have zf:w3.heap[g]?=some (.cells cur 5 (0,0)):=by
        rw[J.out,←qb.out];exact((((aA.refl aB _).alloc _).alloc _).alloc _).blk qx id
       have zg:=H.blk zf (by have:=lt_of_block qx;omega);refine aC zg ?_;rw[List.getElem?_map,JZ _ _ _ hi,←List.getElem?_map,←zj,List.getElem?_take] at hu;split at hu
       ·rw[Nat.zero_add];simpa using hu
       ·cases hu
      have HB:=O h1;have H2:=O h2;have H3:=O h3;have Z:=O H;clear h1 h2 h3 H
      gi_wp2_with fail
      refine mJ (by kernel_rfl) (by kernel_rfl) (fun ⟨_,_,h⟩=>h) ?_;refine Ht (v:=.slice av pre.length cv) (S:=fun w'=>w'.heap[wr.heap.size]?=some (.cells #[.slice av pre.length cv] 258 (0,0))) rfl (by kernel_rfl) (by decide) (by kernel_rfl) (by kernel_rfl) (by kernel_rfl) (fun _ _ _ h=>h) (.inl ⟨by rfl,?_⟩) HB.out ?_
      ·intro w' hS
       have hc:=cell_of_one hS
       go_simp
      ·obtain⟨Wd,qu,I⟩:∃Wd,({ W with drawn:=W.drawn+1 }:World)=Wd/\Hid (aA aB W Wd):=⟨_,rfl,O (aA.refl aB W).drew⟩
       rw[qu];clear qu
       have za:Hid (Rd Wd 1 (.slice (some ⟨g,64*(x % many bs.length),none⟩) 64 64) 64 ((jT bs (x % many bs.length)).map vb)):=by
        have:=HP.keep I.out fun _ _=>id
        rw[Nat.zero_add] at this;exact O this
       have qe:=O (I.blk HB.out id);have qv:w3.heap.size≤Wd.heap.size:=Nat.le_trans Z.size I.size;have q0:=O qv;clear qv;change wpList _ _ (Exit.then _ _) [_] _ _;go_wp2_with fail;refine⟨fun _=>qe.out,?_⟩;change wpList _ _ (Exit.then _ _) [_] _ _;refine aM rfl (.const (.slice none 0 0)) (.tmp 40) 68 rfl w3.heap.size 5 _ 1 1 underlying68 gJ rfl (by omega) _ 0 [] rfl (World.ownsRow_nil _ _ _ _) _ 64 _ rfl za.out (bR _) (by unfold maxLen;omega) (by omega) q0.out ?_;intro p Wp qj qy f t;have q5:=O qj;have Q:=O qy;obtain⟨ap,cp,rfl,-,-⟩:=(Rd.of_owns qj).form;clear qj qy f t;refine wpList_nil ⟨fun _=>Q.blk qe.out (fun h=>by cases h),?_⟩;change wpList _ _ (Exit.then _ _) [_] _ _;go_wp2_with fail;refine⟨fun _=>((aA.refl aB Wp).alloc _).blk (Q.blk qe.out (fun h=>by cases h)) id,?_⟩;refine BH [_,_] 4 _ _ (by kernel_rfl) ?_;have j:pre.length+1≤maxLen/\(pre.length+1)*24≤140737488355328:=by have:=tF bs.length;have:=BP bs.length;unfold maxLen;omega
       have q:=O j;clear j;have z:∀u∈[Value.slice ap (0+64) cp],u.oneCell'=true:=by simp[Value.oneCell']
       have qg:=O z;clear z;have qh:aA aB W (Wp.alloc (.cells #[.slice ap (0+64) cp] 68)):=(I.tT Q.out (fun i _ h=>by cases h)).alloc _;have q9:=O (qh.owns H2.out fun _ _=>id);have qw:w3.heap.size≤(Wp.alloc (.cells #[.slice ap (0+64) cp] 68)).heap.size:=Nat.le_trans Z.size qh.size;have q1:=O qw;clear qw qh;refine aM rfl (.tmp 39) (.tmp 42) 258 rfl w3.heap.size 68 _ 1 24 underlying258 PM rfl (by omega) _ pre.length ps rfl q9.out _ 1 _ rfl (vZ _ _ _) qg.out q.1 q.2 q1.out ?_;intro v' Wr qk qi f t;have HM:=Eo (bs:=bs) (by omega) HB.out H2.out I.out Q.out qi;have R:=O (Mu (x:=x) (by omega) HB.out H2.out H3.out Z.out I.out q5.out Q.out qk qi);have cM:=cell_of_one HM;have fM:=dE HM 0;obtain⟨ar,cr,rfl,-,-⟩:=(Rd.of_owns qk).form;clear qk qi f t HM;go_wp2_with fail;exact R.out
     case done =>
      intro D xs W hD hS hI qp;obtain⟨⟨v,ps,h1,h2,h3⟩,H⟩:=hI;have c1:=cell_of_one h1;subst hS;rw[List.length_range] at h2;obtain⟨ar,cr,rfl,-,-⟩:=(Rd.of_owns h2).form;have H2:=O h2;have H3:=O h3;have Z:=O H;have HD:=O qp
      have qz:aA aB w W:=by
       refine aA.trans' (S:=aB) (T:=fun k=>k=wr.heap.size) (b:=w3) ?_ H (fun _ _ h=>h) (fun i hi e=>by have:=m.size;omega);rw[J.out,←qb.out];exact((m.alloc _).alloc _).alloc _
      have q3:=O qz;clear h1 h2 h3 H qp qz;go_wp2_with fail;refine⟨by simp,.inl ⟨_,_,rfl,run_takeDeferred HD.out,?_⟩⟩;refine⟨_,results_tmp rfl _ _ _,?_⟩;exact J8 rfl HD.out H2.out H3.out q3.out ⟨by have:=m.size;omega,hD⟩
     case stop=>exact fun D c pre W _ _ h _=>h.elim
open Go.RowKit
set_option maxRecDepth 100000
def PN:St:=⟨1779033703,3144134277,1013904242,2773480762,1359893119,2600822924,528734635,1541459225⟩
def sJ(bs:List UInt8):Nat->St
 | 0=>PN
 | k+1=>wQ (byt (jT bs k)) (sJ bs k)
def dgB(s:St)(j:Nat):UInt8:=UInt8.ofNat (s.at (j / 4) / 2 ^ (24-8*(j % 4)) % 256).toNat
theorem PO(s:St)(j:Nat):vb (dgB s j)=.int .u8 (s.at (j / 4) / 2 ^ (24-8*(j % 4)) % 256):=by
 unfold vb dgB;have a:=Int.emod_nonneg (s.at (j / 4) / 2 ^ (24-8*(j % 4))) (show (256:Int)≠0 by omega);have b:=Int.emod_lt_of_pos (s.at (j / 4) / 2 ^ (24-8*(j % 4))) (show (0:Int)<256 by omega);generalize s.at (j / 4) / 2 ^ (24-8*(j % 4)) % 256=y at *;obtain⟨n,rfl⟩:=Int.eq_ofNat_of_zero_le a;have:n<256:=by omega
 simp;omega
def dB(bs:List UInt8):List UInt8:=(List.range 32).map (dgB (sJ bs (many bs.length)))
theorem cZ(bs:List UInt8):(dB bs).length=32:=by simp[dB]
def iR(s:St)(n:Nat):List Value:=(List.range 32).map fun j=>if j<n then vb (dgB s j) else .int .u8 0
theorem Er(s:St)(n:Nat):(iR s n).set n (vb (dgB s n))=iR s (n+1):=by
 apply List.ext_getElem
 ·simp[iR]
 ·intro i a b
  simp only[List.getElem_set,iR,List.getElem_map,List.getElem_range]
  by_cases e:n=i
  ·subst e;simp
  ·rw[if_neg e]
   by_cases h:i<n
   ·rw[if_pos h,if_pos (by omega)]
   ·rw[if_neg h,if_neg (by omega)]
theorem F8(bs:List UInt8):iR (sJ bs (many bs.length)) 32=(dB bs).map vb:=by
 apply List.ext_getElem
 ·simp[iR,dB]
 ·intro i a b
  have:i<32:=by simpa [iR] using a
  simp[iR,dB,this]
theorem F9(s:St)(n:Nat){j:Nat}(a:j<32):∃u,(iR s n)[j]?=some u:=⟨_,by simp[iR,a];rfl⟩
def OB(w:World)(bs:List UInt8)(e:Ending)(w':World):Prop:=e=.returned (.agg ((dB bs).map vb).toArray)/\aA aB w w'
def wU:Value:=.agg (Array.replicate 32 (.int .u8 0))
theorem AT(w:World):(zeroValue 28).run prog w=.ok wU w:=by kernel_rfl
theorem oY:(prog.info? 28).map (·.size)=some 32:=by kernel_rfl
structure SR(T:TypeId)(w wr:World)(bs:List UInt8)(v:Value)(ps:List Value)(base b3 k:Nat):Prop where
 st:wr.heap[b3]?=some (.cells ((sJ bs k).l.map vW).toArray T (0,0))
 res:wr.heap[w.heap.size]?=some (.cells (Array.replicate 32 (.int .u8 0)) 28 (0,0))
 own:wr.ownsRow base 68 1 v (many bs.length) ps
 pcs:iE wr base bs (List.range (many bs.length)) ps
 keep:aA aB w wr
 lt:w.heap.size<b3
 typ:T≠5/\T≠68/\T≠28
theorem SR.same{wr:World}(h:SR T w wr bs v ps base b3 k)(a:aA aB wr w2):SR T w w2 bs v ps base b3 k:=
 ⟨a.blk h.st id,a.blk h.res id,a.owns h.own fun _ _=>id,h.pcs.keep a fun _ _ _=>id,h.keep.trans a,h.lt,h.typ⟩
theorem SR.turn{wr:World}(h:SR T w wr bs v ps base b3 k)(g:aA aB wr w2)
 (d:w3.heap[b3]?=some (.cells (spl ((sJ bs k).l.map vW).toArray 0 ((wQ (byt (jT bs k)) (sJ bs k)).l.map vW)) T (0,0))) (a:aA (fun i=>i=b3) w2 w3):Hid (SR T w w3 bs v ps base b3 (k+1)):=by
 have b:=h.same g;have lt:=h.lt;refine O ⟨?_,a.blk b.res (by omega),a.owns b.own (fun i f e=>?_),b.pcs.keep a (fun i cur c e=>?_),b.keep.tT a (fun i f e=>by omega),h.lt,h.typ⟩
 ·rw[aS _ _ (by simp[St.l])] at d;exact d
 ·subst e
  obtain⟨cur,c⟩:=aJ b.own f;rw[b.st] at c;cases c
  exact h.typ.2.1 rfl
 ·subst e
  rw[b.st] at c;cases c
  exact h.typ.1 rfl
theorem SR.piece{wr:World}(h:SR T w wr bs v ps base b3 k)(b:k<many bs.length) :
 ∃ap cp g a,v=.slice (some ⟨g,0,none⟩) (many bs.length) a/\wr.cell? ⟨g,k,none⟩=some (.slice ap 64 cp)/\Rd wr 1 (.slice ap 64 cp) 64 ((jT bs k).map vb):=by
 have f:ps.length=many bs.length:=by rw[h.pcs.1];simp
 obtain⟨p,d⟩:∃p,ps[k]?=some p:=⟨ps[k],by simp[f,b]⟩
 obtain⟨x,e,c⟩:=h.pcs.2 k p d;have:x=k:=by rw[List.getElem?_range b] at e;exact(Option.some.inj e).symm
 subst this;rw[Nat.mod_eq_of_lt b] at c;obtain⟨ap,cp,rfl,-,-⟩:=(Rd.of_owns c).form;rcases h.own.2 with⟨-,h0⟩|⟨g,a,cur,rfl,-⟩
 ·omega
 ·refine⟨ap,cp,g,a,rfl,?_,Rd.of_owns c⟩
  have:=h.own.cells (g:=g) rfl x _ d
  rwa [jL,Nat.zero_add] at this
structure DR(T:TypeId)(w wr:World)(s:St)(b3 b6 n:Nat):Prop where
 st:wr.heap[b3]?=some (.cells (s.l.map vW).toArray T (0,0))
 res:wr.heap[w.heap.size]?=some (.cells (Array.replicate 32 (.int .u8 0)) 28 (0,0))
 out:wr.heap[b6]?=some (.cells (iR s n).toArray 28 (0,0))
 keep:aA aB w wr
 l3:w.heap.size<b3
 l6:b3<b6
theorem DR.step{wr:World}(h:DR T w wr s b3 b6 n)(a:x=vb (dgB s n)):Hid (DR T w (wr.setCell ⟨b6,n,none⟩ x) s b3 b6 (n+1)):=by
 subst a;have l3:=h.l3;have l6:=h.l6;have K:aA (fun k=>k=b6) wr (wr.setCell ⟨b6,n,none⟩ (vb (dgB s n))):=aA.setCell (S:=fun k=>k=b6) (p:=⟨b6,n,none⟩) (aA.refl _ _) (fun _=>rfl) _;refine O ⟨K.blk h.st (by omega),K.blk h.res (by omega),?_,h.keep.tT K (fun i b e=>by omega),l3,l6⟩;have:=dQ h.out n (vb (dgB s n));rw[List.setIfInBounds_toArray,Er] at this;exact this
theorem Q5(S:St)(j:Nat)(a:j<8):∀w:World,Sem.run prog (Instr.index 256 (.agg (S.l.map vW).toArray) (.int .i64 (j:Int))) w=.ok (vW (S.at j)) w:=by
 intro w;have h:j=0\/j=1\/j=2\/j=3\/j=4\/j=5\/j=6\/j=7:=by omega
 rcases h with rfl|rfl|rfl|rfl|rfl|rfl|rfl|rfl<;>(show _=_;kernel_rfl)
theorem DR.free{wr:World}(h:DR T w wr s b3 b6 n)(a:n<32):(∃u,wr.cell? ⟨b6,n,none⟩=some u)/\wr.frozen? ⟨b6,n,none⟩=false:=by
 obtain⟨u,b⟩:=F9 s n a;exact⟨⟨u,aC h.out (by simpa using b)⟩,dE h.out n⟩
theorem yF(bv:Value)(bs:List UInt8)(w:World)(hr:Rd w 1 bv bs.length (bs.map vb))(hb:bs.length≤140737488350208) :
 Calls prog 134 #[bv] w (OB w bs):=by
 obtain⟨a,c,rfl,-,-⟩:=hr.form;have HR:=O hr;clear hr;go_in
 go_wp2_with (first
  | (refine aY rfl 28 rfl wU AT (Array.replicate 32 (.int .u8 0)) rfl ?_))
 refine(J7 _).mono ?_;rintro e z ⟨rfl,Z⟩;have d:∃vs,oW.map vW=vs/\vs.length=8:=⟨_,rfl,rfl⟩
 obtain⟨vs,d,r⟩:=d;rw[d];have qc:∀u∈vs,u.oneCell'=true:=by rw[←d];exact iD _
 have V:=O d;have A:=O Z;clear d Z;have qo:w.heap.size<z.heap.size:=by have:=A.size;simp at this;omega
 go_wp2_with (first
  | (refine aY rfl 256 rfl jU wT (Array.replicate 8 (.int .u32 0)) rfl ?_)
  | (with_reducible show WL none (.store 256 (.tmp 3) (.tmp 10));refine aQ rfl 256 (.tmp 3) (.tmp 10) rfl z.heap.size 0 vs rfl rfl _ _ (heap_alloc_new _ _) (by rw[r];decide) (by rw[r];exact gO) qc ?_;intro w2 X m;have P:=O X;have H:=O m;clear X m))
 have qb:aA aB w w2:=(((aA.refl aB w).alloc _).trans A.out |>.alloc _).tT H.out (fun i hi e=>by omega);have I:=O qb;clear qb;refine(Mv _ bs w2 (HR.keep I.out fun _ _=>id) hb).mono ?_;rintro e w3 ⟨v,ps,rfl,t,G,E⟩
 have R0:Hid (SR 256 w w3 bs v ps w2.heap.size z.heap.size 0):=by
  refine O ⟨?_,E.blk (H.blk (((A.alloc _).blk (heap_alloc_new _ _) id)) (by omega)) id,t,G,I.trans E,qo,by decide⟩;have:=P.out;rw[aS _ _ (by rw[r];rfl),←V.out] at this;exact E.blk this id
 obtain⟨av,cv,rfl,-,-⟩:=(Rd.of_owns t).form;clear t G E P H I A V;have hm:=tF bs.length;have hp:=BP bs.length;obtain⟨M,hM⟩:∃M,M=many bs.length:=⟨_,rfl⟩
 rw[←hM] at hm R0 ⊢;have HM:=O hM;clear hM;go_wp2_with fail
 go_loopw [14] (fun i wr=>∃k:Nat,k≤M/\i=.int .i64 k/\Hid (SR 256 w wr bs (.slice av M cv) ps w2.heap.size z.heap.size k)) (fun i _=>M-(intOf i).toNat)
 case atStart=>exact⟨0,by omega,rfl,R0⟩
 case round =>
  clear R0;obtain⟨k,hk,rfl,hR⟩:=hrel
  by_cases m:k<M
  ·obtain⟨ap,cp,g,qq,hv,c0,qd⟩:=hR.out.piece (by rw[←HM.out];exact m)
   rw[←HM.out] at hv;cases hv
   have qr:(0:Int)≤(k:Int):=by omega
   have qt:(k:Int)<(M:Int):=by omega
   have HP:=O qd;clear qd;obtain⟨us,N⟩:=zX9 ((sJ bs k).l.map vW)
   have L:us.length=8:=by rw[←N];rfl
   have U:=O N;clear N
   go_wp2_with (first
    | (with_reducible show WL (some 18) (.load 256 (.tmp 3));refine wpList_load_mid rfl 256 (.tmp 3) rfl z.heap.size 0 rfl us _ (aD (by rw[←U.out];exact hR.out.st)) underlying256 rfl (by rw[L];exact gO) ?_))
   rw[←U.out];refine(Iv (sJ bs k) _ (jT bs k) _ (qT bs k (by rw[←HM.out];exact m)) HP.out).mono ?_;rintro e w4 ⟨rfl,qa⟩;obtain⟨ts,y⟩:=zX9 ((wQ (byt (jT bs k)) (sJ bs k)).l.map vW)
   have qe:ts.length=8:=by rw[←y];rfl
   have qp:∀u∈ts,u.oneCell'=true:=by rw[←y];exact iD _
   rw[y];have qj:=O y;have Q:=O qa;clear y qa
   go_wp2_with (first
    | (with_reducible show WL none (.store 256 (.tmp 3) (.tmp 20));refine aQ rfl 256 (.tmp 3) (.tmp 20) rfl z.heap.size 0 ts rfl rfl _ _ (Q.out.blk hR.out.st id) (by rw[qe];simp[St.l]) (by rw[qe];exact gO) qp ?_;intro w5 b o;rw[←qj.out] at b;have ql:=hR.out.turn Q.out b o;clear b o))
   go_roundw
   case rel=>exact⟨k+1,by omega,by go_num,ql⟩
   case measure=>simp[intOf];omega
  ·obtain rfl:k=M:=by omega
   obtain⟨S,hS⟩:=zX9 (sJ bs k)
   have D0:Hid (DR 256 w (wr.alloc (.cells (Array.replicate 32 (.int .u8 0)) 28)) S z.heap.size wr.heap.size 0):=by
    have h:=hR.out;have K:aA aB wr (wr.alloc (.cells (Array.replicate 32 (.int .u8 0)) 28)):=(aA.refl _ _).alloc _;exact O ⟨by rw[←hS];exact K.blk h.st id,K.blk h.res id,heap_alloc_new _ _,h.keep.trans K,h.lt,lt_of_block h.st⟩
   have qi:=O hS;clear hS hR;have L:(S.l.map vW).length=8:=rfl
   go_wp2_with (first
    | (refine aY rfl 28 rfl wU AT (Array.replicate 32 (.int .u8 0)) rfl ?_)
    | (with_reducible show WL (some 22) (.load 256 (.tmp 3));refine wpList_load_mid rfl 256 (.tmp 3) rfl z.heap.size 0 rfl (S.l.map vW) _ (aD D0.out.st) underlying256 rfl (by rw[L];exact gO) ?_))
   generalize wr.alloc (.cells (Array.replicate 32 (.int .u8 0)) 28)=w0 at *;generalize wr.heap.size=b6 at *
   go_loopw [23] (fun i wr=>∃j:Nat,j≤8/\i=.int .i64 j/\Hid (DR 256 w wr S z.heap.size b6 (4*j))) (fun i _=>8-(intOf i).toNat)
   case atStart=>exact⟨0,by omega,rfl,D0⟩
   case round =>
    clear D0;obtain⟨j,hj,rfl,C⟩:=hrel
    by_cases Y:j<8
    ·have hx:(S.l.map vW).toArray[j]?=some (vW (S.at j)):=by simp[S.at_get j Y]
     have qw:(0:Int)≤(j:Int):=by omega
     have qx:(j:Int)<8:=by omega
     have qn:=Q5 S j Y;obtain⟨x,hx⟩:=zX9 (S.at j)
     simp only[hx,show vW x=.int .u32 x from rfl] at qn;have HX:=O hx;clear hx;go_wp2_with fail;obtain⟨wo,rfl⟩:∃wo:World,wo=wr:=⟨_,rfl⟩
     go_loopw [27] (fun i wr=>∃k:Nat,k≤4/\i=.int .i64 k/\Hid (DR 256 w wr S z.heap.size b6 (4*j+k))) (fun i _=>4-(intOf i).toNat)
     case atStart=>exact⟨0,by omega,rfl,C⟩
     case round =>
      clear C;obtain⟨q,hq,rfl,C⟩:=hrel
      by_cases q0:q<4
      ·obtain⟨⟨u,qu⟩,qv⟩:=C.out.free (show 4*j+q<32 by omega)
       have qy:(0:Int)≤(q:Int):=by omega
       have qz:(q:Int)<4:=by omega
       have HV:=O (show (Value.int .u8 (x / 2 ^ (24-8*q) % 256))=vb (dgB S (4*j+q)) by rw[PO,←HX.out,show (4*j+q) / 4=j by omega,show (4*j+q) % 4=q by omega]);have qk:=C.out.step HV.out;go_wp2_with fail;refine⟨⟨q+1,by omega,by go_num,qk⟩,?_⟩;simp[intOf];omega
      ·obtain rfl:q=4:=by omega
       go_wp2
       go_roundw
       case rel=>exact⟨j+1,by omega,by go_num,by rw[show 4*(j+1)=4*j+4 by omega];exact C⟩
       case measure=>simp[intOf];omega
    ·obtain rfl:j=8:=by omega
     obtain⟨J,f⟩:=zX9 ((dB bs).map vb)
     have D:J.length=32:=by rw[←f];simp[cZ]
     have qm:∀u∈J,u.oneCell'=true:=by rw[←f];exact bR _
     have F:wr.heap[b6]?=some (.cells J.toArray 28 (0,0)):=by
      have:=C.out.out;rw[←f,←F8,←HM.out,qi.out];exact this
     have qg:=O f;have R:=O F;clear f F
     go_wp2_with (first
      | (with_reducible show WL (some 43) (.load 28 (.tmp 6));refine wpList_load_mid rfl 28 (.tmp 6) rfl b6 0 rfl J _ (aD R.out) underlying28 rfl (by rw[D];exact oY) ?_)
      | (with_reducible show WL none (.store 28 (.tmp 2) (.tmp 43));refine aQ rfl 28 (.tmp 2) (.tmp 43) rfl w.heap.size 0 J rfl rfl _ _ C.out.res (by rw[D];simp) (by rw[D];exact oY) qm ?_;intro w5 b o;have qf:=O b;have qh:=O o;clear b o))
     refine bodyPost_ret (results_cell_row rfl _ _ w.heap.size _ _ _ _ rfl qf.out underlying28 rfl (by rw[gF];simp[oY])) rfl ⟨?_,?_⟩
     ·rw[aS _ _ (by rw[D];simp),qg.out]
     ·exact C.out.keep.tT qh.out (fun i hi e=>by omega)
open Go.RowKit
set_option maxRecDepth 100000
structure Rdr(w:World)(base p:Nat)(v:Value)(l:List UInt8)(at_:Nat)(fe fa:Int):Prop where
 blk:w.heap[p]?=some (.cells #[.bool true,v,.int .i64 at_,.int .i64 fe,.int .i64 fa] 342 (0,0))
 own:w.ownsRow base 5 1 v l.length (l.map vb)
 ne:v.ownBlock≠some p
 le:base≤p
 fit:at_≤l.length
 max:l.length≤65536
theorem Rdr.cells(h:Rdr w base p v l at_ fe fa) :
 w.cell? ⟨p,0,none⟩=some (.bool true)/\w.cell? ⟨p,1,none⟩=some v/\w.cell? ⟨p,2,none⟩=some (.int .i64 at_)/\w.cell? ⟨p,3,none⟩=some (.int .i64 fe)/\w.cell? ⟨p,4,none⟩=some (.int .i64 fa)/\(∀i,w.frozen? ⟨p,i,none⟩=false):=by
 refine⟨?_,?_,?_,?_,?_,fun i=>frozen_of_row w p i _ _ h.blk⟩<;>(rw[cell_of_row w p _ _ _ _ h.blk];rfl)
theorem Rdr.keep(h:Rdr w base p v l at_ fe fa)(k:aA S w w')(a:¬S p)(b:∀g,v.ownBlock=some g->¬S g):Rdr w' base p v l at_ fe fa:=
 ⟨k.blk h.blk a,k.owns h.own b,h.ne,h.le,h.fit,h.max⟩
theorem Rdr.setAt(h:Rdr w base p v l at_ fe fa)(n:Nat)(a:n≤l.length):Rdr (w.setCell ⟨p,2,none⟩ (.int .i64 n)) base p v l n fe fa:=
 ⟨by rw[dQ h.blk];rfl,ownsRow_setCell_other h.own (by simpa using h.ne) _,h.ne,h.le,a,h.max⟩
theorem wX(w:World)(base p:Nat)(v:Value)(l:List UInt8)(at_:Nat)(fe fa:Int)(h:Rdr w base p v l at_ fe fa) :
 Calls prog 244 #[.pointer p] w (fun e w'=>e=.returned (.bool false)/\w=w'):=by
 obtain⟨c0,c1,c2,c3,c4,a⟩:=h.cells;clear h;go_in;go_wp2;go_ret;exact⟨rfl,rfl⟩
theorem Kd(d:Value)(bs:List UInt8)(w:World)(f:Rd w 1 d bs.length (bs.map vb))(j:bs.length≤65536) :
 Calls prog 218 #[d] w (fun e w'=>∃p v,e=.returned (.pointer (some ⟨p,0,none⟩))/\Rdr w' w.heap.size p v bs 0 0 0/\aA aB w w'):=by
 have C:=O (CB d bs w f (by omega));obtain⟨a,c,rfl,-,-⟩:=f.form;clear f;go_in;go_wp2_with fail;refine C.out.mono ?_;rintro e o ⟨v,rfl,b,i⟩;obtain⟨q,c3,rfl,-,-⟩:=(Rd.of_owns b).form;have h:=O b;have g:=O i;clear b i;go_wp2;go_ret;refine⟨_,_,rfl,⟨heap_alloc_new _ _,(((aA.refl aB o).alloc _).owns h.out fun _ _=>id),?_,g.size,Nat.zero_le _,j⟩,g.alloc _⟩;intro e;obtain⟨cur,m⟩:=aJ h.out e;have:=lt_of_block m;omega
theorem GN(w:World)(base p:Nat)(v:Value)(l:List UInt8)(at_:Nat)(fe fa:Int)(h:Rdr w base p v l at_ fe fa)(n:Nat)(f:1≤n)(E:at_+n≤l.length) :
 Calls prog 242 #[.pointer p,.int .i64 n] w (fun e w'=>∃d,e=.returned d/\Rd w' 1 d n (((l.drop at_).take n).map vb)/\aA aB w w'):=by
 obtain⟨c0,c1,c2,c3,c4,r⟩:=h.cells
 obtain⟨g,c,q,o,m⟩:∃g c,v=.slice (some ⟨g,0,none⟩) l.length c/\l.length≤c/\c≤9223372036854775807:=by
  rcases h.own.2 with⟨-,h0⟩|⟨g,b,cur,rfl,_,_,f,j,A,C⟩
  ·omega
  ·exact⟨g,b,rfl,by omega,by unfold maxLen at j;omega⟩
 subst q;have H:=O h;have D:=h.max;clear h;have t:IntKind.i64.wrap ((at_:Int)+(n:Int))=(at_:Int)+(n:Int):=by rw[IntWalk.i64_in _ (by omega)]
 have y:IntKind.i64.wrap ((l.length:Int)-(at_:Int))=(l.length:Int)-(at_:Int):=by rw[IntWalk.i64_in _ (by omega)]
 have z:((at_:Int)+(n:Int)).toNat=at_+n:=by omega
 have F:(0:Int)≤(at_:Int):=by omega
 have G:(0:Int)≤(at_:Int)+(n:Int):=by omega
 have I:(at_:Int)≤(at_:Int)+(n:Int):=by omega
 have J:(at_:Int)+(n:Int)≤(c:Int):=by omega
 have K:at_<c:=by omega
 have L:at_+n≤c:=by omega
 have M:at_≤at_+n:=by omega
 have t1:decide ((l.length:Int)-(at_:Int)<(n:Int))=false:=by simp;omega
 go_in;go_wp2_with fail
 go_quiet (fail)
 go_wp2_with fail
 go_quiet (fail)
 go_wp2;go_ret;refine⟨_,rfl,?_,?_⟩
 ·refine Rd.keep (w:=w) (S:=aB) ?_ (aA.drewN (aA.drewN (aA.refl _ _) _) _) (fun _ _=>id)
  refine⟨by simp;omega,_,_,rfl,by omega,by unfold maxLen;omega,(by intro h;cases h),fun _=>⟨g,at_,rfl,fun i u a=>?_⟩⟩;have:=H.own.cells (g:=g) rfl (at_+i) u ?_
  ·rwa [jL,Nat.zero_add] at this
  ·rw[List.map_take,List.map_drop,List.getElem?_take] at a
   split at a
   ·rwa [List.getElem?_drop] at a
   ·cases a
 ·exact aA.drewN (aA.drewN (aA.refl _ _) _) _
def Iy(b a:Int):List PanicEntry:=[{ v:=.iface 344 (.agg #[.int .i64 b,.int .i64 a]),recovered:=false }]
theorem Iz(A:Nat)(w:World) :
 CallsD prog 253 #[.pointer A] .returning w fun e c w'=>e=.returned (.tuple #[])/\c=.returning/\w'=w:=by
 refine callsD_of_wpS func253 rfl fun a d b=>?_
 apply wpS_seq;apply wpS_region;simp[wpOpsS,go_sem,recoverD,b,ntmps253,Exit.thenS];refine wpS_of_wp ?_;go_wp2_with fail;cases a
 simp_all [bodyPostS,results,results253]
def PT(p:Nat)(c b:Int)(a:Array Value)(w:World)(e:Ending)(d:FrameMode)(w':World):Prop:=
 e=.returned (.tuple #[])/\d=.panicking [{ v:=.iface 344 (.agg #[.int .i64 c,.int .i64 b]),recovered:=true }] /\
 w'.heap[p]?=some (.cells (spl a 3 [.int .i64 c,.int .i64 b]) 342 (0,0))/\aA (fun k=>k=p) w w'
theorem MB(w:World):(zeroValue 344).run prog w=.ok (.agg #[.int .i64 0,.int .i64 0]) w:=by kernel_rfl
theorem Eu:(prog.info? 344).map (·.size)=some 2:=by kernel_rfl
theorem mD:(prog.info? 179).map (·.size)=some 2:=by kernel_rfl
theorem IA(A p:Nat)(j g:Int)(w:World)(I:w.cell? ⟨A,0,none⟩=some (.pointer p))(f:Array Value)(M:f.size=5)(G:w.heap[p]?=some (.cells f 342 (0,0))) :
 CallsD prog 253 #[.pointer A] (.panicking (Iy j g)) w (PT p j g f w):=by
 have t:∀(w:World),Sem.run prog (Instr.typeAssert (.iface 344 (.agg #[.int .i64 j,.int .i64 g])) 20 344 true) w=.ok (.tuple #[.agg #[.int .i64 j,.int .i64 g],.bool true]) w:=fun w=>by kernel_rfl
 have Q:=lt_of_block G;have L:=O G;have H:=O I;clear G I;refine callsD_of_wpS func253 rfl fun V U R=>?_
 simp only[ntmps253,List.size_toArray,List.length_cons,List.length_nil,Nat.reduceAdd,Nat.reduceSub,Array.replicate_succ,
  Array.replicate_zero,List.push_toArray,List.append_toArray,List.nil_append,List.cons_append]
 apply wpS_seq;apply wpS_region;simp[wpOpsS,go_sem,recoverD,R,Iy,Exit.thenS];refine wpS_of_wp ?_;obtain⟨c,b⟩:∃c:List Value,c=[.int .i64 j,.int .i64 g]:=⟨_,rfl⟩
 have a:c.length=2:=by rw[b];rfl
 have y:∀u∈c,u.oneCell'=true:=by rw[b];simp[Value.oneCell']
 have m:=O b;have K:∀(w:World),Sem.run prog (Instr.typeAssert (.iface 344 (.agg c.toArray)) 20 344 true) w=.ok (.tuple #[.agg c.toArray,.bool true]) w:=by rw[b];exact t
 rw[show (#[Value.int .i64 j,.int .i64 g]:Array Value)=c.toArray by rw[b]];have J:A<w.heap.size:=by have:=World.block_lt_of_cell? w _ H.out;exact this
 clear b t
 go_wp2_with (first
  | (refine aY rfl 344 rfl _ MB #[.int .i64 0,.int .i64 0] rfl ?_)
  | ((with_reducible show WL none (.store 344 (.tmp 2) (.tmp 9)));refine aQ rfl 344 (.tmp 2) (.tmp 9) rfl w.heap.size 0 c rfl rfl _ _ (heap_alloc_new _ _) (by rw[a];decide) (by rw[a];exact Eu) y ?_;intro w2 o d;have N:=d.cell (((aA.refl aB w).alloc _).cell H.out id) (by omega);have z:=O o;have F:=O (d.blk (((aA.refl aB w).alloc _).blk L.out id) (by omega));have D:=O d;clear o d)
  | ((with_reducible show WL (some 11) (.load 344 (.tmp 2)));refine wpList_load_mid rfl 344 (.tmp 2) rfl w.heap.size 0 rfl c _ (aD (by have:=z.out;rwa [aS _ _ (by rw[a];rfl)] at this)) underlying344 rfl (by rw[a];exact Eu) ?_)
  | ((with_reducible show WL none (.store 179 (.tmp 13) (.tmp 11)));refine aQ rfl 179 (.tmp 13) (.tmp 11) rfl p 3 c rfl rfl _ _ F.out (by rw[a,M];omega) (by rw[a];exact mD) y ?_;intro w3 q r;have C:=O q;have E:=O r;clear q r))
 refine⟨rfl,_,rfl,_,results_none rfl _ _ _,rfl,by rw[m.out],?_,?_⟩
 ·rw[←m.out];exact C.out
 ·exact(((aA.refl (fun k=>k=p) w).alloc _).tT D.out (fun i P e=>by omega)).tT E.out (fun i P e=>e)
def nH(w:World)(p:Nat):World:=w.alloc (.cells #[.pointer p] 308)
theorem oZ(w:World)(p:Nat):aA aB w (nH w p):=(aA.refl _ _).alloc _
def Ev(Q:World->Prop)(e:Ending)(w':World):Prop:=e=.returned (.tuple #[])/\Q w'
def IB(b a:Int)(Q:World->Prop)(e:Ending)(w':World):Prop:=e=.panicked (Iy b a)/\Q w'
theorem Ew(w:World)(base p:Nat)(v:Value)(l:List UInt8)(at_:Nat)(fa:Int)(h:Rdr w base p v l at_ 0 fa)(b:Nat)(a:Array Value)
 (o:∀w,Sem.run prog (callFunc b a) w=.ok (.enter b a) w) (Q:World->Prop) (g:Calls prog b a (nH w p) (Ev Q)) :
 Calls prog 240 #[.pointer p,.func (.func b) #[] a] w (Ev Q):=by
 have d:=h.keep (oZ w p) id (fun _ _=>id);obtain⟨c0,c1,c2,c3,c4,u⟩:=d.cells;have C:=O (wX _ _ _ _ _ _ _ _ d);have j:=O g;have q:∀(b:Fn) (first c:Array Value) (w:World),(Instr.makeFunc b first c).run prog w=.ok (.func b first c) w:=fun _ _ _ _=>rfl
 clear g h d;unfold nH at *
 go_enter_defers func240,ntmps240
 go_wp2_with fail;refine C.out.mono ?_;rintro e t ⟨rfl,rfl⟩;go_wp2_with fail;refine j.mono ?_;rintro e t ⟨rfl,i⟩;have m:=O i;clear i;go_wp2_with fail;refine leaves_cons (f:=253) (args:=#[.pointer (w.heap.size)]) (by simp) (by simp[go_sem]) ?_;refine(Iz _ _).mono ?_;rintro e y r ⟨rfl,rfl,rfl⟩;exact⟨_,results_none rfl _ _ _,rfl,m.out⟩
def Ex(w:World)(p base:Nat)(v:Value)(l:List UInt8)(at_:Nat)(b a:Int)(e:Ending)(w':World):Prop:=
 e=.returned (.tuple #[])/\Rdr w' base p v l at_ b a/\aA (fun k=>k=p) w w'
theorem Ke(w:World)(base p:Nat)(v:Value)(l:List UInt8)(at_:Nat)(fa:Int)(h:Rdr w base p v l at_ 0 fa)(b:Nat)(a:Array Value)
 (F:∀w,Sem.run prog (callFunc b a) w=.ok (.enter b a) w) (o m:Int) (u:Calls prog b a (nH w p) (IB o m (aA aB (nH w p)))) :
 Calls prog 240 #[.pointer p,.func (.func b) #[] a] w (Ex w p base v l at_ o m):=by
 have q:=h.keep (oZ w p) id (fun _ _=>id);obtain⟨c0,c1,c2,c3,c4,H⟩:=q.cells;have C:=O (wX _ _ _ _ _ _ _ _ q);have D:=O u;have z:=O q;have A:=O (show (nH w p).heap[w.heap.size]?=some (.cells #[.pointer p] 308 (0,0)) from heap_alloc_new _ _);have t:=O (oZ w p);have G:∀(b:Fn) (first g:Array Value) (w:World),(Instr.makeFunc b first g).run prog w=.ok (.func b first g) w:=fun _ _ _ _=>rfl
 clear u h q;unfold nH at *
 go_enter_defers func240,ntmps240
 go_wp2_with fail;refine C.out.mono ?_;rintro e y ⟨rfl,rfl⟩;go_wp2_with fail;refine D.mono ?_;rintro e y ⟨rfl,d⟩;have r:=O d;clear d;go_wp2_with fail;refine leaves_cons (f:=253) (args:=#[.pointer (w.heap.size)]) (by simp) (by simp[go_sem]) ?_;have c:=z.keep r.out id (fun _ _=>id);refine(IA _ p o m y (aC (r.blk A.out id) rfl) _ rfl c.blk).mono ?_;rintro e I j ⟨rfl,rfl,E,d⟩;have K:aA (fun k=>k=p) w j:=((t.trans r.out).any).trans d
 have i:Ex w p base v l at_ o m (.returned (.tuple #[])) j:=
  ⟨rfl,⟨by rw[E];rfl,d.owns c.own (fun k d e=>c.ne (by rw[d,e])),c.ne,c.le,c.fit,c.max⟩,K⟩
 exact⟨_,results_none rfl _ _ _,i⟩
open Go.RowKit
set_option maxRecDepth 100000
def QG(w:World)(Ao base p:Nat)(v:Value)(l bs:List UInt8)(at_ n:Nat)(fa:Int)(w':World):Prop:=
 ∃v',w'.heap[Ao]?=some (.cells #[v'] 68 (0,0))/\w'.ownsRow w.heap.size 5 1 v' n (bs.map vb)/\Rdr w' base p v l (at_+n) 0 fa/\aA (fun k=>k=p\/k=Ao) w w'
theorem OH(w:World)(base p:Nat)(v:Value)(l:List UInt8)(at_:Nat)(fa:Int)(h:Rdr w base p v l at_ 0 fa)(An Ar Ao:Nat)(n:Nat)(h1:1≤n)(hn:at_+n≤l.length)
 (t:w.heap[An]?=some (.cells #[.int .i64 n] 3 (0,0))) (u:w.heap[Ar]?=some (.cells #[.pointer p] 308 (0,0))) (i:w.heap[Ao]?=some (.cells #[.slice none 0 0] 68 (0,0))) :
 Calls prog 241 #[.pointer An,.pointer Ar,.pointer Ao] w (Ev (QG w Ao base p v l ((l.drop at_).take n) at_ n fa)):=by
 obtain⟨c0,c1,c2,c3,c4,cf⟩:=h.cells;have cn:w.cell? ⟨An,0,none⟩=some (.int .i64 n):=aC t rfl;have cr:w.cell? ⟨Ar,0,none⟩=some (.pointer p):=aC u rfl;have C:=O (GN w base p v l at_ 0 fa h n h1 hn);have hm:=h.max;have P:=O h;have E:=O t;have G:=O u;have d:=O i;have qc:Ao≠p:=by intro e;subst e;rw[h.blk] at i;cases i
 clear h t u i;have qb:decide ((n:Int)<0)=false:=by simp
 go_in;go_wp2_with fail;refine C.out.mono ?_;rintro e w1 ⟨bv,rfl,j,J⟩;have b:((l.drop at_).take n).length=n:=by simp;omega
 obtain⟨bs,y⟩:=zX9 ((l.drop at_).take n)
 rw[y] at j b ⊢;have N:=O y;clear y;obtain⟨a1,I,rfl,-,-⟩:=j.form;have o:Rd w1 1 (.slice a1 n I) bs.length (bs.map vb):=by rw[b];exact j
 have C2:=O (CB (.slice a1 n I) bs w1 o (by omega));have q:=O J;clear j o J c0 c1 c2 c3 c4 cf cn cr;go_wp2_with fail;refine C2.out.mono ?_;rintro e w2 ⟨v2,rfl,a,K⟩;rw[b] at a;have HL:=O b;clear b;obtain⟨R,r,rfl,-,-⟩:=(Rd.of_owns a).form;have A:=q.trans K;have c:=A.blk d.out id;have U:w2.cell? ⟨Ao,0,none⟩=some (.slice none 0 0):=aC c rfl;have V:=dE c 0;have h3:=P.keep A id (fun _ _=>id);obtain⟨w3,z⟩:=zX9 (w2.setCell ⟨Ao,0,none⟩ (.slice R n r))
 have L:∀g,(Value.slice R n r).ownBlock=some g->g≠Ao:=by
  intro g Y e;subst e;have:=aW a Y;have:=lt_of_block (q.blk d.out id);omega
 have D:aA (fun k=>k=Ao) w2 w3:=by rw[←z];exact(aA.refl (fun k=>k=Ao) w2).setCell (fun _=>rfl) _
 have M:∀g,v.ownBlock=some g->¬g=Ao:=by
  intro g Y e;subst e;obtain⟨cur,hc⟩:=aJ P.own Y;rw[d.out] at hc;cases hc
 have X:=h3.keep D (by omega) M;have m:w3.heap[Ao]?=some (.cells #[.slice R n r] 68 (0,0)):=by rw[←z,dQ c];rfl
 have f:=D.owns a (fun k Z=>L k Z);have cn:w3.cell? ⟨An,0,none⟩=some (.int .i64 n):=D.cell (A.cell (aC E.out rfl) id) (by intro e;subst e;have:=E.out;rw[d.out] at this;cases this);have cr:w3.cell? ⟨Ar,0,none⟩=some (.pointer p):=D.cell (A.cell (aC G.out rfl) id) (by intro e;subst e;have:=G.out;rw[d.out] at this;cases this);obtain⟨c0,c1,c2,c3,c4,cf⟩:=X.cells;have qa:=q.size;have H4:=O X;have H:=O f;have F:=O m;have HK:=O (show aA (fun k=>k=p\/k=Ao) w w3 from(A.any).trans (D.mono fun _ _ h=>.inr h));clear a K A c h3 D X f m L M;go_wp2_with fail;clear z U V;have e1:IntKind.i64.wrap ((at_:Int)+(n:Int))=(at_:Int)+(n:Int):=by rw[IntWalk.i64_in _ (by omega)]
 go_still_tail 8,(by kernel_rfl)
 clear e1;go_wp2_with fail
 go_end0
 have Q:aA (fun k=>k=p) w3 ((w3.setCell ⟨p,2,none⟩ (.int .i64 ((at_+n:Nat):Int))).drew):=((aA.refl (fun k=>k=p) w3).setCell (fun _=>rfl) _).drew;refine⟨rfl,_,Q.blk F.out (by omega),?_,((H4.setAt (at_+n) hn).keep (aA.refl aB _).drew id (fun _ _=>id)),HK.trans (Q.mono fun _ _ h=>.inl h)⟩;rw[N.out];refine bA (Q.owns H.out fun k Z e=>?_) qa;have:=aW H.out Z;have:=lt_of_block P.blk;omega
theorem Kf(w:World)(x y:Obj):((w.alloc x).alloc y).heap[w.heap.size]?=some x/\((w.alloc x).alloc y).heap[w.heap.size+1]?=some y:=by
 refine⟨?_,?_⟩
 ·rw[heap_alloc_old _ _ (by simp)];exact heap_alloc_new _ _
 ·have:=heap_alloc_new (w.alloc x) y
  rwa [World.size_alloc] at this
theorem Kg(w:World)(x y z:Obj):(((w.alloc x).alloc y).alloc z).heap[w.heap.size]?=some x/\(((w.alloc x).alloc y).alloc z).heap[w.heap.size+1]?=some y/\(((w.alloc x).alloc y).alloc z).heap[w.heap.size+2]?=some z:=by
 obtain⟨a,b⟩:=Kf w x y;refine⟨?_,?_,?_⟩
 ·rw[heap_alloc_old _ _ (lt_of_block a)];exact a
 ·rw[heap_alloc_old _ _ (lt_of_block b)];exact b
 ·have:=heap_alloc_new ((w.alloc x).alloc y) z
  rwa [World.size_alloc,World.size_alloc] at this
def OI(w:World)(base p:Nat)(v:Value)(l:List UInt8)(at_ n:Nat)(fa:Int)(e:Ending)(w':World):Prop:=
 ∃v',e=.returned v'/\w'.ownsRow w.heap.size 5 1 v' n (((l.drop at_).take n).map vb)/\Rdr w' base p v l (at_+n) 0 fa/\aA (fun k=>k=p) w w'
theorem GO(w:World)(base p:Nat)(v:Value)(l:List UInt8)(at_:Nat)(fa:Int)(h:Rdr w base p v l at_ 0 fa)(n:Nat)(G:1≤n)(I:at_+n≤l.length) :
 Calls prog 219 #[.pointer p,.int .i64 n] w (OI w base p v l at_ n fa):=by
 have H:∀(t:Fn) (first f:Array Value) (w:World),(Instr.makeFunc t first f).run prog w=.ok (.func t first f) w:=fun _ _ _ _=>rfl
 obtain⟨c,b⟩:=zX9 (((w.alloc (.cells #[.pointer p] 308)).alloc (.cells #[.int .i64 n] 3)).alloc (.cells #[.slice none 0 0] 68))
 have o:aA aB w c:=by rw[←b];exact(((aA.refl _ _).alloc _).alloc _).alloc _
 have j:w.heap.size+3=c.heap.size:=by rw[←b];simp
 obtain⟨b0,b1,q⟩:=Kg w (.cells #[.pointer p] 308) (.cells #[.int .i64 n] 3) (.cells #[.slice none 0 0] 68);rw[b] at b0 b1 q;have d:=oZ c p;have hR:=(h.keep o id (fun _ _=>id))
 have c1:=OH (nH c p) base p v l at_ fa (hR.keep d id (fun _ _=>id)) (w.heap.size+1) w.heap.size (w.heap.size+2) n G I (d.blk b1 id) (d.blk b0 id) (d.blk q id);have C:=O (Ew c base p v l at_ fa hR 241 #[.pointer (some ⟨w.heap.size+1,0,none⟩),.pointer (w.heap.size),.pointer (some ⟨w.heap.size+2,0,none⟩)] (fun _=>rfl) _ c1);have z:=lt_of_block h.blk;have E:c.cell? ⟨w.heap.size,0,none⟩=some (.pointer p):=aC b0 rfl;have r:=O (o.trans d);have J:=O h;have K:=O j;clear h o b0 b1 q hR c1 d j;go_in;go_wp2_with fail;refine C.out.mono ?_;rintro e w2 ⟨rfl,v',u,a,g,y⟩;clear b C;have M:=aC (i:=0) (v:=v') u rfl;obtain⟨L,F,rfl,-,-⟩:=(Rd.of_owns a).form;have A:=O a;have D:=O g;have m:=O y;clear u a g y;go_wp2;go_ret;refine⟨_,rfl,bA A.out r.size,D.out,r.trans' m.out (fun _ _ h=>h.elim) (fun i N e=>?_)⟩;rcases e with e|e
 ·exact e
 ·omega
open Go.RowKit
set_option maxRecDepth 100000
def beN(l:List UInt8):Nat:=l.foldl (fun a c=>a*256+c.toNat) 0
theorem uP(l:List UInt8)(c:UInt8):beN (l++[c])=beN l*256+c.toNat:=by simp[beN]
theorem GP:∀(l:List UInt8) (a:Nat),l.foldl (fun a c=>a*256+c.toNat) a<(a+1)*256 ^ l.length
 | [],a=>by simp
 | c::l,a=>by
   rw[List.foldl_cons,List.length_cons];have b:=GP l (a*256+c.toNat);have d:=c.toNat_lt;have e:(a*256+c.toNat+1)*256 ^ l.length≤(a+1)*256*256 ^ l.length:=Nat.mul_le_mul_right _ (by omega);rw[Nat.pow_succ,Nat.mul_comm (256 ^ l.length),←Nat.mul_assoc];omega
theorem Ey(l:List UInt8):beN l<256 ^ l.length:=by simpa [beN] using GP l 0
theorem GQ(x c:Nat)(e:x<281474976710656)(d:c<256):bits .or .i64 ((x:Int)*256) (c:Int)=((x*256+c:Nat):Int):=by
 rw[show ((x:Int)*256)=((x*256:Nat):Int) by simp]
 have a:x*256 ||| c=x*256+c:=by
  have:=Nat.shiftLeft_add_eq_or_of_lt (i:=8) (b:=c) (by omega) x;rw[Nat.shiftLeft_eq] at this;exact this.symm
 show IntKind.i64.wrap ((BitVec.ofInt 64 ((x*256:Nat):Int) ||| BitVec.ofInt 64 (c:Int)).toNat:Int)=_;rw[BitVec.toNat_or,show (BitVec.ofInt 64 ((x*256:Nat):Int)).toNat=x*256 by simp;omega,show (BitVec.ofInt 64 (c:Int)).toNat=c by simp;omega,a];rw[IntWalk.i64_in _ (by omega)]
theorem Ez(l:List UInt8)(h:l.length≤6):beN l<281474976710656:=by
 have a:=Ey l;have b:256 ^ l.length≤256 ^ 6:=Nat.pow_le_pow_right (by omega) h;have c:(256:Nat) ^ 6=281474976710656:=by decide
 omega
structure wY(w:World)(p An Ar Al Ah Ao:Nat)(size low high:Int):Prop where
 n:w.heap[An]?=some (.cells #[.int .i64 size] 3 (0,0))
 r:w.heap[Ar]?=some (.cells #[.pointer (some ⟨p,0,none⟩)] 308 (0,0))
 l:w.heap[Al]?=some (.cells #[.int .i64 low] 3 (0,0))
 h:w.heap[Ah]?=some (.cells #[.int .i64 high] 3 (0,0))
 o:w.heap[Ao]?=some (.cells #[.int .i64 0] 3 (0,0))
 ne:Ao≠p/\Ao≠An/\Ao≠Ar/\Ao≠Al/\Ao≠Ah
theorem wY.keep(b:wY w p An Ar Al Ah Ao size low high)(k:aA aB w w'):wY w' p An Ar Al Ah Ao size low high:=
 ⟨k.blk b.n id,k.blk b.r id,k.blk b.l id,k.blk b.h id,k.blk b.o id,b.ne⟩
theorem wY.cells(b:wY w p An Ar Al Ah Ao size low high) :
 w.cell? ⟨An,0,none⟩=some (.int .i64 size)/\w.cell? ⟨Ar,0,none⟩=some (.pointer p)/\w.cell? ⟨Al,0,none⟩=some (.int .i64 low)/\w.cell? ⟨Ah,0,none⟩=some (.int .i64 high) /\
 w.cell? ⟨Ao,0,none⟩=some (.int .i64 0)/\w.frozen? ⟨Ao,0,none⟩=false:=
 ⟨aC b.n rfl,aC b.r rfl,aC b.l rfl,aC b.h rfl,aC b.o rfl,dE b.o 0⟩
def IC(w:World)(Ao base p:Nat)(v:Value)(l:List UInt8)(x:Int)(at_:Nat)(fa:Int)(w':World):Prop:=
 w'.heap[Ao]?=some (.cells #[.int .i64 x] 3 (0,0))/\Rdr w' base p v l at_ 0 fa/\aA (fun k=>k=p\/k=Ao) w w'
theorem MC{a:World}(q:aA aB w a)(h:Rdr a base p v l at_ 0 fa)(b:wY a p An Ar Al Ah Ao size low high)
 (x:Int) (k:Nat) (r:at_+k≤l.length):IC w Ao base p v l x (at_+k) fa ((a.setCell ⟨Ao,0,none⟩ (.int .i64 x)).setCell ⟨p,2,none⟩ (.int .i64 ((at_:Int)+(k:Int)))).drew:=by
 have c:aA (fun i=>i=Ao) a (a.setCell ⟨Ao,0,none⟩ (.int .i64 x)):=(aA.refl (fun i=>i=Ao) a).setCell (fun _=>rfl) _
 have m:=h.keep c (by have:=b.ne.1;omega) (fun g o e=>by
  subst e;obtain⟨cur,j⟩:=aJ h.own o;rw[b.o] at j;cases j)
 have b1:(a.setCell ⟨Ao,0,none⟩ (.int .i64 x)).heap[Ao]?=some (.cells #[.int .i64 x] 3 (0,0)):=by rw[dQ b.o];rfl
 have f:=m.setAt (at_+k) r;rw[show (((at_+k:Nat)):Int)=(at_:Int)+(k:Int) by simp] at f;have d:aA (fun i=>i=p) (a.setCell ⟨Ao,0,none⟩ (.int .i64 x)) ((a.setCell ⟨Ao,0,none⟩ (.int .i64 x)).setCell ⟨p,2,none⟩ (.int .i64 ((at_:Int)+(k:Int)))).drew:=((aA.refl (fun i=>i=p) _).setCell (fun _=>rfl) _).drew;exact⟨d.blk b1 b.ne.1,f.keep (aA.refl aB _).drew id (fun _ _=>id),((q.any).tT c (fun _ _ e=>.inr e)).tT d (fun _ _ e=>.inl e)⟩
def yG(w:World)(Ao base p:Nat)(v:Value)(l:List UInt8)(x low high:Int)(at_ n:Nat)(fa:Int)(e:Ending)(w':World):Prop:=
 if low≤x/\x≤high then Ev (IC w Ao base p v l x (at_+n) fa) e w' else IB 5 at_ (aA aB w) e w'
theorem MD(w:World)(base p:Nat)(v:Value)(l:List UInt8)(at_:Nat)(fa:Int)(h:Rdr w base p v l at_ 0 fa)(An Ar Al Ah Ao:Nat)(n:Nat)(low high:Int)(h1:1≤n)(h7:n≤6)(Z:at_+n≤l.length)
 (J:wY w p An Ar Al Ah Ao n low high) (x:Nat) (r:beN ((l.drop at_).take n)=x) :
 Calls prog 243 #[.pointer An,.pointer Ar,.pointer Al,.pointer Ah,.pointer Ao] w
  (yG w Ao base p v l x low high at_ n fa):=by
 obtain⟨U,X,cl,R,V,z⟩:=J.cells;have C:=O (GN w base p v l at_ 0 fa h n h1 Z);have hm:=h.max;have HH:=O h;have HB:=O J;have HX:=O r;clear h J r;have qd:decide ((n:Int)<1)=false:=by simp;omega
 have qe:decide ((7:Int)<n)=false:=by simp;omega
 go_in;go_wp2_with fail;refine C.out.mono ?_;rintro e w1 ⟨bv,rfl,q,f⟩;have d:((l.drop at_).take n).length=n:=by simp;omega
 obtain⟨bs,j⟩:=zX9 ((l.drop at_).take n)
 rw[j] at q d;have H:=O (show beN bs=x by rw[←j];exact HX.out);have qa:=O j;clear j
 obtain⟨g,o,cp,qb,rfl,b⟩:∃g o cp,n≤cp/\bv=.slice (some ⟨g,o,none⟩) n cp/\∀k,(M:k<bs.length)->w1.cell? ⟨g,o+k,none⟩=some (.int .u8 (bs[k].toNat:Int)):=by
  obtain⟨h0,a,I,rfl,h2,h3,h4,h5⟩:=q;obtain⟨g,o,rfl,F⟩:=h5 (by simp[d];omega);exact⟨g,o,I,h2,rfl,fun k M=>F k _ (by simp[M,vb])⟩
 have HC:=O b;have G:=O d;have t:=O (HB.keep f);have u:=O (HH.keep f id (fun _ _=>id));have m:=O f;clear q b d f U X cl R V z;go_wp2_with fail
 go_loop [5,24] (fun x i=>∃k:Nat,k≤n/\i=.int .i64 k/\x=.int .i64 (beN (bs.take k):Int)) (fun _ i=>n-(intOf i).toNat)
 case atStart=>exact⟨0,by omega,rfl,rfl⟩
 case round =>
  obtain⟨k,M,rfl,rfl⟩:=hrel
  by_cases N:k<n
  ·have D:k<bs.length:=by rw[G.out];exact N
   have c0:=HC.out k D;have r:=Ez (bs.take k) (by simp;omega);have E:=uP (bs.take k) bs[k];have A:=bs[k].toNat_lt;rw[←List.take_succ_eq_append_getElem D] at E;obtain⟨c,F⟩:=zX9 (bs[k].toNat)
   rw[F] at c0 E A;obtain⟨y,Y⟩:=zX9 (beN (bs.take k))
   rw[Y] at E r ⊢;have HS:=O E;clear E Y F;have qc:(0:Int)≤(k:Int):=by omega
   have f:(k:Int)<(n:Int):=by omega
   have qf:=GQ y c r A;go_wp2
   go_round
   case rel=>exact⟨k+1,by omega,by go_num,by rw[HS.out];simp⟩
   case measure=>simp[intOf];omega
  ·obtain rfl:k=n:=by omega
   have r:=Ez bs (by rw[G.out];exact h7);rw[List.take_of_length_le (by rw[G.out];exact Nat.le_refl _)];rw[H.out] at r ⊢;obtain⟨U,X,cl,R,V,z⟩:=t.cells;obtain⟨c0,c1,c2,c3,c4,cf⟩:=u.cells;have e1:IntKind.i64.wrap ((at_:Int)+(k:Int))=(at_:Int)+(k:Int):=by rw[IntWalk.i64_in _ (by omega)]
   by_cases P:low≤x
   ·have Q:decide ((x:Int)<low)=false:=by simpa using P
    by_cases K:x≤high
    ·have L:decide (high<(x:Int))=false:=by simpa using K
     have HQ:=O (MC m.out u.out t.out x k Z);go_wp2_with fail
     go_region
     all_goals go_wp2_with fail
     all_goals
      go_end0
      unfold yG;rw[if_pos ⟨P,K⟩];exact⟨rfl,HQ.out⟩
    ·have L:decide (high<(x:Int))=true:=by simpa using K
     go_wp2_with fail;refine⟨rfl,?_⟩;unfold yG;rw[if_neg (by omega)];exact⟨rfl,m.out⟩
   ·have Q:decide ((x:Int)<low)=true:=by simpa using P
    go_wp2_with fail;refine⟨rfl,?_⟩;unfold yG;rw[if_neg (by omega)];exact⟨rfl,m.out⟩
theorem PU(w:World)(x y z u v:Obj):(((((w.alloc x).alloc y).alloc z).alloc u).alloc v).heap[w.heap.size]?=some x/\(((((w.alloc x).alloc y).alloc z).alloc u).alloc v).heap[w.heap.size+1]?=some y /\
 (((((w.alloc x).alloc y).alloc z).alloc u).alloc v).heap[w.heap.size+2]?=some z/\(((((w.alloc x).alloc y).alloc z).alloc u).alloc v).heap[w.heap.size+3]?=some u/\(((((w.alloc x).alloc y).alloc z).alloc u).alloc v).heap[w.heap.size+4]?=some v:=by
 obtain⟨d,f,g⟩:=Kg w x y z;obtain⟨a,b⟩:=Kf (((w.alloc x).alloc y).alloc z) u v;have e:(((w.alloc x).alloc y).alloc z).heap.size=w.heap.size+3:=by simp
 have old:∀{k:Nat}{o:Obj},(((w.alloc x).alloc y).alloc z).heap[k]?=some o->(((((w.alloc x).alloc y).alloc z).alloc u).alloc v).heap[k]?=some o:=by
  intro k o h;have c:=lt_of_block h;rw[heap_alloc_old _ _ (by simp at c ⊢;omega),heap_alloc_old _ _ c];exact h
 rw[e] at a b;exact⟨old d,old f,old g,a,b⟩
def ME(w:World)(base p:Nat)(v:Value)(l:List UInt8)(x low high:Int)(at_ n:Nat)(fa:Int)(e:Ending)(w':World):Prop:=
 aA (fun k=>k=p) w w'/\if low≤x/\x≤high then e=.returned (.int .i64 x)/\Rdr w' base p v l (at_+n) 0 fa else e=.returned (.int .i64 0)/\Rdr w' base p v l at_ 5 at_
def sM(w:World)(p:Nat)(n low high:Int):World:=
 ((((w.alloc (.cells #[.pointer p] 308)).alloc (.cells #[.int .i64 n] 3)).alloc (.cells #[.int .i64 low] 3)).alloc (.cells #[.int .i64 high] 3)).alloc (.cells #[.int .i64 0] 3)
theorem Kh(w:World)(p:Nat)(n low high:Int):aA aB w (sM w p n low high):=(((((aA.refl _ _).alloc _).alloc _).alloc _).alloc _).alloc _
theorem PV(w:World)(p:Nat)(n low high:Int)(c:p<w.heap.size):wY (sM w p n low high) p (w.heap.size+1) w.heap.size (w.heap.size+2) (w.heap.size+3) (w.heap.size+4) n low high:=by
 obtain⟨b0,b1,a,b3,b⟩:=PU w (.cells #[.pointer p] 308) (.cells #[.int .i64 n] 3) (.cells #[.int .i64 low] 3) (.cells #[.int .i64 high] 3) (.cells #[.int .i64 0] 3);exact⟨b1,b0,a,b3,b,by omega,by omega,by omega,by omega,by omega⟩
theorem pA(w:World)(base p:Nat)(v:Value)(l:List UInt8)(at_:Nat)(fa:Int)(h:Rdr w base p v l at_ 0 fa)(n:Nat)(low high:Int)(D:1≤n)(h6:n≤6)(G:at_+n≤l.length)(x:Nat)(r:beN ((l.drop at_).take n)=x) :
 Calls prog 220 #[.pointer p,.int .i64 n,.int .i64 low,.int .i64 high] w (ME w base p v l x low high at_ n fa):=by
 have F:∀(y:Fn) (first j:Array Value) (w:World),(Instr.makeFunc y first j).run prog w=.ok (.func y first j) w:=fun _ _ _ _=>rfl
 have o:=lt_of_block h.blk;have d:=PV w p n low high o;have g:=Kh w p n low high;have hR:=(h.keep g id (fun _ _=>id))
 have m:=oZ (sM w p n low high) p;have c1:=MD (nH (sM w p n low high) p) base p v l at_ fa (hR.keep m id (fun _ _=>id)) _ _ _ _ _ n low high D h6 G (d.keep m) x r;have H:=O h;have I:=O r
 by_cases b:low≤(x:Int)/\(x:Int)≤high
 ·have c2:Calls prog 243 #[.pointer (some ⟨w.heap.size+1,0,none⟩),.pointer (w.heap.size),.pointer (some ⟨w.heap.size+2,0,none⟩),.pointer (some ⟨w.heap.size+3,0,none⟩),.pointer (some ⟨w.heap.size+4,0,none⟩)]
   (nH (sM w p n low high) p) (Ev (IC (nH (sM w p n low high) p) (w.heap.size+4) base p v l x (at_+n) fa)):=c1.mono fun e w' q=>by unfold yG at q;rwa [if_pos b] at q
  have C:=O (Ew (sM w p n low high) base p v l at_ fa hR 243 _ (fun _=>rfl) _ c2);have t:=O (g.trans m);clear h r d g hR m c1 c2;go_in;go_wp2_with fail;refine C.out.mono ?_;rintro e w2 ⟨rfl,d,a,f⟩;clear C;have A:=aC (i:=0) (v:=.int .i64 x) d rfl;have u:=O a;have c:=O f;clear d a f;go_wp2;go_ret;refine⟨t.trans' c.out (fun _ _ h=>h.elim) (fun i E e=>?_),?_⟩
  ·rcases e with e|e
   ·exact e
   ·omega
  ·rw[if_pos b];exact⟨rfl,u.out⟩
 ·have c2:Calls prog 243 #[.pointer (some ⟨w.heap.size+1,0,none⟩),.pointer (w.heap.size),.pointer (some ⟨w.heap.size+2,0,none⟩),.pointer (some ⟨w.heap.size+3,0,none⟩),.pointer (some ⟨w.heap.size+4,0,none⟩)]
   (nH (sM w p n low high) p) (IB 5 at_ (aA aB (nH (sM w p n low high) p))):=c1.mono fun e w' q=>by unfold yG at q;rwa [if_neg b] at q
  have C:=O (Ke (sM w p n low high) base p v l at_ fa hR 243 _ (fun _=>rfl) _ _ c2);have z:=O d;have t:=O g;clear h r d g hR m c1 c2;go_in;go_wp2_with fail;refine C.out.mono ?_;rintro e w2 ⟨rfl,a,f⟩;clear C;have A:=aC (i:=0) (v:=.int .i64 0) (f.blk z.o (by omega)) rfl;have u:=O a;have c:=O f;clear a f;go_wp2;go_ret;refine⟨t.trans' c.out (fun _ _ h=>h.elim) (fun i E e=>e),?_⟩;rw[if_neg b];exact⟨rfl,u.out⟩
theorem Ki(w:World):(zeroValue 179).run prog w=.ok (.agg #[.int .i64 0,.int .i64 0]) w:=by kernel_rfl
theorem Kj(w:World)(base p:Nat)(v:Value)(l:List UInt8)(at_:Nat)(fe fa:Int)(h:Rdr w base p v l at_ fe fa) :
 Calls prog 221 #[.pointer p] w (fun e w'=>e=.returned (.agg #[.int .i64 fe,.int .i64 fa])/\aA aB w w'):=by
 have K:aA aB w (w.alloc (.cells #[.int .i64 0,.int .i64 0] 179)):=(aA.refl _ _).alloc _;have y:=h.keep K id (fun _ _=>id);have C:=O (wX _ base p v l at_ fe fa y);have D:=O y;have E:=O K;have A:=lt_of_block h.blk;clear h y K;obtain⟨c,a⟩:∃c:List Value,c=[.int .i64 fe,.int .i64 fa]:=⟨_,rfl⟩
 have b:c.length=2:=by rw[a];rfl
 have z:∀u∈c,u.oneCell'=true:=by rw[a];simp[Value.oneCell']
 have m:(w.alloc (.cells #[.int .i64 0,.int .i64 0] 179)).rangeAt p 3 c:=by
  obtain⟨-,-,-,c3,c4,-⟩:=D.cells;intro j u d;rw[a] at d
  match j,d with
  | 0,d=>cases d;exact c3
  | 1,d=>cases d;exact c4
 have t:=O a;have r:=O m;clear a m;go_in
 go_wp2_with (first
  | (refine aY rfl 179 rfl _ Ki #[.int .i64 0,.int .i64 0] rfl ?_))
 refine C.out.mono ?_;rintro e G ⟨rfl,rfl⟩
 go_wp2_with (first
  | ((with_reducible show WL (some 9) (.load 179 (.tmp 8)));refine wpList_load_mid rfl 179 (.tmp 8) rfl p 3 rfl c _ r.out underlying179 rfl (by rw[b];exact mD) ?_)
  | ((with_reducible show WL none (.store 179 (.tmp 2) (.tmp 9)));refine aQ rfl 179 (.tmp 2) (.tmp 9) rfl w.heap.size 0 c rfl rfl _ _ (heap_alloc_new _ _) (by rw[b];decide) (by rw[b];exact mD) z ?_;intro w2 f g;have o:=O f;have q:=O g;clear f g))
 refine bodyPost_ret (results_cell_row rfl _ _ w.heap.size _ _ _ _ rfl o.out underlying179 rfl (by rw[gF];exact mD)) rfl ⟨?_,?_⟩
 ·rw[aS _ _ (by rw[b];rfl),t.out]
 ·exact E.tT q.out (fun i F e=>by omega)
end
end Go.Proofs.YtoeinblfcbpcmaaGreat
