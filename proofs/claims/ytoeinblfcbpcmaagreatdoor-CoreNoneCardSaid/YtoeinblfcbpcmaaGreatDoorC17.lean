import Derived.Test.YtoeinblfcbpcmaaGreatDoorC5
import Derived.Test.YtoeinblfcbpcmaaGreatDoorC12
import Derived.Test.YtoeinblfcbpcmaaGreatDoorC16
import Derived.Defers
import Derived.Recover
namespace Go.Proofs.YtoeinblfcbpcmaaGreatDoor
open Tryz
set_option maxHeartbeats 0
set_option maxRecDepth 100000
set_option linter.unusedVariables false
section
open Go.RowKit
attribute [local go_sem] Oper.semAt_some
def P3:Value->Nat
 | .slice _ n _=>n
 | _=>0
def iE(w:World)(base:Nat)(bs:List UInt8)(xs:List Nat)(ps:List Value):Prop:=
 ps.length=xs.length/\∀(i:Nat) (p:Value),ps[i]?=some p->∃x,xs[i]?=some x/\w.ownsRow base 5 1 p 64 ((kD bs (x % many bs.length)).map vb)
variable{S:Nat->Prop}{w w' w3 W Wd Wp Wr w2:World}{base B p b3 k b6 n at_ An Ar Al Ah Ao:Nat}{bs l:List UInt8}{xs pre:List Nat}{ps:List Value}{v x v':Value}{T:TypeId}{s:St}{fe fa size low high:Int}
theorem iE.keep(h:iE w base bs xs ps)(e:aA S w w')(b:∀k cur,w.heap[k]?=some (.cells cur 5 (0,0))->¬S k):iE w' base bs xs ps:=
 ⟨h.1,fun i p f=>by
  obtain⟨x,g,a⟩:=h.2 i p f;exact⟨x,g,e.owns a fun k c=>by obtain⟨cur,d⟩:=aH a c;exact b k cur d⟩⟩
theorem iE.snoc(h:iE w base bs xs ps)(x:Nat)(p:Value)(d:w.ownsRow base 5 1 p 64 ((kD bs (x % many bs.length)).map vb)):iE w base bs (xs++[x]) (ps++[p]):=by
 refine⟨by simp[h.1],fun i q b=>?_⟩;rcases Nat.lt_trichotomy i ps.length with a|a|a
 ·rw[List.getElem?_append_left a] at b
  obtain⟨y,e,c⟩:=h.2 i q b;exact⟨y,by rw[List.getElem?_append_left (by rw[←h.1];exact a)];exact e,c⟩
 ·subst a
  have:q=p:=by simpa using b.symm
  subst this;exact⟨x,by rw[h.1];simp,d⟩
 ·rw[List.getElem?_eq_none (by simp;omega)] at b;cases b
theorem P4:(prog.info? 22).map (fun i=>(i.zero,i.size,i.bytes))=some (some (.slice none 0 0),1,24):=by kernel_rfl
def FI(B:Nat)(w3:World)(bs:List UInt8)(pre:List Nat)(W:World):Prop:=
 (∃v ps,W.heap[B]?=some (.cells #[v] 173 (0,0))/\W.ownsRow w3.heap.size 22 1 v pre.length ps/\iE W w3.heap.size bs pre ps)/\aA (fun k=>k=B) w3 W
theorem FI.own(y:B<w3.heap.size)(bs:List UInt8):OwnFrom w3.heap.size (FI B w3 bs):=by
 rintro pre W u row ⟨⟨v,ps,f,g,m⟩,r⟩ h j;have d:=aA.of_grown h
 have no:∀k cur e,W.heap[k]?=some (.cells cur e (0,0))->¬row=some k:=fun k cur e a b=>by
  obtain⟨_,o,i,c⟩:=j k b;rw[a] at i;cases i
  cases c
 refine⟨⟨v,ps,d.blk f (no _ _ _ f),d.owns g (fun k q=>by obtain⟨cur,a⟩:=aH g q;exact no _ _ _ a),m.keep d (fun k cur a=>no _ _ _ a)⟩,r.grown h fun k b t=>?_⟩;have:=(j k b).1;omega
theorem EE{bs:List UInt8}{p:Value}(g:B+2<w3.heap.size)
 (d:W.heap[B]?=some (.cells #[v] 173 (0,0))) (e:W.ownsRow w3.heap.size 22 1 v pre.length ps)
 (a:aA aB W Wd) (b:aA (fun k=>(Value.slice none 0 0).ownBlock=some k) Wd Wp) (c:aA (fun k=>v.ownBlock=some k) (Wp.alloc (.cells #[p] 22)) Wr) :
 Wr.heap[B]?=some (.cells #[v] 173 (0,0)):=by
 have f:aA aB W Wp:=a.tT b (fun i _ h=>by cases h);refine c.blk ((f.alloc _).blk d id) fun h=>?_
 have:=(e.lt B h).1;omega
theorem MN{x:Nat}{p:Value}(C:B+2<w3.heap.size)
 (q:W.heap[B]?=some (.cells #[v] 173 (0,0))) (f:W.ownsRow w3.heap.size 22 1 v pre.length ps) (A:iE W w3.heap.size bs pre ps) (m:aA (fun k=>k=B) w3 W)
 (c:aA aB W Wd) (E:Wp.ownsRow w3.heap.size 5 1 p (0+64) ([]++(kD bs (x % many bs.length)).map vb)) (d:aA (fun k=>(Value.slice none 0 0).ownBlock=some k) Wd Wp)
 (t:Wr.ownsRow w3.heap.size 22 1 v' (pre.length+1) (ps++[p])) (a:aA (fun k=>v.ownBlock=some k) (Wp.alloc (.cells #[p] 22)) Wr) :
 KeepsOthers W (Wr.setCell ⟨B,0,none⟩ v')/\Ck (B+1) (B+1+1) W (Wr.setCell ⟨B,0,none⟩ v')/\FI B w3 bs (pre++[x]) (Wr.setCell ⟨B,0,none⟩ v'):=by
 have r:=EE (bs:=bs) C q f c d a;have u:aA aB W Wp:=c.tT d (fun i _ h=>by cases h);have y:aA aB W (Wp.alloc (.cells #[p] 22)):=u.alloc _
 have j:aA (fun k=>k=B\/v.ownBlock=some k) W (Wr.setCell ⟨B,0,none⟩ v'):=
  (y.trans' a (fun _ _ h=>h.elim) (fun i _ h=>.inr h)).setCell (fun _=>.inl rfl) _
 have z:aA (fun k=>k=B) Wr (Wr.setCell ⟨B,0,none⟩ v'):=aA.setCell (S:=fun k=>k=B) (p:=⟨B,0,none⟩) (aA.refl _ _) (fun _=>rfl) _;have far:∀k,v.ownBlock=some k->w3.heap.size≤k:=fun k h=>(f.lt k h).1
 refine⟨cW j ?_,⟨j.block _ (by have:=m.size;omega) ?_,j.block _ (by have:=m.size;omega) ?_⟩,⟨v',ps++[p],?_,?_,?_⟩,m.trans' j (fun _ _ h=>h) ?_⟩
 ·rintro k o g (rfl|h)
  ·rw[q] at g;cases g;rfl
  ·obtain⟨cur,b⟩:=aH f h
   rw[b] at g;cases g;rfl
 ·rintro (h|h)
  ·omega
  ·have:=far _ h;omega
 ·rintro (h|h)
  ·omega
  ·have:=far _ h;omega
 ·exact cH r 0 v'
 ·rw[List.length_append]
  exact z.owns t fun k D e=>by have:=(t.lt k D).1;omega
 ·refine iE.keep ?_ z (fun k cur b e=>by subst e;rw[r] at b;cases b)
  refine iE.keep (w:=Wp.alloc (.cells #[p] 22)) ?_ a (fun k cur b e=>by obtain⟨c2,h⟩:=aH (y.owns f fun _ _=>id) e;rw[b] at h;cases h);refine iE.keep (w:=Wp) (S:=aB) ?_ ((aA.refl _ _).alloc _) (fun _ _ _=>id);exact(A.keep u fun _ _ _=>id).snoc x p (by simpa using E)
 ·rintro i F (h|h)
  ·exact h
  ·have:=far _ h;omega
def EF(w:World)(bs:List UInt8)(e:Ending)(w':World):Prop:=
 ∃v ps,e=.returned v/\w'.ownsRow w.heap.size 22 1 v (many bs.length) ps/\iE w' w.heap.size bs (List.range (many bs.length)) ps/\aA aB w w'
theorem Is(z:Value)(bs:List UInt8)(w:World)(I:Rd w 1 z bs.length (bs.map vb))(M:bs.length≤140737488351232) :
 Calls prog 150 #[z] w (Oy w bs):=by
 obtain⟨y,a,m,rfl,o,q,g,r⟩:=I;cases a with
 | none =>
   have G:=g rfl;subst G;have u:bs=[]:=List.eq_nil_of_length_eq_zero (by omega);subst u;clear o q g r y;have H:=fun(w:World) (a:Option Addr) (n c:Nat)=>Lib.run_eql_slice_nil (P:=prog) w 22 5 a n c 0 0 underlying22
   go_in;go_wp2;go_ret;exact⟨_,rfl,World.ownsRow_nil _ _ _ _,aA.refl _ _⟩
 | some F =>
   have K:aA aB w (w.alloc (.cells #[] 5)):=(aA.refl _ _).alloc _;have D:=O ((show Rd w 1 (.slice (some F) bs.length m) bs.length (bs.map vb) from⟨y,_,_,rfl,o,q,g,r⟩).keep K fun _ _=>id);have A:=O K;have f:0+bs.length≤maxLen:=by unfold maxLen;omega
   have E:=O f;clear o q g r y K f;have H:=fun(w:World) (a:Option Addr) (n c:Nat)=>Lib.run_eql_slice_nil (P:=prog) w 22 5 a n c 0 0 underlying22
   go_in
   go_wp2_with (at_builtin;refine aK rfl (.tmp 5) (.tmp 6) 22 rfl w.heap.size 5 _ 1 1 underlying22 eW rfl (by omega) _ 0 [] rfl (World.ownsRow_made w #[] 0 (Nat.le_refl _) (by unfold maxLen;omega) (by simp)) _ bs.length (bs.map vb) rfl D.out (bA _) E.out (by omega) (by simp) ?_;intro v' w2 b d e t;obtain⟨J,c3,rfl,-,-⟩:=(Rd.of_owns b).form;have C:=O b;have j:=O d;clear b d e t)
   go_ret;refine⟨_,rfl,by simpa using C.out,A.tT j.out (fun i N h=>?_)⟩;have L:w.heap.size=i:=Option.some.inj h;omega
theorem AF{wr:World}{b:UInt8}(g:x=vb b){N:Nat}(f:N=l.length)(c:wr.ownsRow w.heap.size 5 1 v N (l.map vb))(e:aA aB w wr)
 (a:w2.ownsRow w.heap.size 5 1 v' (N+1) (l.map vb++[x]))
 (d:aA (fun i=>v.ownBlock=some i) (wr.alloc (.cells #[x] 5)) w2) :
 Hid (w2.ownsRow w.heap.size 5 1 v' (N+1) ((l++[b]).map vb))/\Hid (aA aB w w2):=by
 subst g;refine⟨O (by simpa using a),O ?_⟩;refine(e.alloc _).tT d (fun i j h=>?_);have:=(c.lt i h).1;omega
theorem Kk{D:Nat}{o g:Obj}(b:o.isCells=false)(q:W.heap[D]?=some o)(d:W.ownsRow w3.heap.size 22 1 v (many bs.length) ps)(m:iE W w3.heap.size bs (List.range (many bs.length)) ps)
 (t:aA aB w W) (f:w.heap.size≤w3.heap.size/\w3.heap.size≤D):EF w bs (.returned v) (W.putObj D g):=by
 have c:=aA.of_grown (grownBy_putObj' W D g)
 have no:∀k cur e,W.heap[k]?=some (.cells cur e (0,0))->¬some D=some k:=fun k cur e a j=>by
  cases j
  rw[q] at a;cases a
  cases b
 refine⟨v,ps,rfl,?_,?_,t.tT c (fun i z e=>by cases e;omega)⟩
 ·exact aQ (c.owns d fun k r=>by obtain⟨cur,a⟩:=aH d r;exact no _ _ _ a) f.1
 ·have:=m.keep c fun k cur a=>no _ _ _ a
  exact⟨this.1,fun i p u=>by obtain⟨x,y,b⟩:=this.2 i p u;exact⟨x,y,aQ b f.1⟩⟩
theorem MO(bv:Value)(bs:List UInt8)(w:World)(hr:Rd w 1 bv bs.length (bs.map vb))(hb:bs.length≤140737488350208) :
 Calls prog 103 #[bv] w (EF w bs):=by
 have C:=O (Is bv bs w hr (by omega));obtain⟨a,c,rfl,-,-⟩:=hr.form;clear hr;refine callsIn_wide.1 (callsIn_of_wp_marks (F:=Fence.wide) (n:=3) func103 rfl trivial (wpIn_wide.2 ?_));simp only[ntmps103,List.size_toArray,List.length_cons,List.length_nil,Nat.reduceAdd,Nat.reduceSub,Array.replicate_succ,Array.replicate_zero,List.push_toArray,List.append_toArray,List.nil_append,List.cons_append];go_wp2_with fail;refine C.out.mono ?_;rintro e w1 ⟨v,rfl,qe,H⟩;have qo:=O (show (Value.int .u8 128)=vb 128 from rfl);have H0:=O (show (Value.int .u8 0)=vb 0 from rfl);have j:bs.length+1≤maxLen:=by unfold maxLen;omega
 have q:=O j;clear j;have r:=O qe;have m:=O H;clear qe H;have z:∀k:Int,∀u∈[Value.int .u8 k],u.oneCell'=true:=by simp[Value.oneCell']
 have V:=O z;clear z;have E:w.heap.size≤(w1.alloc (.cells #[.int .u8 128] 5)).heap.size:=by have:=m.size;simp;omega
 have HS:=O E;clear E
 go_wp2_with (at_builtin;refine aK rfl (.tmp 9) (.tmp 10) 22 rfl w.heap.size 5 _ 1 1 underlying22 eW rfl (by omega) _ bs.length _ rfl (r.alloc _) _ 1 _ rfl (wL _ _ _) (V _) q.out (by omega) HS.out ?_;intro v' w2 d y f t;have R:=AF qo.out rfl r.out m.out d y;obtain⟨a3,c3,rfl,-,-⟩:=(Rd.of_owns d).form;clear d y f t r m HS)
 obtain⟨r,m⟩:=R
 go_loopw [3] (fun v wr=>∃k N:Nat,k≤nW bs.length/\N=bs.length+1+k/\(∃a c,v=.slice a N c)/\Hid (wr.ownsRow w.heap.size 5 1 v N ((bs++[128]++List.replicate k 0).map vb))/\Hid (aA aB w wr)) (fun v _=>bs.length+1+nW bs.length-P3 v)
 case atStart=>exact⟨0,_,by omega,rfl,⟨_,_,rfl⟩,by simpa using r,m⟩
 case round =>
  clear r m q;obtain⟨k,N,H,hN,⟨a4,c4,rfl⟩,r,m⟩:=hrel;have hp:=Cm bs.length;have zn:N≤140737488350400:=by omega
  have U:=O hN
  by_cases P:k<nW bs.length
  ·have qd:((N:Int) % 64)≠56:=by
    have:=CT bs.length k H;rw[←hN] at this;omega
   have E:w.heap.size≤(wr.alloc (.cells #[.int .u8 0] 5)).heap.size:=by have:=m.size;simp;omega
   have HS:=O E;clear E;have j:N+1≤maxLen:=by unfold maxLen;omega
   have q:=O j;clear j;have HN:=O (show N=(bs++[128]++List.replicate k 0).length by simp[hN];omega);clear hN
   go_wp2_with (at_builtin;refine aK rfl (.tmp 16) (.tmp 17) 22 rfl w.heap.size 5 _ 1 1 underlying22 eW rfl (by omega) _ N _ rfl (r.alloc _) _ 1 _ rfl (wL _ _ _) (V _) q.out (by omega) HS.out ?_;intro v' w2 d y f t;have R:=AF H0.out HN.out r.out m.out d y;obtain⟨a5,c5,rfl,-,-⟩:=(Rd.of_owns d).form;clear d y f t r m HS HN)
   go_roundw
   case rel=>exact⟨k+1,N+1,by omega,by rw[U.out];omega,⟨_,_,rfl⟩,by rw[List.replicate_succ',←List.append_assoc];exact R.1,R.2⟩
   case measure=>have:=U.out;simp[P3];omega
  ·obtain rfl:k=nW bs.length:=by omega
   have qd:((N:Int) % 64)=56:=by
    have:=CT bs.length _ H;rw[←hN] at this;omega
   clear hN;go_wp2_with fail;obtain⟨L,hL⟩:∃L,L=bs++[128]++List.replicate (nW bs.length) 0:=⟨_,rfl⟩
   rw[←hL] at r;have qu:N=L.length:=by rw[U.out,hL];simp;omega
   obtain⟨M,hM⟩:∃M:Nat,M=8*bs.length:=⟨_,rfl⟩
   have qr:(bs.length:Int)*8=(M:Int):=by omega
   rw[qr];have zm:M<2251799813685248:=by omega
   have HL:=O hL;have HM:=O hM;have qp:=O qu;clear hL hM qr qu P H qd;obtain⟨wo,rfl⟩:∃wo:World,wo=wr:=⟨_,rfl⟩
   go_loopw [3,23] (fun v i wr=>∃k G:Nat,k≤8/\G=N+k/\i=.int .i64 k/\(∃a c,v=.slice a G c)/\Hid (wr.ownsRow w.heap.size 5 1 v G ((L++(List.range k).map (jH M 8)).map vb))/\Hid (aA aB w wr)) (fun _ i _=>8-(intOf i).toNat)
   case atStart=>exact⟨0,N,by omega,rfl,rfl,⟨_,_,rfl⟩,by simpa using r,m⟩
   case round =>
    clear r m;obtain⟨k,G,H,qt,rfl,⟨a5,c5,rfl⟩,r,m⟩:=hrel;have zj:G≤140737488350500:=by omega
    have qa:=O qt;clear qt
    by_cases P:k<8
    ·have j:G+1≤maxLen:=by unfold maxLen;omega
     have q:=O j;clear j;have HV:=O (show (Value.int .u8 ((M:Int) / 2 ^ (56-8*k) % 256))=vb (jH M 8 k) by rw[QC,uS,show 8*(8-k-1)=56-8*k by omega]);have HN:=O (show G=(L++(List.range k).map (jH M 8)).length by rw[qa.out,qp.out];simp);have E:w.heap.size≤(wr.alloc (.cells #[.int .u8 ((M:Int) / 2 ^ (56-8*k) % 256)] 5)).heap.size:=by have:=m.size;simp;omega
     have HS:=O E;clear E
     go_wp2_with (at_builtin;refine aK rfl (.tmp 26) (.tmp 33) 22 rfl w.heap.size 5 _ 1 1 underlying22 eW rfl (by omega) _ G _ rfl (r.alloc _) _ 1 _ rfl (wL _ _ _) (V _) q.out (by omega) HS.out ?_;intro v' w2 d y f t;have R:=AF HV.out HN.out r.out m.out d y;obtain⟨a6,c6,rfl,-,-⟩:=(Rd.of_owns d).form;clear d y f t r m HS HN HV)
     go_roundw
     case rel=>exact⟨k+1,G+1,by omega,by rw[qa.out];omega,by go_num,⟨_,_,rfl⟩,by rw[tJ,←List.append_assoc];exact R.1,R.2⟩
     case measure=>simp[intOf];omega
    ·obtain rfl:k=8:=by omega
     have HF:Hid (wr.ownsRow w.heap.size 5 1 (.slice a5 G c5) G ((tM bs).map vb)):=by
      refine O ?_;have:=r.out;rw[HL.out,HM.out] at this;exact this
     have qg:=O (show G=64*many bs.length by rw[←tL,qa.out,U.out]);clear r HL HM qa qp U P H;go_wp2_with fail;refine(Kc _ _ ⟨_,_,_,rfl⟩).mono ?_;rintro e w3 ⟨rfl,qm⟩;obtain⟨w4,qn⟩:=zX9 (wr.alloc (.cells #[.slice none 0 0] 173))
     rw[qn] at qm;have J:=O qm;have qc:=O qn;clear qm qn;go_wp2_with fail;have Y:w4.heap.size=wr.heap.size+1:=by rw[←qc.out];simp
     have zl:w3.heap.size=wr.heap.size+3:=by rw[J.out];simp[Y]
     obtain⟨g,X,cur,hv,zo,qy,zg,zh,zp,zi⟩:∃g X cur,Value.slice a5 G c5=.slice (some ⟨g,0,none⟩) G X/\w.heap.size≤g/\wr.heap[g]?=some (.cells cur 5 (0,0))/\G≤X/\X≤maxLen/\cur.size=X*1/\cur.toList.take (G*1)=(tM bs).map vb:=by
      rcases HF.2 with⟨h,h0⟩|h
      ·have:=EA bs.length;have:=qg.out;omega
      ·exact h
     cases hv
     have zb:w3.heap[wr.heap.size+1]?=some (.cells #[.slice (some ⟨g,0,none⟩) (64*many bs.length) c5] 22 (0,0)):=by
      rw[J.out,←Y,←qg.out];exact heap_alloc2_old _ _ _
     have zd:w3.heap[wr.heap.size+1+1]?=some (.cells #[.int .i64 64] 3 (0,0)):=by
      rw[J.out,←Y];exact heap_alloc2_new _ _ _
     refine wpIn_wide (n:=3).1 ?_;refine' wpIn_rangeFunc_ownF rfl (by omega) (gf:=210) rfl trivial (enters_of func210 (by kernel_rfl) rfl) (Ga _ (wr.heap.size+1) (wr.heap.size+1+1) g 0 (many bs.length) c5 (by rw[←qg.out];exact zg) zh w3 zb zd) ?hKt ?hKb (Below.refl _ _) (fun _=>rfl) (FI wr.heap.size w3 bs) (fun _ _ _=>False) (FI.own (by omega) bs) (fun c s A B row hs _ _=>hs) ?h0 _ ?assign ?body ?done ?stop
     case hKt=>exact fun h k=>⟨k.1.trans h.1,k.2.trans h.2⟩
     case hKb=>exact fun W l o o' hl _ _ _=>⟨World.putObj_heap_other (by omega),World.putObj_heap_other (by omega)⟩
     case h0 =>
      refine⟨⟨.slice none 0 0,[],?_,World.ownsRow_nil _ _ _ _,rfl,fun i p h=>by simp at h⟩,aA.refl _ _⟩;rw[J.out,←qc.out];exact(((aA.refl aB _).alloc _).alloc _).blk (heap_alloc_new _ _) id
     case assign =>
      intro l x W K hK
      gi_wp2_with fail
      exact hK
     case body =>
      rintro l pre x W ⟨⟨v,ps,h1,h2,h3⟩,H⟩ zk;obtain⟨av,cv,rfl,-,-⟩:=(Rd.of_owns h2).form;have P:x % many bs.length<many bs.length:=Nat.mod_lt _ (EA _)
      have HP:Hid (Rd W 1 (.slice (some ⟨g,0+64*(x % many bs.length),none⟩) 64 64) 64 ((kD bs (x % many bs.length)).map vb)):=by
       refine O ⟨by simp[rC bs _ P],_,64,rfl,Nat.le_refl _,by unfold maxLen;omega,(by intro h;cases h),fun _=>⟨g,_,rfl,fun i u hu=>?_⟩⟩
       have hi:i<64:=by
        have:=(List.getElem?_eq_some_iff.1 hu).1
        simpa [rC bs _ P] using this
       have ze:w3.heap[g]?=some (.cells cur 5 (0,0)):=by
        rw[J.out,←qc.out];exact((((aA.refl aB _).alloc _).alloc _).alloc _).blk qy id
       have zf:=H.blk ze (by have:=lt_of_block qy;omega);refine aC zf ?_;rw[List.getElem?_map,Ke _ _ _ hi,←List.getElem?_map,←zi,List.getElem?_take] at hu;split at hu
       ·rw[Nat.zero_add];simpa using hu
       ·cases hu
      have HB:=O h1;have H2:=O h2;have H3:=O h3;have Z:=O H;clear h1 h2 h3 H
      gi_wp2_with fail
      refine wN (by kernel_rfl) (by kernel_rfl) (fun ⟨_,_,h⟩=>h) ?_;refine Hk (v:=.slice av pre.length cv) (S:=fun w'=>w'.heap[wr.heap.size]?=some (.cells #[.slice av pre.length cv] 173 (0,0))) rfl (by kernel_rfl) (by decide) (by kernel_rfl) (by kernel_rfl) (by kernel_rfl) (fun _ _ _ h=>h) (.inl ⟨by rfl,?_⟩) HB.out ?_
      ·intro w' hS
       have hc:=cell_of_one hS
       go_simp
      ·obtain⟨Wd,qv,I⟩:∃Wd,({ W with drawn:=W.drawn+1 }:World)=Wd/\Hid (aA aB W Wd):=⟨_,rfl,O (aA.refl aB W).drew⟩
       rw[qv];clear qv
       have q9:Hid (Rd Wd 1 (.slice (some ⟨g,64*(x % many bs.length),none⟩) 64 64) 64 ((kD bs (x % many bs.length)).map vb)):=by
        have:=HP.keep I.out fun _ _=>id
        rw[Nat.zero_add] at this;exact O this
       have qf:=O (I.blk HB.out id);have qw:w3.heap.size≤Wd.heap.size:=Nat.le_trans Z.size I.size;have q1:=O qw;clear qw;change wpList _ _ (Exit.then _ _) [_] _ _;go_wp2_with fail;refine⟨fun _=>qf.out,?_⟩;change wpList _ _ (Exit.then _ _) [_] _ _;refine aK rfl (.const (.slice none 0 0)) (.tmp 40) 22 rfl w3.heap.size 5 _ 1 1 underlying22 eW rfl (by omega) _ 0 [] rfl (World.ownsRow_nil _ _ _ _) _ 64 _ rfl q9.out (bA _) (by unfold maxLen;omega) (by omega) q1.out ?_;intro p Wp qk qz f t;have q5:=O qk;have Q:=O qz;obtain⟨ap,cp,rfl,-,-⟩:=(Rd.of_owns qk).form;clear qk qz f t;refine wpList_nil ⟨fun _=>Q.blk qf.out (fun h=>by cases h),?_⟩;change wpList _ _ (Exit.then _ _) [_] _ _;go_wp2_with fail;refine⟨fun _=>((aA.refl aB Wp).alloc _).blk (Q.blk qf.out (fun h=>by cases h)) id,?_⟩;refine Cb [_,_] 4 _ _ (by kernel_rfl) ?_;have j:pre.length+1≤maxLen/\(pre.length+1)*24≤140737488355328:=by have:=tL bs.length;have:=Cm bs.length;unfold maxLen;omega
       have q:=O j;clear j;have z:∀u∈[Value.slice ap (0+64) cp],u.oneCell'=true:=by simp[Value.oneCell']
       have qh:=O z;clear z;have qi:aA aB W (Wp.alloc (.cells #[.slice ap (0+64) cp] 22)):=(I.tT Q.out (fun i _ h=>by cases h)).alloc _;have q7:=O (qi.owns H2.out fun _ _=>id);have qx:w3.heap.size≤(Wp.alloc (.cells #[.slice ap (0+64) cp] 22)).heap.size:=Nat.le_trans Z.size qi.size;have q3:=O qx;clear qx qi;refine aK rfl (.tmp 39) (.tmp 42) 173 rfl w3.heap.size 22 _ 1 24 underlying173 P4 rfl (by omega) _ pre.length ps rfl q7.out _ 1 _ rfl (wL _ _ _) qh.out q.1 q.2 q3.out ?_;intro v' Wr ql qj f t;have HM:=EE (bs:=bs) (by omega) HB.out H2.out I.out Q.out qj;have R:=O (MN (x:=x) (by omega) HB.out H2.out H3.out Z.out I.out q5.out Q.out ql qj);have cM:=cell_of_one HM;have fM:=bP HM 0;obtain⟨ar,cr,rfl,-,-⟩:=(Rd.of_owns ql).form;clear ql qj f t HM;go_wp2_with fail;exact R.out
     case done =>
      intro D xs W hD hS hI qq;obtain⟨⟨v,ps,h1,h2,h3⟩,H⟩:=hI;have c1:=cell_of_one h1;subst hS;rw[List.length_range] at h2;obtain⟨ar,cr,rfl,-,-⟩:=(Rd.of_owns h2).form;have H2:=O h2;have H3:=O h3;have Z:=O H;have HD:=O qq
      have q0:aA aB w W:=by
       refine aA.trans' (S:=aB) (T:=fun k=>k=wr.heap.size) (b:=w3) ?_ H (fun _ _ h=>h) (fun i hi e=>by have:=m.size;omega);rw[J.out,←qc.out];exact((m.alloc _).alloc _).alloc _
      have q4:=O q0;clear h1 h2 h3 H qq q0;go_wp2_with fail;refine⟨by simp,.inl ⟨_,_,rfl,run_takeDeferred HD.out,?_⟩⟩;refine⟨_,results_tmp rfl _ _ _,?_⟩;exact Kk rfl HD.out H2.out H3.out q4.out ⟨by have:=m.size;omega,hD⟩
     case stop=>exact fun D c pre W _ _ h _=>h.elim
open Go.RowKit
set_option maxRecDepth 100000
def P5:St:=⟨1779033703,3144134277,1013904242,2773480762,1359893119,2600822924,528734635,1541459225⟩
def sU(bs:List UInt8):Nat->St
 | 0=>P5
 | k+1=>xB (byt (kD bs k)) (sU bs k)
def dgB(s:St)(j:Nat):UInt8:=UInt8.ofNat (s.at (j / 4) / 2 ^ (24-8*(j % 4)) % 256).toNat
theorem P6(s:St)(j:Nat):vb (dgB s j)=.int .u8 (s.at (j / 4) / 2 ^ (24-8*(j % 4)) % 256):=by
 unfold vb dgB;have a:=Int.emod_nonneg (s.at (j / 4) / 2 ^ (24-8*(j % 4))) (show (256:Int)≠0 by omega);have b:=Int.emod_lt_of_pos (s.at (j / 4) / 2 ^ (24-8*(j % 4))) (show (0:Int)<256 by omega);generalize s.at (j / 4) / 2 ^ (24-8*(j % 4)) % 256=y at *;obtain⟨n,rfl⟩:=Int.eq_ofNat_of_zero_le a;have:n<256:=by omega
 simp;omega
def bU(bs:List UInt8):List UInt8:=(List.range 32).map (dgB (sU bs (many bs.length)))
theorem dB(bs:List UInt8):(bU bs).length=32:=by simp[bU]
def iU(s:St)(n:Nat):List Value:=(List.range 32).map fun j=>if j<n then vb (dgB s j) else .int .u8 0
theorem EG(s:St)(n:Nat):(iU s n).set n (vb (dgB s n))=iU s (n+1):=by
 apply List.ext_getElem
 ·simp[iU]
 ·intro i a b
  simp only[List.getElem_set,iU,List.getElem_map,List.getElem_range]
  by_cases e:n=i
  ·subst e;simp
  ·rw[if_neg e]
   by_cases h:i<n
   ·rw[if_pos h,if_pos (by omega)]
   ·rw[if_neg h,if_neg (by omega)]
theorem Gb(bs:List UInt8):iU (sU bs (many bs.length)) 32=(bU bs).map vb:=by
 apply List.ext_getElem
 ·simp[iU,bU]
 ·intro i a b
  have:i<32:=by simpa [iU] using a
  simp[iU,bU,this]
theorem Gc(s:St)(n:Nat){j:Nat}(a:j<32):∃u,(iU s n)[j]?=some u:=⟨_,by simp[iU,a];rfl⟩
def O3(w:World)(bs:List UInt8)(e:Ending)(w':World):Prop:=e=.returned (.agg ((bU bs).map vb).toArray)/\aA aB w w'
def jP:Value:=.agg (Array.replicate 32 (.int .u8 0))
theorem mX(w:World):(zeroValue 31).run prog w=.ok jP w:=by kernel_rfl
theorem fZ:(prog.info? 31).map (·.size)=some 32:=by kernel_rfl
structure SR(T:TypeId)(w wr:World)(bs:List UInt8)(v:Value)(ps:List Value)(base b3 k:Nat):Prop where
 st:wr.heap[b3]?=some (.cells ((sU bs k).l.map vW).toArray T (0,0))
 res:wr.heap[w.heap.size]?=some (.cells (Array.replicate 32 (.int .u8 0)) 31 (0,0))
 own:wr.ownsRow base 22 1 v (many bs.length) ps
 pcs:iE wr base bs (List.range (many bs.length)) ps
 keep:aA aB w wr
 lt:w.heap.size<b3
 typ:T≠5/\T≠22/\T≠31
theorem SR.same{wr:World}(h:SR T w wr bs v ps base b3 k)(a:aA aB wr w2):SR T w w2 bs v ps base b3 k:=
 ⟨a.blk h.st id,a.blk h.res id,a.owns h.own fun _ _=>id,h.pcs.keep a fun _ _ _=>id,h.keep.trans a,h.lt,h.typ⟩
theorem SR.turn{wr:World}(h:SR T w wr bs v ps base b3 k)(g:aA aB wr w2)
 (d:w3.heap[b3]?=some (.cells (spl ((sU bs k).l.map vW).toArray 0 ((xB (byt (kD bs k)) (sU bs k)).l.map vW)) T (0,0))) (a:aA (fun i=>i=b3) w2 w3):Hid (SR T w w3 bs v ps base b3 (k+1)):=by
 have b:=h.same g;have lt:=h.lt;refine O ⟨?_,a.blk b.res (by omega),a.owns b.own (fun i f e=>?_),b.pcs.keep a (fun i cur c e=>?_),b.keep.tT a (fun i f e=>by omega),h.lt,h.typ⟩
 ·rw[aI _ _ (by simp[St.l])] at d;exact d
 ·subst e
  obtain⟨cur,c⟩:=aH b.own f;rw[b.st] at c;cases c
  exact h.typ.2.1 rfl
 ·subst e
  rw[b.st] at c;cases c
  exact h.typ.1 rfl
theorem SR.piece{wr:World}(h:SR T w wr bs v ps base b3 k)(b:k<many bs.length) :
 ∃ap cp g a,v=.slice (some ⟨g,0,none⟩) (many bs.length) a/\wr.cell? ⟨g,k,none⟩=some (.slice ap 64 cp)/\Rd wr 1 (.slice ap 64 cp) 64 ((kD bs k).map vb):=by
 have f:ps.length=many bs.length:=by rw[h.pcs.1];simp
 obtain⟨p,d⟩:∃p,ps[k]?=some p:=⟨ps[k],by simp[f,b]⟩
 obtain⟨x,e,c⟩:=h.pcs.2 k p d;have:x=k:=by rw[List.getElem?_range b] at e;exact(Option.some.inj e).symm
 subst this;rw[Nat.mod_eq_of_lt b] at c;obtain⟨ap,cp,rfl,-,-⟩:=(Rd.of_owns c).form;rcases h.own.2 with⟨-,h0⟩|⟨g,a,cur,rfl,-⟩
 ·omega
 ·refine⟨ap,cp,g,a,rfl,?_,Rd.of_owns c⟩
  have:=h.own.cells (g:=g) rfl x _ d
  rwa [iO,Nat.zero_add] at this
structure DR(T:TypeId)(w wr:World)(s:St)(b3 b6 n:Nat):Prop where
 st:wr.heap[b3]?=some (.cells (s.l.map vW).toArray T (0,0))
 res:wr.heap[w.heap.size]?=some (.cells (Array.replicate 32 (.int .u8 0)) 31 (0,0))
 out:wr.heap[b6]?=some (.cells (iU s n).toArray 31 (0,0))
 keep:aA aB w wr
 l3:w.heap.size<b3
 l6:b3<b6
theorem DR.step{wr:World}(h:DR T w wr s b3 b6 n)(a:x=vb (dgB s n)):Hid (DR T w (wr.setCell ⟨b6,n,none⟩ x) s b3 b6 (n+1)):=by
 subst a;have l3:=h.l3;have l6:=h.l6;have K:aA (fun k=>k=b6) wr (wr.setCell ⟨b6,n,none⟩ (vb (dgB s n))):=aA.setCell (S:=fun k=>k=b6) (p:=⟨b6,n,none⟩) (aA.refl _ _) (fun _=>rfl) _;refine O ⟨K.blk h.st (by omega),K.blk h.res (by omega),?_,h.keep.tT K (fun i b e=>by omega),l3,l6⟩;have:=cH h.out n (vb (dgB s n));rw[List.setIfInBounds_toArray,EG] at this;exact this
theorem Q6(S:St)(j:Nat)(a:j<8):∀w:World,Sem.run prog (Instr.index 171 (.agg (S.l.map vW).toArray) (.int .i64 (j:Int))) w=.ok (vW (S.at j)) w:=by
 intro w;have h:j=0\/j=1\/j=2\/j=3\/j=4\/j=5\/j=6\/j=7:=by omega
 rcases h with rfl|rfl|rfl|rfl|rfl|rfl|rfl|rfl<;>(show _=_;kernel_rfl)
theorem DR.free{wr:World}(h:DR T w wr s b3 b6 n)(a:n<32):(∃u,wr.cell? ⟨b6,n,none⟩=some u)/\wr.frozen? ⟨b6,n,none⟩=false:=by
 obtain⟨u,b⟩:=Gc s n a;exact⟨⟨u,aC h.out (by simpa using b)⟩,bP h.out n⟩
theorem yX(bv:Value)(bs:List UInt8)(w:World)(hr:Rd w 1 bv bs.length (bs.map vb))(hb:bs.length≤140737488350208) :
 Calls prog 43 #[bv] w (O3 w bs):=by
 obtain⟨a,c,rfl,-,-⟩:=hr.form;have HR:=O hr;clear hr;go_in
 go_wp2_with (first
  | (refine aG rfl 31 rfl jP mX (Array.replicate 32 (.int .u8 0)) rfl ?_))
 refine(Kj _).mono ?_;rintro e z ⟨rfl,qa⟩;have d:∃vs,pA.map vW=vs/\vs.length=8:=⟨_,rfl,rfl⟩
 obtain⟨vs,d,r⟩:=d;rw[d];have qe:∀u∈vs,u.oneCell'=true:=by rw[←d];exact iD _
 have X:=O d;have A:=O qa;clear d qa;have qq:w.heap.size<z.heap.size:=by have:=A.size;simp at this;omega
 go_wp2_with (first
  | (refine aG rfl 171 rfl kE xE (Array.replicate 8 (.int .u32 0)) rfl ?_)
  | (with_reducible show WL none (.store 171 (.tmp 3) (.tmp 10));refine aE rfl 171 (.tmp 3) (.tmp 10) rfl z.heap.size 0 vs rfl rfl _ _ (heap_alloc_new _ _) (by rw[r];decide) (by rw[r];exact gO) qe ?_;intro w2 Y m;have Q:=O Y;have H:=O m;clear Y m))
 have qd:aA aB w w2:=(((aA.refl aB w).alloc _).trans A.out |>.alloc _).tT H.out (fun i hi e=>by omega);have I:=O qd;clear qd;refine(MO _ bs w2 (HR.keep I.out fun _ _=>id) hb).mono ?_;rintro e w3 ⟨v,ps,rfl,t,G,E⟩
 have R0:Hid (SR 171 w w3 bs v ps w2.heap.size z.heap.size 0):=by
  refine O ⟨?_,E.blk (H.blk (((A.alloc _).blk (heap_alloc_new _ _) id)) (by omega)) id,t,G,I.trans E,qq,by decide⟩;have:=Q.out;rw[aI _ _ (by rw[r];rfl),←X.out] at this;exact E.blk this id
 obtain⟨av,cv,rfl,-,-⟩:=(Rd.of_owns t).form;clear t G E Q H I A X;have hm:=tL bs.length;have hp:=Cm bs.length;obtain⟨M,hM⟩:∃M,M=many bs.length:=⟨_,rfl⟩
 rw[←hM] at hm R0 ⊢;have HM:=O hM;clear hM;go_wp2_with fail
 go_loopw [14] (fun i wr=>∃k:Nat,k≤M/\i=.int .i64 k/\Hid (SR 171 w wr bs (.slice av M cv) ps w2.heap.size z.heap.size k)) (fun i _=>M-(intOf i).toNat)
 case atStart=>exact⟨0,by omega,rfl,R0⟩
 case round =>
  clear R0;obtain⟨k,hk,rfl,P⟩:=hrel
  by_cases m:k<M
  ·obtain⟨ap,cp,g,qt,hv,c0,qf⟩:=P.out.piece (by rw[←HM.out];exact m)
   rw[←HM.out] at hv;cases hv
   have qu:(0:Int)≤(k:Int):=by omega
   have qv:(k:Int)<(M:Int):=by omega
   have HP:=O qf;clear qf;obtain⟨us,N⟩:=zX9 ((sU bs k).l.map vW)
   have L:us.length=8:=by rw[←N];rfl
   have V:=O N;clear N
   go_wp2_with (first
    | (with_reducible show WL (some 18) (.load 171 (.tmp 3));refine wpList_load_mid rfl 171 (.tmp 3) rfl z.heap.size 0 rfl us _ (aD (by rw[←V.out];exact P.out.st)) underlying171 rfl (by rw[L];exact gO) ?_))
   rw[←V.out];refine(Ir (sU bs k) _ (kD bs k) _ (rC bs k (by rw[←HM.out];exact m)) HP.out).mono ?_;rintro e w4 ⟨rfl,qc⟩;obtain⟨ts,y⟩:=zX9 ((xB (byt (kD bs k)) (sU bs k)).l.map vW)
   have qg:ts.length=8:=by rw[←y];rfl
   have qr:∀u∈ts,u.oneCell'=true:=by rw[←y];exact iD _
   rw[y];have ql:=O y;have R:=O qc;clear y qc
   go_wp2_with (first
    | (with_reducible show WL none (.store 171 (.tmp 3) (.tmp 20));refine aE rfl 171 (.tmp 3) (.tmp 20) rfl z.heap.size 0 ts rfl rfl _ _ (R.out.blk P.out.st id) (by rw[qg];simp[St.l]) (by rw[qg];exact gO) qr ?_;intro w5 b o;rw[←ql.out] at b;have qn:=P.out.turn R.out b o;clear b o))
   go_roundw
   case rel=>exact⟨k+1,by omega,by go_num,qn⟩
   case measure=>simp[intOf];omega
  ·obtain rfl:k=M:=by omega
   obtain⟨S,hS⟩:=zX9 (sU bs k)
   have D0:Hid (DR 171 w (wr.alloc (.cells (Array.replicate 32 (.int .u8 0)) 31)) S z.heap.size wr.heap.size 0):=by
    have h:=P.out;have K:aA aB wr (wr.alloc (.cells (Array.replicate 32 (.int .u8 0)) 31)):=(aA.refl _ _).alloc _;exact O ⟨by rw[←hS];exact K.blk h.st id,K.blk h.res id,heap_alloc_new _ _,h.keep.trans K,h.lt,lt_of_block h.st⟩
   have qk:=O hS;clear hS P;have L:(S.l.map vW).length=8:=rfl
   go_wp2_with (first
    | (refine aG rfl 31 rfl jP mX (Array.replicate 32 (.int .u8 0)) rfl ?_)
    | (with_reducible show WL (some 22) (.load 171 (.tmp 3));refine wpList_load_mid rfl 171 (.tmp 3) rfl z.heap.size 0 rfl (S.l.map vW) _ (aD D0.out.st) underlying171 rfl (by rw[L];exact gO) ?_))
   generalize wr.alloc (.cells (Array.replicate 32 (.int .u8 0)) 31)=w0 at *;generalize wr.heap.size=b6 at *
   go_loopw [23] (fun i wr=>∃j:Nat,j≤8/\i=.int .i64 j/\Hid (DR 171 w wr S z.heap.size b6 (4*j))) (fun i _=>8-(intOf i).toNat)
   case atStart=>exact⟨0,by omega,rfl,D0⟩
   case round =>
    clear D0;obtain⟨j,hj,rfl,C⟩:=hrel
    by_cases Z:j<8
    ·have hx:(S.l.map vW).toArray[j]?=some (vW (S.at j)):=by simp[S.at_get j Z]
     have qy:(0:Int)≤(j:Int):=by omega
     have qz:(j:Int)<8:=by omega
     have qp:=Q6 S j Z;obtain⟨x,hx⟩:=zX9 (S.at j)
     simp only[hx,show vW x=.int .u32 x from rfl] at qp;have HX:=O hx;clear hx;go_wp2_with fail;obtain⟨wo,rfl⟩:∃wo:World,wo=wr:=⟨_,rfl⟩
     go_loopw [27] (fun i wr=>∃k:Nat,k≤4/\i=.int .i64 k/\Hid (DR 171 w wr S z.heap.size b6 (4*j+k))) (fun i _=>4-(intOf i).toNat)
     case atStart=>exact⟨0,by omega,rfl,C⟩
     case round =>
      clear C;obtain⟨q,hq,rfl,C⟩:=hrel
      by_cases q3:q<4
      ·obtain⟨⟨u,qw⟩,qx⟩:=C.out.free (show 4*j+q<32 by omega)
       have q0:(0:Int)≤(q:Int):=by omega
       have q1:(q:Int)<4:=by omega
       have HV:=O (show (Value.int .u8 (x / 2 ^ (24-8*q) % 256))=vb (dgB S (4*j+q)) by rw[P6,←HX.out,show (4*j+q) / 4=j by omega,show (4*j+q) % 4=q by omega]);have qm:=C.out.step HV.out;go_wp2_with fail;refine⟨⟨q+1,by omega,by go_num,qm⟩,?_⟩;simp[intOf];omega
      ·obtain rfl:q=4:=by omega
       go_wp2
       go_roundw
       case rel=>exact⟨j+1,by omega,by go_num,by rw[show 4*(j+1)=4*j+4 by omega];exact C⟩
       case measure=>simp[intOf];omega
    ·obtain rfl:j=8:=by omega
     obtain⟨J,f⟩:=zX9 ((bU bs).map vb)
     have D:J.length=32:=by rw[←f];simp[dB]
     have qo:∀u∈J,u.oneCell'=true:=by rw[←f];exact bA _
     have F:wr.heap[b6]?=some (.cells J.toArray 31 (0,0)):=by
      have:=C.out.out;rw[←f,←Gb,←HM.out,qk.out];exact this
     have qi:=O f;have U:=O F;clear f F
     go_wp2_with (first
      | (with_reducible show WL (some 43) (.load 31 (.tmp 6));refine wpList_load_mid rfl 31 (.tmp 6) rfl b6 0 rfl J _ (aD U.out) underlying31 rfl (by rw[D];exact fZ) ?_)
      | (with_reducible show WL none (.store 31 (.tmp 2) (.tmp 43));refine aE rfl 31 (.tmp 2) (.tmp 43) rfl w.heap.size 0 J rfl rfl _ _ C.out.res (by rw[D];simp) (by rw[D];exact fZ) qo ?_;intro w5 b o;have qh:=O b;have qj:=O o;clear b o))
     refine bodyPost_ret (results_cell_row rfl _ _ w.heap.size _ _ _ _ rfl qh.out underlying31 rfl (by rw[cU];simp[fZ])) rfl ⟨?_,?_⟩
     ·rw[aI _ _ (by rw[D];simp),qi.out]
     ·exact C.out.keep.tT qj.out (fun i hi e=>by omega)
open Go.RowKit
set_option maxRecDepth 100000
structure Rdr(w:World)(base p:Nat)(v:Value)(l:List UInt8)(at_:Nat)(fe fa:Int):Prop where
 blk:w.heap[p]?=some (.cells #[.bool true,v,.int .i64 at_,.int .i64 fe,.int .i64 fa] 303 (0,0))
 own:w.ownsRow base 5 1 v l.length (l.map vb)
 ne:v.ownBlock≠some p
 le:base≤p
 fit:at_≤l.length
 max:l.length≤65536
theorem Rdr.cells(h:Rdr w base p v l at_ fe fa) :
 w.cell? ⟨p,0,none⟩=some (.bool true)/\w.cell? ⟨p,1,none⟩=some v/\w.cell? ⟨p,2,none⟩=some (.int .i64 at_)/\w.cell? ⟨p,3,none⟩=some (.int .i64 fe)/\w.cell? ⟨p,4,none⟩=some (.int .i64 fa)/\(∀i,w.frozen? ⟨p,i,none⟩=false):=by
 refine⟨?_,?_,?_,?_,?_,fun i=>frozen_of_row w p i _ _ h.blk⟩<;>(rw[cell_of_row w p _ _ _ _ h.blk];rfl)
theorem Rdr.keep(h:Rdr w base p v l at_ fe fa)(k:aA S w w')(a:¬S p)(b:∀g,v.ownBlock=some g->¬S g):Rdr w' base p v l at_ fe fa:=
 ⟨k.blk h.blk a,k.owns h.own b,h.ne,h.le,h.fit,h.max⟩
theorem Rdr.form(h:Rdr w base p v l at_ fe fa):∃a b,v=.slice a l.length b:=by
 obtain⟨a,c,d,-,-⟩:=(Rd.of_owns h.own).form;exact⟨a,c,d⟩
theorem Rdr.setAt(h:Rdr w base p v l at_ fe fa)(n:Nat)(a:n≤l.length):Rdr (w.setCell ⟨p,2,none⟩ (.int .i64 n)) base p v l n fe fa:=
 ⟨by rw[cH h.blk];rfl,ownsRow_setCell_other h.own (by simpa using h.ne) _,h.ne,h.le,a,h.max⟩
theorem sB(w:World)(base p:Nat)(v:Value)(l:List UInt8)(at_:Nat)(fe fa:Int)(h:Rdr w base p v l at_ fe fa) :
 Calls prog 221 #[.pointer p] w (fun e w'=>e=.returned (.bool false)/\w=w'):=by
 obtain⟨c0,c1,c2,c3,a,b⟩:=h.cells;clear h;go_in;go_wp2;go_ret;exact⟨rfl,rfl⟩
theorem sC(d:Value)(bs:List UInt8)(w:World)(f:Rd w 1 d bs.length (bs.map vb))(j:bs.length≤65536) :
 Calls prog 166 #[d] w (fun e w'=>∃p v,e=.returned (.pointer (some ⟨p,0,none⟩))/\Rdr w' w.heap.size p v bs 0 0 0/\aA aB w w'):=by
 have C:=O (CU d bs w f (by omega));obtain⟨a,c,rfl,-,-⟩:=f.form;clear f;go_in;go_wp2_with fail;refine C.out.mono ?_;rintro e o ⟨v,rfl,b,i⟩;obtain⟨q,c3,rfl,-,-⟩:=(Rd.of_owns b).form;have h:=O b;have g:=O i;clear b i;go_wp2;go_ret;refine⟨_,_,rfl,⟨heap_alloc_new _ _,(((aA.refl aB o).alloc _).owns h.out fun _ _=>id),?_,g.size,Nat.zero_le _,j⟩,g.alloc _⟩;intro e;obtain⟨cur,m⟩:=aH h.out e;have:=lt_of_block m;omega
theorem GU(w:World)(base p:Nat)(v:Value)(l:List UInt8)(at_:Nat)(fe fa:Int)(h:Rdr w base p v l at_ fe fa)(n:Nat)(f:1≤n)(F:at_+n≤l.length) :
 Calls prog 219 #[.pointer p,.int .i64 n] w (fun e w'=>∃d,e=.returned d/\Rd w' 1 d n (((l.drop at_).take n).map vb)/\aA aB w w'):=by
 obtain⟨c0,c1,c2,c3,r,t⟩:=h.cells
 obtain⟨g,c,q,o,m⟩:∃g c,v=.slice (some ⟨g,0,none⟩) l.length c/\l.length≤c/\c≤9223372036854775807:=by
  rcases h.own.2 with⟨-,h0⟩|⟨g,b,cur,rfl,_,_,f,j,C,D⟩
  ·omega
  ·exact⟨g,b,rfl,by omega,by unfold maxLen at j;omega⟩
 subst q;have H:=O h;have E:=h.max;clear h;have y:IntKind.i64.wrap ((at_:Int)+(n:Int))=(at_:Int)+(n:Int):=by rw[IntWalk.i64_in _ (by omega)]
 have z:IntKind.i64.wrap ((l.length:Int)-(at_:Int))=(l.length:Int)-(at_:Int):=by rw[IntWalk.i64_in _ (by omega)]
 have A:((at_:Int)+(n:Int)).toNat=at_+n:=by omega
 have G:(0:Int)≤(at_:Int):=by omega
 have I:(0:Int)≤(at_:Int)+(n:Int):=by omega
 have J:(at_:Int)≤(at_:Int)+(n:Int):=by omega
 have K:(at_:Int)+(n:Int)≤(c:Int):=by omega
 have L:at_<c:=by omega
 have M:at_+n≤c:=by omega
 have N:at_≤at_+n:=by omega
 have t1:decide ((l.length:Int)-(at_:Int)<(n:Int))=false:=by simp;omega
 go_in;go_wp2_with fail
 go_quiet (fail)
 go_wp2_with fail
 go_quiet (fail)
 go_wp2;go_ret;refine⟨_,rfl,?_,?_⟩
 ·refine Rd.keep (w:=w) (S:=aB) ?_ (aA.drewN (aA.drewN (aA.refl _ _) _) _) (fun _ _=>id)
  refine⟨by simp;omega,_,_,rfl,by omega,by unfold maxLen;omega,(by intro h;cases h),fun _=>⟨g,at_,rfl,fun i u a=>?_⟩⟩;have:=H.own.cells (g:=g) rfl (at_+i) u ?_
  ·rwa [iO,Nat.zero_add] at this
  ·rw[List.map_take,List.map_drop,List.getElem?_take] at a
   split at a
   ·rwa [List.getElem?_drop] at a
   ·cases a
 ·exact aA.drewN (aA.drewN (aA.refl _ _) _) _
def It(b a:Int):List PanicEntry:=[{ v:=.iface 305 (.agg #[.int .i64 b,.int .i64 a]),recovered:=false }]
theorem Iu(A:Nat)(w:World) :
 CallsD prog 246 #[.pointer A] .returning w fun e c w'=>e=.returned (.tuple #[])/\c=.returning/\w'=w:=by
 refine callsD_of_wpS func246 rfl fun a d b=>?_
 apply wpS_seq;apply wpS_region;simp[wpOpsS,go_sem,recoverD,b,ntmps246,Exit.thenS];refine wpS_of_wp ?_;go_wp2_with fail;cases a
 simp_all [bodyPostS,results,results246]
def Qb(p:Nat)(c b:Int)(a:Array Value)(w:World)(e:Ending)(d:FrameMode)(w':World):Prop:=
 e=.returned (.tuple #[])/\d=.panicking [{ v:=.iface 305 (.agg #[.int .i64 c,.int .i64 b]),recovered:=true }] /\
 w'.heap[p]?=some (.cells (spl a 3 [.int .i64 c,.int .i64 b]) 303 (0,0))/\aA (fun k=>k=p) w w'
theorem MT(w:World):(zeroValue 305).run prog w=.ok (.agg #[.int .i64 0,.int .i64 0]) w:=by kernel_rfl
theorem EK:(prog.info? 305).map (·.size)=some 2:=by kernel_rfl
theorem gA:(prog.info? 254).map (·.size)=some 2:=by kernel_rfl
theorem Iv(A p:Nat)(j g:Int)(w:World)(I:w.cell? ⟨A,0,none⟩=some (.pointer p))(f:Array Value)(M:f.size=5)(G:w.heap[p]?=some (.cells f 303 (0,0))) :
 CallsD prog 246 #[.pointer A] (.panicking (It j g)) w (Qb p j g f w):=by
 have t:∀(w:World),Sem.run prog (Instr.typeAssert (.iface 305 (.agg #[.int .i64 j,.int .i64 g])) 20 305 true) w=.ok (.tuple #[.agg #[.int .i64 j,.int .i64 g],.bool true]) w:=fun w=>by kernel_rfl
 have Q:=lt_of_block G;have L:=O G;have H:=O I;clear G I;refine callsD_of_wpS func246 rfl fun V U R=>?_
 simp only[ntmps246,List.size_toArray,List.length_cons,List.length_nil,Nat.reduceAdd,Nat.reduceSub,Array.replicate_succ,
  Array.replicate_zero,List.push_toArray,List.append_toArray,List.nil_append,List.cons_append]
 apply wpS_seq;apply wpS_region;simp[wpOpsS,go_sem,recoverD,R,It,Exit.thenS];refine wpS_of_wp ?_;obtain⟨c,b⟩:∃c:List Value,c=[.int .i64 j,.int .i64 g]:=⟨_,rfl⟩
 have a:c.length=2:=by rw[b];rfl
 have y:∀u∈c,u.oneCell'=true:=by rw[b];simp[Value.oneCell']
 have m:=O b;have K:∀(w:World),Sem.run prog (Instr.typeAssert (.iface 305 (.agg c.toArray)) 20 305 true) w=.ok (.tuple #[.agg c.toArray,.bool true]) w:=by rw[b];exact t
 rw[show (#[Value.int .i64 j,.int .i64 g]:Array Value)=c.toArray by rw[b]];have J:A<w.heap.size:=by have:=World.block_lt_of_cell? w _ H.out;exact this
 clear b t
 go_wp2_with (first
  | (refine aG rfl 305 rfl _ MT #[.int .i64 0,.int .i64 0] rfl ?_)
  | ((with_reducible show WL none (.store 305 (.tmp 2) (.tmp 9)));refine aE rfl 305 (.tmp 2) (.tmp 9) rfl w.heap.size 0 c rfl rfl _ _ (heap_alloc_new _ _) (by rw[a];decide) (by rw[a];exact EK) y ?_;intro w2 o d;have N:=d.cell (((aA.refl aB w).alloc _).cell H.out id) (by omega);have z:=O o;have F:=O (d.blk (((aA.refl aB w).alloc _).blk L.out id) (by omega));have D:=O d;clear o d)
  | ((with_reducible show WL (some 11) (.load 305 (.tmp 2)));refine wpList_load_mid rfl 305 (.tmp 2) rfl w.heap.size 0 rfl c _ (aD (by have:=z.out;rwa [aI _ _ (by rw[a];rfl)] at this)) underlying305 rfl (by rw[a];exact EK) ?_)
  | ((with_reducible show WL none (.store 254 (.tmp 13) (.tmp 11)));refine aE rfl 254 (.tmp 13) (.tmp 11) rfl p 3 c rfl rfl _ _ F.out (by rw[a,M];omega) (by rw[a];exact gA) y ?_;intro w3 q r;have C:=O q;have E:=O r;clear q r))
 refine⟨rfl,_,rfl,_,results_none rfl _ _ _,rfl,by rw[m.out],?_,?_⟩
 ·rw[←m.out];exact C.out
 ·exact(((aA.refl (fun k=>k=p) w).alloc _).tT D.out (fun i P e=>by omega)).tT E.out (fun i P e=>e)
def lY(w:World)(p:Nat):World:=w.alloc (.cells #[.pointer p] 249)
theorem jB(w:World)(p:Nat):aA aB w (lY w p):=(aA.refl _ _).alloc _
def EL(Q:World->Prop)(e:Ending)(w':World):Prop:=e=.returned (.tuple #[])/\Q w'
def Iw(b a:Int)(Q:World->Prop)(e:Ending)(w':World):Prop:=e=.panicked (It b a)/\Q w'
theorem Bm(w:World)(base p:Nat)(v:Value)(l:List UInt8)(at_:Nat)(fe fa:Int)(h:Rdr w base p v l at_ fe fa)(a:fe≠0)(b:Value) :
 Calls prog 217 #[.pointer p,b] w (fun e w'=>e=.returned (.tuple #[])/\lY w p=w'):=by
 have c:=h.keep (jB w p) id (fun _ _=>id);obtain⟨c0,c1,c2,c3,i,j⟩:=c.cells;have C:=O (sB _ _ _ _ _ _ _ _ c);have d:(fe != 0)=true:=by simp[a]
 have f:(fe == 0)=false:=by simp[a]
 have g:=O a;clear a h c;unfold lY at *
 go_enter_defers func217,ntmps217
 go_wp2_with fail;refine C.out.mono ?_;rintro e m ⟨rfl,rfl⟩;go_wp2_with fail;exact⟨_,results_none rfl _ _ _,rfl,rfl⟩
theorem EM(w:World)(base p:Nat)(v:Value)(l:List UInt8)(at_:Nat)(fa:Int)(h:Rdr w base p v l at_ 0 fa)(b:Nat)(a:Array Value)
 (o:∀w,Sem.run prog (callFunc b a) w=.ok (.enter b a) w) (Q:World->Prop) (g:Calls prog b a (lY w p) (EL Q)) :
 Calls prog 217 #[.pointer p,.func (.func b) #[] a] w (EL Q):=by
 have d:=h.keep (jB w p) id (fun _ _=>id);obtain⟨c0,c1,c2,c3,u,y⟩:=d.cells;have C:=O (sB _ _ _ _ _ _ _ _ d);have j:=O g;have q:∀(b:Fn) (first c:Array Value) (w:World),(Instr.makeFunc b first c).run prog w=.ok (.func b first c) w:=fun _ _ _ _=>rfl
 clear g h d;unfold lY at *
 go_enter_defers func217,ntmps217
 go_wp2_with fail;refine C.out.mono ?_;rintro e t ⟨rfl,rfl⟩;go_wp2_with fail;refine j.mono ?_;rintro e t ⟨rfl,i⟩;have m:=O i;clear i;go_wp2_with fail;refine leaves_cons (f:=246) (args:=#[.pointer (w.heap.size)]) (by simp) (by simp[go_sem]) ?_;refine(Iu _ _).mono ?_;rintro e z r ⟨rfl,rfl,rfl⟩;exact⟨_,results_none rfl _ _ _,rfl,m.out⟩
def EN(w:World)(p base:Nat)(v:Value)(l:List UInt8)(at_:Nat)(b a:Int)(e:Ending)(w':World):Prop:=
 e=.returned (.tuple #[])/\Rdr w' base p v l at_ b a/\aA (fun k=>k=p) w w'
theorem Ko(w:World)(base p:Nat)(v:Value)(l:List UInt8)(at_:Nat)(fa:Int)(h:Rdr w base p v l at_ 0 fa)(b:Nat)(a:Array Value)
 (F:∀w,Sem.run prog (callFunc b a) w=.ok (.enter b a) w) (o m:Int) (u:Calls prog b a (lY w p) (Iw o m (aA aB (lY w p)))) :
 Calls prog 217 #[.pointer p,.func (.func b) #[] a] w (EN w p base v l at_ o m):=by
 have q:=h.keep (jB w p) id (fun _ _=>id);obtain⟨c0,c1,c2,c3,H,I⟩:=q.cells;have C:=O (sB _ _ _ _ _ _ _ _ q);have D:=O u;have z:=O q;have A:=O (show (lY w p).heap[w.heap.size]?=some (.cells #[.pointer p] 249 (0,0)) from heap_alloc_new _ _);have t:=O (jB w p);have G:∀(b:Fn) (first g:Array Value) (w:World),(Instr.makeFunc b first g).run prog w=.ok (.func b first g) w:=fun _ _ _ _=>rfl
 clear u h q;unfold lY at *
 go_enter_defers func217,ntmps217
 go_wp2_with fail;refine C.out.mono ?_;rintro e y ⟨rfl,rfl⟩;go_wp2_with fail;refine D.mono ?_;rintro e y ⟨rfl,d⟩;have r:=O d;clear d;go_wp2_with fail;refine leaves_cons (f:=246) (args:=#[.pointer (w.heap.size)]) (by simp) (by simp[go_sem]) ?_;have c:=z.keep r.out id (fun _ _=>id);refine(Iv _ p o m y (aC (r.blk A.out id) rfl) _ rfl c.blk).mono ?_;rintro e J j ⟨rfl,rfl,E,d⟩;have K:aA (fun k=>k=p) w j:=((t.trans r.out).any).trans d
 have i:EN w p base v l at_ o m (.returned (.tuple #[])) j:=
  ⟨rfl,⟨by rw[E];rfl,d.owns c.own (fun k d e=>c.ne (by rw[d,e])),c.ne,c.le,c.fit,c.max⟩,K⟩
 exact⟨_,results_none rfl _ _ _,i⟩
open Go.RowKit
set_option maxRecDepth 100000
def QJ(w:World)(Ao base p:Nat)(v:Value)(l bs:List UInt8)(at_ n:Nat)(fa:Int)(w':World):Prop:=
 ∃v',w'.heap[Ao]?=some (.cells #[v'] 22 (0,0))/\w'.ownsRow w.heap.size 5 1 v' n (bs.map vb)/\Rdr w' base p v l (at_+n) 0 fa/\aA (fun k=>k=p\/k=Ao) w w'
theorem O8(w:World)(base p:Nat)(v:Value)(l:List UInt8)(at_:Nat)(fa:Int)(h:Rdr w base p v l at_ 0 fa)(An Ar Ao:Nat)(n:Nat)(h1:1≤n)(hn:at_+n≤l.length)
 (t:w.heap[An]?=some (.cells #[.int .i64 n] 3 (0,0))) (u:w.heap[Ar]?=some (.cells #[.pointer p] 249 (0,0))) (i:w.heap[Ao]?=some (.cells #[.slice none 0 0] 22 (0,0))) :
 Calls prog 218 #[.pointer An,.pointer Ar,.pointer Ao] w (EL (QJ w Ao base p v l ((l.drop at_).take n) at_ n fa)):=by
 obtain⟨c0,c1,c2,c3,c4,cf⟩:=h.cells;have cn:w.cell? ⟨An,0,none⟩=some (.int .i64 n):=aC t rfl;have cr:w.cell? ⟨Ar,0,none⟩=some (.pointer p):=aC u rfl;have C:=O (GU w base p v l at_ 0 fa h n h1 hn);have hm:=h.max;have P:=O h;have E:=O t;have G:=O u;have d:=O i;have qd:Ao≠p:=by intro e;subst e;rw[h.blk] at i;cases i
 clear h t u i;have qc:decide ((n:Int)<0)=false:=by simp
 go_in;go_wp2_with fail;refine C.out.mono ?_;rintro e w1 ⟨bv,rfl,j,J⟩;have b:((l.drop at_).take n).length=n:=by simp;omega
 obtain⟨bs,y⟩:=zX9 ((l.drop at_).take n)
 rw[y] at j b ⊢;have N:=O y;clear y;obtain⟨a1,I,rfl,-,-⟩:=j.form;have o:Rd w1 1 (.slice a1 n I) bs.length (bs.map vb):=by rw[b];exact j
 have C2:=O (CU (.slice a1 n I) bs w1 o (by omega));have q:=O J;clear j o J c0 c1 c2 c3 c4 cf cn cr;go_wp2_with fail;refine C2.out.mono ?_;rintro e w2 ⟨v2,rfl,a,K⟩;rw[b] at a;have HL:=O b;clear b;obtain⟨R,r,rfl,-,-⟩:=(Rd.of_owns a).form;have A:=q.trans K;have c:=A.blk d.out id;have U:w2.cell? ⟨Ao,0,none⟩=some (.slice none 0 0):=aC c rfl;have V:=bP c 0;have h3:=P.keep A id (fun _ _=>id);obtain⟨w3,z⟩:=zX9 (w2.setCell ⟨Ao,0,none⟩ (.slice R n r))
 have L:∀g,(Value.slice R n r).ownBlock=some g->g≠Ao:=by
  intro g Y e;subst e;have:=bG a Y;have:=lt_of_block (q.blk d.out id);omega
 have D:aA (fun k=>k=Ao) w2 w3:=by rw[←z];exact(aA.refl (fun k=>k=Ao) w2).setCell (fun _=>rfl) _
 have M:∀g,v.ownBlock=some g->¬g=Ao:=by
  intro g Y e;subst e;obtain⟨cur,hc⟩:=aH P.own Y;rw[d.out] at hc;cases hc
 have X:=h3.keep D (by omega) M;have m:w3.heap[Ao]?=some (.cells #[.slice R n r] 22 (0,0)):=by rw[←z,cH c];rfl
 have f:=D.owns a (fun k Z=>L k Z);have cn:w3.cell? ⟨An,0,none⟩=some (.int .i64 n):=D.cell (A.cell (aC E.out rfl) id) (by intro e;subst e;have:=E.out;rw[d.out] at this;cases this);have cr:w3.cell? ⟨Ar,0,none⟩=some (.pointer p):=D.cell (A.cell (aC G.out rfl) id) (by intro e;subst e;have:=G.out;rw[d.out] at this;cases this);obtain⟨c0,c1,c2,c3,c4,cf⟩:=X.cells;have qa:=q.size;have H4:=O X;have H:=O f;have F:=O m;have HK:=O (show aA (fun k=>k=p\/k=Ao) w w3 from(A.any).trans (D.mono fun _ _ h=>.inr h));clear a K A c h3 D X f m L M;go_wp2_with fail;clear z U V;have e1:IntKind.i64.wrap ((at_:Int)+(n:Int))=(at_:Int)+(n:Int):=by rw[IntWalk.i64_in _ (by omega)]
 go_still_tail 8,(by kernel_rfl)
 clear e1;go_wp2_with fail
 go_end0
 have Q:aA (fun k=>k=p) w3 ((w3.setCell ⟨p,2,none⟩ (.int .i64 ((at_+n:Nat):Int))).drew):=((aA.refl (fun k=>k=p) w3).setCell (fun _=>rfl) _).drew;refine⟨rfl,_,Q.blk F.out (by omega),?_,((H4.setAt (at_+n) hn).keep (aA.refl aB _).drew id (fun _ _=>id)),HK.trans (Q.mono fun _ _ h=>.inl h)⟩;rw[N.out];refine aQ (Q.owns H.out fun k Z e=>?_) qa;have:=bG H.out Z;have:=lt_of_block P.blk;omega
theorem Kp(w:World)(x y:Obj):((w.alloc x).alloc y).heap[w.heap.size]?=some x/\((w.alloc x).alloc y).heap[w.heap.size+1]?=some y:=by
 refine⟨?_,?_⟩
 ·rw[heap_alloc_old _ _ (by simp)];exact heap_alloc_new _ _
 ·have:=heap_alloc_new (w.alloc x) y
  rwa [World.size_alloc] at this
theorem EO(w:World)(x y z:Obj):(((w.alloc x).alloc y).alloc z).heap[w.heap.size]?=some x/\(((w.alloc x).alloc y).alloc z).heap[w.heap.size+1]?=some y/\(((w.alloc x).alloc y).alloc z).heap[w.heap.size+2]?=some z:=by
 obtain⟨a,b⟩:=Kp w x y;refine⟨?_,?_,?_⟩
 ·rw[heap_alloc_old _ _ (lt_of_block a)];exact a
 ·rw[heap_alloc_old _ _ (lt_of_block b)];exact b
 ·have:=heap_alloc_new ((w.alloc x).alloc y) z
  rwa [World.size_alloc,World.size_alloc] at this
def O9(w:World)(base p:Nat)(v:Value)(l:List UInt8)(at_ n:Nat)(fa:Int)(e:Ending)(w':World):Prop:=
 ∃v',e=.returned v'/\w'.ownsRow w.heap.size 5 1 v' n (((l.drop at_).take n).map vb)/\Rdr w' base p v l (at_+n) 0 fa/\aA (fun k=>k=p) w w'
theorem tP(w:World)(base p:Nat)(v:Value)(l:List UInt8)(at_:Nat)(fa:Int)(h:Rdr w base p v l at_ 0 fa)(n:Nat)(J:1≤n)(L:at_+n≤l.length) :
 Calls prog 167 #[.pointer p,.int .i64 n] w (O9 w base p v l at_ n fa):=by
 have K:∀(z:Fn) (first f:Array Value) (w:World),(Instr.makeFunc z first f).run prog w=.ok (.func z first f) w:=fun _ _ _ _=>rfl
 obtain⟨c,b⟩:=zX9 (((w.alloc (.cells #[.pointer p] 249)).alloc (.cells #[.int .i64 n] 3)).alloc (.cells #[.slice none 0 0] 22))
 have q:aA aB w c:=by rw[←b];exact(((aA.refl _ _).alloc _).alloc _).alloc _
 have j:w.heap.size+3=c.heap.size:=by rw[←b];simp
 obtain⟨m,r,t⟩:=EO w (.cells #[.pointer p] 249) (.cells #[.int .i64 n] 3) (.cells #[.slice none 0 0] 22);rw[b] at m r t;have d:=jB c p;have u:=(h.keep q id (fun _ _=>id))
 have c1:=O8 (lY c p) base p v l at_ fa (u.keep d id (fun _ _=>id)) (w.heap.size+1) w.heap.size (w.heap.size+2) n J L (d.blk r id) (d.blk m id) (d.blk t id);have C:=O (EM c base p v l at_ fa u 218 #[.pointer (some ⟨w.heap.size+1,0,none⟩),.pointer (w.heap.size),.pointer (some ⟨w.heap.size+2,0,none⟩)] (fun _=>rfl) _ c1);have E:=lt_of_block h.blk;have H:c.cell? ⟨w.heap.size,0,none⟩=some (.pointer p):=aC m rfl;have y:=O (q.trans d);have M:=O h;have N:=O j;clear h q m r t u c1 d j;go_in;go_wp2_with fail;refine C.out.mono ?_;rintro e w2 ⟨rfl,v',A,a,g,D⟩;clear b C;have Q:=aC (i:=0) (v:=v') A rfl;obtain⟨P,I,rfl,-,-⟩:=(Rd.of_owns a).form;have F:=O a;have G:=O g;have o:=O D;clear A a g D;go_wp2;go_ret;refine⟨_,rfl,aQ F.out y.size,G.out,y.trans' o.out (fun _ _ h=>h.elim) (fun i R e=>?_)⟩;rcases e with e|e
 ·exact e
 ·omega
open Go.RowKit
set_option maxRecDepth 100000
def beN(l:List UInt8):Nat:=l.foldl (fun a c=>a*256+c.toNat) 0
theorem uX(l:List UInt8)(c:UInt8):beN (l++[c])=beN l*256+c.toNat:=by simp[beN]
theorem GV:∀(l:List UInt8) (a:Nat),l.foldl (fun a c=>a*256+c.toNat) a<(a+1)*256 ^ l.length
 | [],a=>by simp
 | c::l,a=>by
   rw[List.foldl_cons,List.length_cons];have b:=GV l (a*256+c.toNat);have d:=c.toNat_lt;have e:(a*256+c.toNat+1)*256 ^ l.length≤(a+1)*256*256 ^ l.length:=Nat.mul_le_mul_right _ (by omega);rw[Nat.pow_succ,Nat.mul_comm (256 ^ l.length),←Nat.mul_assoc];omega
theorem EP(l:List UInt8):beN l<256 ^ l.length:=by simpa [beN] using GV l 0
theorem GW(x c:Nat)(e:x<281474976710656)(d:c<256):bits .or .i64 ((x:Int)*256) (c:Int)=((x*256+c:Nat):Int):=by
 rw[show ((x:Int)*256)=((x*256:Nat):Int) by simp]
 have a:x*256 ||| c=x*256+c:=by
  have:=Nat.shiftLeft_add_eq_or_of_lt (i:=8) (b:=c) (by omega) x;rw[Nat.shiftLeft_eq] at this;exact this.symm
 show IntKind.i64.wrap ((BitVec.ofInt 64 ((x*256:Nat):Int) ||| BitVec.ofInt 64 (c:Int)).toNat:Int)=_;rw[BitVec.toNat_or,show (BitVec.ofInt 64 ((x*256:Nat):Int)).toNat=x*256 by simp;omega,show (BitVec.ofInt 64 (c:Int)).toNat=c by simp;omega,a];rw[IntWalk.i64_in _ (by omega)]
theorem EQ(l:List UInt8)(h:l.length≤6):beN l<281474976710656:=by
 have a:=EP l;have b:256 ^ l.length≤256 ^ 6:=Nat.pow_le_pow_right (by omega) h;have c:(256:Nat) ^ 6=281474976710656:=by decide
 omega
structure xF(w:World)(p An Ar Al Ah Ao:Nat)(size low high:Int):Prop where
 n:w.heap[An]?=some (.cells #[.int .i64 size] 3 (0,0))
 r:w.heap[Ar]?=some (.cells #[.pointer (some ⟨p,0,none⟩)] 249 (0,0))
 l:w.heap[Al]?=some (.cells #[.int .i64 low] 3 (0,0))
 h:w.heap[Ah]?=some (.cells #[.int .i64 high] 3 (0,0))
 o:w.heap[Ao]?=some (.cells #[.int .i64 0] 3 (0,0))
 ne:Ao≠p/\Ao≠An/\Ao≠Ar/\Ao≠Al/\Ao≠Ah
theorem xF.keep(b:xF w p An Ar Al Ah Ao size low high)(k:aA aB w w'):xF w' p An Ar Al Ah Ao size low high:=
 ⟨k.blk b.n id,k.blk b.r id,k.blk b.l id,k.blk b.h id,k.blk b.o id,b.ne⟩
theorem xF.cells(b:xF w p An Ar Al Ah Ao size low high) :
 w.cell? ⟨An,0,none⟩=some (.int .i64 size)/\w.cell? ⟨Ar,0,none⟩=some (.pointer p)/\w.cell? ⟨Al,0,none⟩=some (.int .i64 low)/\w.cell? ⟨Ah,0,none⟩=some (.int .i64 high) /\
 w.cell? ⟨Ao,0,none⟩=some (.int .i64 0)/\w.frozen? ⟨Ao,0,none⟩=false:=
 ⟨aC b.n rfl,aC b.r rfl,aC b.l rfl,aC b.h rfl,aC b.o rfl,bP b.o 0⟩
def Iy(w:World)(Ao base p:Nat)(v:Value)(l:List UInt8)(x:Int)(at_:Nat)(fa:Int)(w':World):Prop:=
 w'.heap[Ao]?=some (.cells #[.int .i64 x] 3 (0,0))/\Rdr w' base p v l at_ 0 fa/\aA (fun k=>k=p\/k=Ao) w w'
theorem MU{a:World}(r:aA aB w a)(h:Rdr a base p v l at_ 0 fa)(b:xF a p An Ar Al Ah Ao size low high)
 (x:Int) (k:Nat) (t:at_+k≤l.length):Iy w Ao base p v l x (at_+k) fa ((a.setCell ⟨Ao,0,none⟩ (.int .i64 x)).setCell ⟨p,2,none⟩ (.int .i64 ((at_:Int)+(k:Int)))).drew:=by
 have c:aA (fun i=>i=Ao) a (a.setCell ⟨Ao,0,none⟩ (.int .i64 x)):=(aA.refl (fun i=>i=Ao) a).setCell (fun _=>rfl) _
 have o:=h.keep c (by have:=b.ne.1;omega) (fun g q e=>by
  subst e;obtain⟨cur,j⟩:=aH h.own q;rw[b.o] at j;cases j)
 have m:(a.setCell ⟨Ao,0,none⟩ (.int .i64 x)).heap[Ao]?=some (.cells #[.int .i64 x] 3 (0,0)):=by rw[cH b.o];rfl
 have f:=o.setAt (at_+k) t;rw[show (((at_+k:Nat)):Int)=(at_:Int)+(k:Int) by simp] at f;have d:aA (fun i=>i=p) (a.setCell ⟨Ao,0,none⟩ (.int .i64 x)) ((a.setCell ⟨Ao,0,none⟩ (.int .i64 x)).setCell ⟨p,2,none⟩ (.int .i64 ((at_:Int)+(k:Int)))).drew:=((aA.refl (fun i=>i=p) _).setCell (fun _=>rfl) _).drew;exact⟨d.blk m b.ne.1,f.keep (aA.refl aB _).drew id (fun _ _=>id),((r.any).tT c (fun _ _ e=>.inr e)).tT d (fun _ _ e=>.inl e)⟩
def yY(w:World)(Ao base p:Nat)(v:Value)(l:List UInt8)(x low high:Int)(at_ n:Nat)(fa:Int)(e:Ending)(w':World):Prop:=
 if low≤x/\x≤high then EL (Iy w Ao base p v l x (at_+n) fa) e w' else Iw 5 at_ (aA aB w) e w'
theorem MV(w:World)(base p:Nat)(v:Value)(l:List UInt8)(at_:Nat)(fa:Int)(h:Rdr w base p v l at_ 0 fa)(An Ar Al Ah Ao:Nat)(n:Nat)(low high:Int)(h1:1≤n)(h7:n≤6)(hn:at_+n≤l.length)
 (J:xF w p An Ar Al Ah Ao n low high) (x:Nat) (r:beN ((l.drop at_).take n)=x) :
 Calls prog 220 #[.pointer An,.pointer Ar,.pointer Al,.pointer Ah,.pointer Ao] w
  (yY w Ao base p v l x low high at_ n fa):=by
 obtain⟨V,Y,U,R,X,z⟩:=J.cells;have C:=O (GU w base p v l at_ 0 fa h n h1 hn);have hm:=h.max;have HH:=O h;have HB:=O J;have HX:=O r;clear h J r;have qe:decide ((n:Int)<1)=false:=by simp;omega
 have qf:decide ((7:Int)<n)=false:=by simp;omega
 go_in;go_wp2_with fail;refine C.out.mono ?_;rintro e w1 ⟨bv,rfl,q,f⟩;have d:((l.drop at_).take n).length=n:=by simp;omega
 obtain⟨bs,j⟩:=zX9 ((l.drop at_).take n)
 rw[j] at q d;have H:=O (show beN bs=x by rw[←j];exact HX.out);have qa:=O j;clear j
 obtain⟨g,o,cp,qc,rfl,b⟩:∃g o cp,n≤cp/\bv=.slice (some ⟨g,o,none⟩) n cp/\∀k,(M:k<bs.length)->w1.cell? ⟨g,o+k,none⟩=some (.int .u8 (bs[k].toNat:Int)):=by
  obtain⟨h0,a,I,rfl,h2,h3,h4,h5⟩:=q;obtain⟨g,o,rfl,F⟩:=h5 (by simp[d];omega);exact⟨g,o,I,h2,rfl,fun k M=>F k _ (by simp[M,vb])⟩
 have HC:=O b;have G:=O d;have t:=O (HB.keep f);have u:=O (HH.keep f id (fun _ _=>id));have m:=O f;clear q b d f V Y U R X z;go_wp2_with fail
 go_loop [5,24] (fun x i=>∃k:Nat,k≤n/\i=.int .i64 k/\x=.int .i64 (beN (bs.take k):Int)) (fun _ i=>n-(intOf i).toNat)
 case atStart=>exact⟨0,by omega,rfl,rfl⟩
 case round =>
  obtain⟨k,M,rfl,rfl⟩:=hrel
  by_cases N:k<n
  ·have D:k<bs.length:=by rw[G.out];exact N
   have c0:=HC.out k D;have r:=EQ (bs.take k) (by simp;omega);have E:=uX (bs.take k) bs[k];have A:=bs[k].toNat_lt;rw[←List.take_succ_eq_append_getElem D] at E;obtain⟨c,F⟩:=zX9 (bs[k].toNat)
   rw[F] at c0 E A;obtain⟨y,Z⟩:=zX9 (beN (bs.take k))
   rw[Z] at E r ⊢;have HS:=O E;clear E Z F;have qd:(0:Int)≤(k:Int):=by omega
   have f:(k:Int)<(n:Int):=by omega
   have qg:=GW y c r A;go_wp2
   go_round
   case rel=>exact⟨k+1,by omega,by go_num,by rw[HS.out];simp⟩
   case measure=>simp[intOf];omega
  ·obtain rfl:k=n:=by omega
   have r:=EQ bs (by rw[G.out];exact h7);rw[List.take_of_length_le (by rw[G.out];exact Nat.le_refl _)];rw[H.out] at r ⊢;obtain⟨V,Y,U,R,X,z⟩:=t.cells;obtain⟨c0,c1,c2,c3,c4,cf⟩:=u.cells;have e1:IntKind.i64.wrap ((at_:Int)+(k:Int))=(at_:Int)+(k:Int):=by rw[IntWalk.i64_in _ (by omega)]
   by_cases P:low≤x
   ·have Q:decide ((x:Int)<low)=false:=by simpa using P
    by_cases K:x≤high
    ·have L:decide (high<(x:Int))=false:=by simpa using K
     have HQ:=O (MU m.out u.out t.out x k hn);go_wp2_with fail
     go_region
     all_goals go_wp2_with fail
     all_goals
      go_end0
      unfold yY;rw[if_pos ⟨P,K⟩];exact⟨rfl,HQ.out⟩
    ·have L:decide (high<(x:Int))=true:=by simpa using K
     go_wp2_with fail;refine⟨rfl,?_⟩;unfold yY;rw[if_neg (by omega)];exact⟨rfl,m.out⟩
   ·have Q:decide ((x:Int)<low)=true:=by simpa using P
    go_wp2_with fail;refine⟨rfl,?_⟩;unfold yY;rw[if_neg (by omega)];exact⟨rfl,m.out⟩
theorem Qc(w:World)(x y z u v:Obj):(((((w.alloc x).alloc y).alloc z).alloc u).alloc v).heap[w.heap.size]?=some x/\(((((w.alloc x).alloc y).alloc z).alloc u).alloc v).heap[w.heap.size+1]?=some y /\
 (((((w.alloc x).alloc y).alloc z).alloc u).alloc v).heap[w.heap.size+2]?=some z/\(((((w.alloc x).alloc y).alloc z).alloc u).alloc v).heap[w.heap.size+3]?=some u/\(((((w.alloc x).alloc y).alloc z).alloc u).alloc v).heap[w.heap.size+4]?=some v:=by
 obtain⟨d,f,g⟩:=EO w x y z;obtain⟨a,b⟩:=Kp (((w.alloc x).alloc y).alloc z) u v;have e:(((w.alloc x).alloc y).alloc z).heap.size=w.heap.size+3:=by simp
 have old:∀{k:Nat}{o:Obj},(((w.alloc x).alloc y).alloc z).heap[k]?=some o->(((((w.alloc x).alloc y).alloc z).alloc u).alloc v).heap[k]?=some o:=by
  intro k o h;have c:=lt_of_block h;rw[heap_alloc_old _ _ (by simp at c ⊢;omega),heap_alloc_old _ _ c];exact h
 rw[e] at a b;exact⟨old d,old f,old g,a,b⟩
def MW(w:World)(base p:Nat)(v:Value)(l:List UInt8)(x low high:Int)(at_ n:Nat)(fa:Int)(e:Ending)(w':World):Prop:=
 aA (fun k=>k=p) w w'/\if low≤x/\x≤high then e=.returned (.int .i64 x)/\Rdr w' base p v l (at_+n) 0 fa else e=.returned (.int .i64 0)/\Rdr w' base p v l at_ 5 at_
def pS(w:World)(p:Nat)(n low high:Int):World:=
 ((((w.alloc (.cells #[.pointer p] 249)).alloc (.cells #[.int .i64 n] 3)).alloc (.cells #[.int .i64 low] 3)).alloc (.cells #[.int .i64 high] 3)).alloc (.cells #[.int .i64 0] 3)
theorem CZ(w:World)(p:Nat)(n low high:Int):aA aB w (pS w p n low high):=(((((aA.refl _ _).alloc _).alloc _).alloc _).alloc _).alloc _
theorem Kq(w:World)(p:Nat)(n low high:Int)(e:p<w.heap.size):xF (pS w p n low high) p (w.heap.size+1) w.heap.size (w.heap.size+2) (w.heap.size+3) (w.heap.size+4) n low high:=by
 obtain⟨a,b,c,b3,d⟩:=Qc w (.cells #[.pointer p] 249) (.cells #[.int .i64 n] 3) (.cells #[.int .i64 low] 3) (.cells #[.int .i64 high] 3) (.cells #[.int .i64 0] 3);exact⟨b,a,c,b3,d,by omega,by omega,by omega,by omega,by omega⟩
theorem iF(w:World)(base p:Nat)(v:Value)(l:List UInt8)(at_:Nat)(fa:Int)(h:Rdr w base p v l at_ 0 fa)(n:Nat)(low high:Int)(E:1≤n)(F:n≤6)(I:at_+n≤l.length)(x:Nat)(t:beN ((l.drop at_).take n)=x) :
 Calls prog 168 #[.pointer p,.int .i64 n,.int .i64 low,.int .i64 high] w (MW w base p v l x low high at_ n fa):=by
 have H:∀(z:Fn) (first j:Array Value) (w:World),(Instr.makeFunc z first j).run prog w=.ok (.func z first j) w:=fun _ _ _ _=>rfl
 have q:=lt_of_block h.blk;have d:=Kq w p n low high q;have g:=CZ w p n low high;have o:=(h.keep g id (fun _ _=>id))
 have m:=jB (pS w p n low high) p;have c1:=MV (lY (pS w p n low high) p) base p v l at_ fa (o.keep m id (fun _ _=>id)) _ _ _ _ _ n low high E F I (d.keep m) x t;have J:=O h;have K:=O t
 by_cases b:low≤(x:Int)/\(x:Int)≤high
 ·have c2:Calls prog 220 #[.pointer (some ⟨w.heap.size+1,0,none⟩),.pointer (w.heap.size),.pointer (some ⟨w.heap.size+2,0,none⟩),.pointer (some ⟨w.heap.size+3,0,none⟩),.pointer (some ⟨w.heap.size+4,0,none⟩)]
   (lY (pS w p n low high) p) (EL (Iy (lY (pS w p n low high) p) (w.heap.size+4) base p v l x (at_+n) fa)):=c1.mono fun e w' r=>by unfold yY at r;rwa [if_pos b] at r
  have C:=O (EM (pS w p n low high) base p v l at_ fa o 220 _ (fun _=>rfl) _ c2);have u:=O (g.trans m);clear h t d g o m c1 c2;go_in;go_wp2_with fail;refine C.out.mono ?_;rintro e w2 ⟨rfl,d,a,f⟩;clear C;have D:=aC (i:=0) (v:=.int .i64 x) d rfl;have y:=O a;have c:=O f;clear d a f;go_wp2;go_ret;refine⟨u.trans' c.out (fun _ _ h=>h.elim) (fun i G e=>?_),?_⟩
  ·rcases e with e|e
   ·exact e
   ·omega
  ·rw[if_pos b];exact⟨rfl,y.out⟩
 ·have c2:Calls prog 220 #[.pointer (some ⟨w.heap.size+1,0,none⟩),.pointer (w.heap.size),.pointer (some ⟨w.heap.size+2,0,none⟩),.pointer (some ⟨w.heap.size+3,0,none⟩),.pointer (some ⟨w.heap.size+4,0,none⟩)]
   (lY (pS w p n low high) p) (Iw 5 at_ (aA aB (lY (pS w p n low high) p))):=c1.mono fun e w' r=>by unfold yY at r;rwa [if_neg b] at r
  have C:=O (Ko (pS w p n low high) base p v l at_ fa o 220 _ (fun _=>rfl) _ _ c2);have A:=O d;have u:=O g;clear h t d g o m c1 c2;go_in;go_wp2_with fail;refine C.out.mono ?_;rintro e w2 ⟨rfl,a,f⟩;clear C;have D:=aC (i:=0) (v:=.int .i64 0) (f.blk A.o (by omega)) rfl;have y:=O a;have c:=O f;clear a f;go_wp2;go_ret;refine⟨u.trans' c.out (fun _ _ h=>h.elim) (fun i G e=>e),?_⟩;rw[if_neg b];exact⟨rfl,y.out⟩
theorem Gd(w:World)(base p:Nat)(v:Value)(l:List UInt8)(at_:Nat)(fe fa:Int)(h:Rdr w base p v l at_ fe fa)(a:fe≠0)(n low high:Int) :
 Calls prog 168 #[.pointer p,.int .i64 n,.int .i64 low,.int .i64 high] w (fun e w'=>e=.returned (.int .i64 0)/\Rdr w' base p v l at_ fe fa/\aA aB w w'):=by
 have t:∀(j:Fn) (first b:Array Value) (w:World),(Instr.makeFunc j first b).run prog w=.ok (.func j first b) w:=fun _ _ _ _=>rfl
 have c:=lt_of_block h.blk;have m:=Kq w p n low high c;have f:=CZ w p n low high;have g:=(h.keep f id (fun _ _=>id))
 have d:=jB (pS w p n low high) p;have C:=O (Bm (pS w p n low high) base p v l at_ fe fa g a (.func (.func 220) #[] #[.pointer (some ⟨w.heap.size+1,0,none⟩),.pointer (w.heap.size),.pointer (some ⟨w.heap.size+2,0,none⟩),.pointer (some ⟨w.heap.size+3,0,none⟩),.pointer (some ⟨w.heap.size+4,0,none⟩)]));have o:=O (m.keep d);have q:=O (f.trans d);have r:=O (g.keep d id (fun _ _=>id));have u:=O a;clear h m f g d a;go_in;go_wp2_with fail;refine C.out.mono ?_;rintro e w2 ⟨rfl,rfl⟩;clear C;have y:=aC (i:=0) (v:=.int .i64 0) o.o rfl;go_wp2;go_ret;exact⟨rfl,r.out,q.out⟩
theorem Kr(w:World):(zeroValue 254).run prog w=.ok (.agg #[.int .i64 0,.int .i64 0]) w:=by kernel_rfl
theorem xG(w:World)(base p:Nat)(v:Value)(l:List UInt8)(at_:Nat)(fe fa:Int)(h:Rdr w base p v l at_ fe fa) :
 Calls prog 169 #[.pointer p] w (fun e w'=>e=.returned (.agg #[.int .i64 fe,.int .i64 fa])/\aA aB w w'):=by
 have K:aA aB w (w.alloc (.cells #[.int .i64 0,.int .i64 0] 254)):=(aA.refl _ _).alloc _;have y:=h.keep K id (fun _ _=>id);have C:=O (sB _ base p v l at_ fe fa y);have D:=O y;have E:=O K;have A:=lt_of_block h.blk;clear h y K;obtain⟨c,a⟩:∃c:List Value,c=[.int .i64 fe,.int .i64 fa]:=⟨_,rfl⟩
 have b:c.length=2:=by rw[a];rfl
 have z:∀u∈c,u.oneCell'=true:=by rw[a];simp[Value.oneCell']
 have m:(w.alloc (.cells #[.int .i64 0,.int .i64 0] 254)).rangeAt p 3 c:=by
  obtain⟨-,-,-,c3,F,-⟩:=D.cells;intro j u d;rw[a] at d
  match j,d with
  | 0,d=>cases d;exact c3
  | 1,d=>cases d;exact F
 have t:=O a;have r:=O m;clear a m;go_in
 go_wp2_with (first
  | (refine aG rfl 254 rfl _ Kr #[.int .i64 0,.int .i64 0] rfl ?_))
 refine C.out.mono ?_;rintro e H ⟨rfl,rfl⟩
 go_wp2_with (first
  | ((with_reducible show WL (some 9) (.load 254 (.tmp 8)));refine wpList_load_mid rfl 254 (.tmp 8) rfl p 3 rfl c _ r.out underlying254 rfl (by rw[b];exact gA) ?_)
  | ((with_reducible show WL none (.store 254 (.tmp 2) (.tmp 9)));refine aE rfl 254 (.tmp 2) (.tmp 9) rfl w.heap.size 0 c rfl rfl _ _ (heap_alloc_new _ _) (by rw[b];decide) (by rw[b];exact gA) z ?_;intro w2 f g;have o:=O f;have q:=O g;clear f g))
 refine bodyPost_ret (results_cell_row rfl _ _ w.heap.size _ _ _ _ rfl o.out underlying254 rfl (by rw[cU];exact gA)) rfl ⟨?_,?_⟩
 ·rw[aI _ _ (by rw[b];rfl),t.out]
 ·exact E.tT q.out (fun i G e=>by omega)
end
end Go.Proofs.YtoeinblfcbpcmaaGreatDoor
