import Derived.Test.YtoeinblfcbpcmaaGreatDoorC9
import Derived.Conc.LoneCalls
import Derived.Conc.LoneSelect
import Derived.KernelRfl
import Derived.Laws.Rows
namespace Go.Proofs.YtoeinblfcbpcmaaGreatDoor
open Tryz
set_option maxHeartbeats 0
set_option maxRecDepth 100000
set_option linter.unusedVariables false
section
open Go.RowKit Go.Maps Go.ChangeMaps
def Mt(w:World)(b:Nat)(c:Nat->Option Nat)(D:Nat)(M:List Ad)(e:Ending)(w':World):Prop:=e=.returned (.tuple #[])/\bT w' b c D M/\aA (fun k=>k=b) w w'
variable{T:Nat->Prop}{w w':World}{g S a n lo b D:Nat}{l:List Int}{c:Nat->Option Nat}{v:Option Addr}{L:List Ad}{x:Ad}
theorem CQ(w:World)(b D:Nat)(c:Nat->Option Nat)(L M:List Ad)(h:bT w b c D L)(d s:Nat)(C:d<D)(I:s<4096)
 (B:∀e t,e<D->t<4096->dX M e t=(dX L e t != (decide (e=d) && decide (t=s)))) :
 Calls prog 96 #[.pointer (some ⟨b,d*65,none⟩),.int .i64 (s:Int)] w (Mt w b c D M):=by
 obtain⟨x,i,-⟩:=h.word C I;have f:=O (h.flip C I i B);have j:=h.free (d*65+s / 64);obtain⟨q,k⟩:=zX9 (s / 64)
 obtain⟨r,p⟩:=zX9 (s % 64)
 have G:q<64:=by omega
 have m:r<64:=by omega
 rw[k] at i j f;rw[p] at f;have J:=OL r m;have A:=Mq x (BitVec.twoPow 64 r);unfold wv at i f;obtain⟨xv,z⟩:∃n:Int,(x.toNat:Int)=n:=⟨_,rfl⟩
 obtain⟨Z,y⟩:∃n:Int,((BitVec.twoPow 64 r).toNat:Int)=n:=⟨_,rfl⟩
 obtain⟨rv,u⟩:∃n:Int,((x ^^^ BitVec.twoPow 64 r).toNat:Int)=n:=⟨_,rfl⟩
 rw[z] at i A;rw[y] at J A;rw[u] at A f;obtain⟨o,F⟩:=zX9 (d*65)
 rw[F] at i j f ⊢;have Y:(s:Int) / 64=(q:Int):=by omega
 have X:(s:Int) % 64=(r:Int):=by omega
 have U:(0:Int)≤(s:Int):=by omega
 have H:(s:Int).tdiv 64=(q:Int):=by rw[Int.tdiv_eq_ediv_of_nonneg (by omega)];omega
 have E:(s:Int).tmod 64=(r:Int):=by rw[Int.tmod_eq_emod_of_nonneg (by omega)];omega
 have V:IntKind.i64.wrap (q:Int)=(q:Int):=by rw[IntWalk.i64_in _ (by omega)]
 have W:IntKind.i64.wrap (r:Int)=(r:Int):=by rw[IntWalk.i64_in _ (by omega)]
 have K:(0:Int)≤(q:Int):=by omega
 have N:(q:Int)<64:=by omega
 have P:(0:Int)≤(r:Int):=by omega
 have Q:(r:Int)<64:=by omega
 have R:(r:Int).toNat=r:=by omega
 clear h z y u F k p B;go_in
 go_still_tail 14,(by kernel_rfl)
 go_wp2_with fail
 go_end0
 exact⟨rfl,f.1.keep (aA.refl aB _).drew id,f.2.drew⟩
def fX(w:World)(g S:Nat)(l:List Int):Prop:=∃s r,w.heap[g]?=some (.chan S (l.map fun x=>Value.int .i64 x).toArray false s r false)
theorem fX.keep(h:fX w g S l)(k:aA T w w')(e:¬T g):fX w' g S l:=by
 obtain⟨s,r,d⟩:=h;exact⟨s,r,k.blk d e⟩
theorem fX.lt(h:fX w g S l):g<w.heap.size:=by
 obtain⟨s,r,d⟩:=h;exact(Array.getElem?_eq_some_iff.1 d).1
theorem wW{a:World}(h:aA T a w){c:Nat}(p:c<a.heap.size->T c)(f:Nat)(d:Array Value)(o:Bool)(s r:Nat)(q:Bool):aA T a (w.setChan c f d o s r q):=by
 refine⟨h.os,h.tape,h.output,by rw[Go.Conc.size_setChan];exact h.size,fun k j m=>?_⟩;have i:c≠k:=fun e=>m (e▸p (e▸j))
 rw[←h.block k j m];simp[World.setChan,Array.getElem?_setIfInBounds_ne i]
open Go.Conc in
def Eu(w:World)(g S:Nat)(x:Int)(r:List Int)(e:Ending)(w':World):Prop:=e=.returned (.tuple #[.int .i64 x,.bool true])/\fX w' g S r/\aA (fun k=>k=g) w w'
open Go.Conc in
theorem JZ(w:World)(b o g S:Nat)(x:Int)(r:List Int)(y:w.cell? ⟨b,o+64,none⟩=some (.chan (some g)))(h:fX w g S (x::r)) :
 Calls prog 95 #[.pointer (some ⟨b,o,none⟩)] w (Eu w g S x r):=by
 obtain⟨s,t,q⟩:=h
 have j:Eu w g S x r (.returned (.tuple #[.int .i64 x,.bool true])) (w.setChan g S ((((x::r).map fun x=>Value.int .i64 x).toArray).extract 1 (((x::r).map fun x=>Value.int .i64 x).toArray).size) false s (t+1) false):=by
  refine⟨rfl,⟨s,t+1,?_⟩,wW (T:=fun k=>k=g) (aA.refl _ _) (fun _=>rfl) _ _ _ _ _ _⟩;rw[heap_setChan _ _ _ _ _ _ _ _ (Array.getElem?_eq_some_iff.1 q).1]
  congr 2
  simp[List.take_of_length_le]
 have f:=O j;clear j;have m:(((x::r).map fun x=>Value.int .i64 x).toArray).getD 0 undef=.int .i64 x:=rfl;have p:0<(((x::r).map fun x=>Value.int .i64 x).toArray).size:=by simp
 obtain⟨d,i⟩:=zX9 (((x::r).map fun x=>Value.int .i64 x).toArray)
 rw[i] at q m p f;clear i;refine calls_of_loneTo fun u=>?_
 have e:Frame.enter prog 95 #[.pointer (some ⟨b,o,none⟩)] .normal=(base 95).at ⟨#[.pointer (some ⟨b,o,none⟩),undef,undef,undef,undef,undef,undef,undef,undef,undef,undef,undef,undef,undef],[]⟩ [.code (f95.body.getD .skip)]:=by
  simp[Frame.enter,Frame.at,func95,base,f95]
 rw[e];refine LoneTo.goes (n:=40) ?_;simp only[f95,Option.getD_some]
 s_c stepG_seq
 s_reg
 s_op
 s_op
 s_c stepG_region_end
 s_c stepG_seq
 s_reg
 s_op
 s_op
 s_op
 s_op
 s_c stepG_region_end
 s_c stepG_seq
 s_reg
 s_stop
 refine LoneTo.step (step_lone_select_recv_buf (c:=g) (z:=.int .i64 0) (cap:=S) (buf:=d) (closed:=false) (s:=s) (r:=t) (tm:=false) (stepG_comm (cases:=#[rcase g (.int .i64 0)]) (blocking:=false) (shape:=.select) (w':=w) rfl rfl (by decide) (by simp[go_sem,execOp,rcase,Act.eval])) q p) ?_;rw[Frame.finish_at,m]
 walk_nrm
 refine LoneTo.goes (n:=40) ?_
 s_op
 s_op
 s_c stepG_region_end
 s_c stepG_block
 s_cond true
 s_c stepG_seq
 s_reg
 s_op
 s_op
 s_c stepG_region_end
 s_c stepG_seq
 s_reg
 s_op
 s_op
 s_op
 s_c stepG_region_end
 s_c stepG_ret'
 s_stop
 exact LoneTo.done ⟨.returned (.tuple #[.int .i64 x,.bool true]),_,rfl,f.out,rfl,rfl,rfl,rfl,_,func95,by simp[results,f95,Frame.at]⟩
theorem Mu:∃i,prog.info? 3=some i/\i.bytes=8:=by
 have h:(prog.info? 3).map (·.bytes)=some 8:=by kernel_rfl
 obtain⟨i,e,d⟩:=Option.map_eq_some_iff.1 h;exact⟨i,e,d⟩
open Go.Conc in
theorem P0(w:World)(S:Nat)(f:S≤4096):(Instr.makeChan 156 (.int .i64 (S:Int))).run prog w=.ok (.chan (some w.heap.size)) (w.alloc (.chan S #[] false 0 0 false)):=by
 obtain⟨i,e,d⟩:=Mu
 simpa using run_makeChan (P:=prog) (w:=w) underlying156 e .i64 S (by omega) (by rw[d];omega)
open Go.Conc in
theorem J0{P:Program}{Q e:Goroutine->World->Prop}{g:Goroutine}(h:LoneTo P Q g w)(f:∀d w',Q d w'->e d w'):LoneTo P e g w:=
 let ⟨d,w',s,q⟩:=h
 ⟨d,w',s,f _ _ q⟩
def Be:Code->Code|.seq _ b=>b|c=>c
def Cg:Code->Code|.block _ c=>c|c=>c
def Ev:Code->Code|.loop c=>c|c=>c
noncomputable def uO:Code:=Ev (Cg (Be (Be (f212.body.getD .skip))))
open Go.Conc in
def QF(h:List Frame)(j:World)(b:Nat)(c:Nat->Option Nat)(D:Nat)(L:List Ad)(d S g:Nat)(i:Goroutine)(w':World):Prop:=
 ∃e f,i=G f h/\(e=.returned (.tuple #[])/\bT w' b c D L/\fX w' g S (aZ L d S)/\aA (fun k=>k=b\/k=g) j w')/\f.fn=212/\f.leaving prog w' e
open Go.Conc in
theorem J1(w0:World)(b o D g d S:Nat)(c:Nat->Option Nat)(L:List Ad)(cs:List Frame)(ho:d*65=o)(hd:d<D)(hS:S≤4096)(qc:c d=some g)(qk:g≠b):∀(m:Nat) (w:World) (K:Nat) (j5 j6 j7 j8 j9 y z A B C E F H I J M N P Q:Value),K+m=S->5≤K->bT w b c D L->fX w g S (aZ L d K)->aA (fun k=>k=b\/k=g) w0 w ->
 LoneTo prog (QF cs w0 b c D L d S g) (G ((base 212).at ⟨#[.pointer (some ⟨b,o,none⟩),.int .i64 (S:Int),undef,undef,.int .i64 (K:Int),j5,j6,j7,j8,j9,y,z,A,B,C,E,F,H,I,J,M,N,P,Q],[]⟩ [.code uO,.inLoop uO,.inBlock 0]) cs) w:=by
 intro m
 induction m with
 | zero =>
   intro w K j5 j6 j7 j8 j9 y z A B C E F H I J M N P Q hK h5 R i hk;obtain rfl:K=S:=by omega
   refine LoneTo.goes (n:=30) ?_;simp only[uO,f212,Option.getD_some,Be,Cg,Ev]
   s_c stepG_seq
   s_c stepG_seq
   s_reg
   s_op
   s_op
   s_op
   s_c stepG_region_end
   s_cond false
   s_exit
   s_c stepG_end
   s_stop
   exact LoneTo.done ⟨.returned (.tuple #[]),_,rfl,⟨rfl,R,i,hk⟩,rfl,rfl,rfl,rfl,_,func212,by simp[results,f212,Frame.at]⟩
 | succ m ih =>
   intro w K j5 j6 j7 j8 j9 y z A B C E F H I J M N P Q hK h5 R i hk;have qr:K<S:=by omega
   have ql:(K:Int)<(S:Int):=by omega
   obtain⟨x,hc,hx⟩:=R.word (d:=d) (s:=K) hd (by omega);have qa:=R.chan hd;rw[qc] at qa;obtain⟨q,qe⟩:=zX9 (K / 64)
   obtain⟨r,qf⟩:=zX9 (K % 64)
   have qn:q<64:=by omega
   have qp:r<64:=by omega
   rw[qe] at hc;rw[qf] at hx;have h1:=GO x r;have h2:=Et (x >>> r) 1#64;have Z:=GP x r;rw[hx] at Z;obtain⟨xv,qj⟩:∃n:Int,(x.toNat:Int)=n:=⟨_,rfl⟩
   obtain⟨sv,qh⟩:∃n:Int,((x >>> r).toNat:Int)=n:=⟨_,rfl⟩
   obtain⟨rv,qg⟩:∃n:Int,((x >>> r &&& 1#64).toNat:Int)=n:=⟨_,rfl⟩
   obtain⟨bb,t⟩:=zX9 (dX L d K)
   have e1:(((1#64:BitVec 64).toNat:Nat):Int)=1:=rfl;unfold wv at hc;rw[e1] at h2;rw[qj] at hc h1;rw[qh] at h1 h2;rw[qg] at h2 Z;rw[t] at Z;have qq:(rv == 1)=bb:=Z;rw[ho] at hc qa;have hq:(K:Int) / 64=(q:Int):=by omega
   have hm:(K:Int) % 64=(r:Int):=by omega
   have qx:(0:Int)≤(K:Int):=by omega
   have qo:(K:Int).tdiv 64=(q:Int):=by rw[Int.tdiv_eq_ediv_of_nonneg (by omega)];omega
   have qm:(K:Int).tmod 64=(r:Int):=by rw[Int.tmod_eq_emod_of_nonneg (by omega)];omega
   have qz:IntKind.i64.wrap (q:Int)=(q:Int):=by rw[IntWalk.i64_in _ (by omega)]
   have q0:IntKind.i64.wrap (r:Int)=(r:Int):=by rw[IntWalk.i64_in _ (by omega)]
   have qy:IntKind.i64.wrap ((K:Int)+1)=((K+1:Nat):Int):=by rw[IntWalk.i64_in _ (by omega)];omega
   have qt:(0:Int)≤(q:Int):=by omega
   have qu:(q:Int)<64:=by omega
   have qv:(0:Int)≤(r:Int):=by omega
   have qw:(r:Int)<64:=by omega
   have Y:=O (zT L d K);have W:Hid (iS L d K=!bb):=O (by unfold iS;rw[decide_eq_true h5,t];rfl);have X:Hid ((aZ L d K).length<S):=O (by have:=uM L d K;omega);have HW:=O R;have V:=O i;have HK:=O hk;clear R i hk hx qj qh qg t e1 qe qf Z qc;refine LoneTo.goes (n:=90) ?_;simp only[uO,f212,Option.getD_some,Be,Cg,Ev]
   s_c stepG_seq
   s_c stepG_seq
   s_reg
   s_op
   s_op
   s_op
   s_c stepG_region_end
   s_cond true
   s_c stepG_skip
   s_c stepG_seq
   s_c stepG_block
   s_c stepG_seq
   s_reg
   s_op
   s_op
   s_call func156 (by kernel_rfl) f156
   s_c stepG_seq
   s_reg
   s_op
   s_c stepG_region_end
   s_c stepG_seq
   s_reg
   s_op
   s_op
   s_op
   s_op
   s_op
   s_op
   s_op
   s_op
   s_op
   s_op
   s_op
   s_op
   s_op
   s_c stepG_region_end
   s_c stepG_ret'
   s_leave1 func156
   s_op
   s_c stepG_region_end
   cases bb
   ·s_cond true
    s_reg
    s_op
    s_op
    s_op
    s_op
    s_op
    s_stop
    obtain⟨sn,rn,hg⟩:=V.out;have f:(((aZ L d K).map fun x=>Value.int .i64 x).toArray).size<S:=by rw[List.size_toArray,List.length_map];exact X.out
    refine LoneTo.step (step_lone_send_room (c:=g) (cap:=S) (v:=.int .i64 (K:Int)) (z':=.tuple #[]) (buf:=((aZ L d K).map fun x=>Value.int .i64 x).toArray) (s:=sn) (r:=rn) (tm:=false) (stepG_comm (cases:=#[scase g (.int .i64 (K:Int)) (.tuple #[])]) (blocking:=true) (shape:=.send) (w':=w) rfl rfl (by decide) (by simp[go_sem,execOp,scase,Act.eval])) hg f) ?_;have u:=wW (T:=fun k=>k=g) (aA.refl _ w) (fun _=>rfl) S (((aZ L d K).map fun x=>Value.int .i64 x).toArray.push (.int .i64 (K:Int))) false (sn+1) rn false
    have j:fX (w.setChan g S (((aZ L d K).map fun x=>Value.int .i64 x).toArray.push (.int .i64 (K:Int))) false (sn+1) rn false) g S (aZ L d (K+1)):=by
     refine⟨sn+1,rn,?_⟩;rw[heap_setChan _ _ _ _ _ _ _ _ (Array.getElem?_eq_some_iff.1 hg).1,Y.out,W.out]
     congr 2
     simp
    have qi:=HW.keep u (fun e=>qk e.symm);have qd:=HK.trans' u (U:=fun k=>k=b\/k=g) (fun _ _ h=>h) (fun _ _ h=>.inr h);have HZ:=O (And.intro qi (And.intro j qd));obtain⟨w2,p⟩:=zX9 (w.setChan g S (((aZ L d K).map fun x=>Value.int .i64 x).toArray.push (.int .i64 (K:Int))) false (sn+1) rn false)
    rw[p] at HZ ⊢;clear u j qi qd p hg f;rw[Frame.finish_at]
    walk_nrm
    refine LoneTo.goes (n:=40) ?_
    s_c stepG_region_end
    s_c stepG_inBlock
    s_reg
    s_op
    s_op
    s_op
    s_c stepG_region_end
    s_c stepG_inLoop
    s_stop
    exact ih w2 (K+1) _ _ _ _ _ _ _ _ _ _ _ _ _ _ _ _ _ _ _ (by omega) (by omega) HZ.1 HZ.2.1 HZ.2.2
   ·s_cond false
    s_c stepG_skip
    s_c stepG_inBlock
    s_reg
    s_op
    s_op
    s_op
    s_c stepG_region_end
    s_c stepG_inLoop
    s_stop
    exact ih w (K+1) _ _ _ _ _ _ _ _ _ _ _ _ _ _ _ _ _ _ _ (by omega) (by omega) HW.out (by rw[Y.out,W.out];simpa using V.out) HK.out
def Mv(w:World)(b:Nat)(c:Nat->Option Nat)(D:Nat)(L:List Ad)(d S:Nat)(e:Ending)(w':World):Prop:=
 e=.returned (.tuple #[])/\∃g,bT w' b (fun e=>if e=d then some g else c e) D L/\fX w' g S (aZ L d S)/\w.heap.size≤g/\aA (fun k=>k=b) w w'
open Go.Conc in
theorem J2(w:World)(b D:Nat)(c:Nat->Option Nat)(L:List Ad)(h:bT w b c D L)(d S:Nat)(u:d<D)(P:5≤S)(C:S≤4096) :
 Calls prog 212 #[.pointer (some ⟨b,d*65,none⟩),.int .i64 (S:Int)] w (Mv w b c D L d S):=by
 have E:=h.lt;have m:=(aA.refl aB w).alloc (.chan S #[] false 0 0 false);obtain⟨s,o⟩:=zX9 (w.alloc (.chan S #[] false 0 0 false))
 have y:s.heap[w.heap.size]?=some (.chan S #[] false 0 0 false):=by rw[←o];exact heap_alloc_new w _
 rw[o] at m;have r:=h.keep m id;have j:=r.lay u (some w.heap.size);have Q:=r.chan u;have V:=r.free (d*65+64);have A:=P0 w S C;rw[o] at A
 have e:Frame.enter prog 212 #[.pointer (some ⟨b,d*65,none⟩),.int .i64 (S:Int)] .normal=(base 212).at ⟨#[.pointer (some ⟨b,d*65,none⟩),.int .i64 (S:Int),undef,undef,undef,undef,undef,undef,undef,undef,undef,undef,undef,undef,undef,undef,undef,undef,undef,undef,undef,undef,undef,undef],[]⟩ [.code (f212.body.getD .skip)]:=by
  simp[Frame.enter,Frame.at,func212,base,f212]
 refine calls_of_loneTo fun F=>?_
 rw[e];clear e;have f:=O j;clear j r;refine LoneTo.goes (n:=40) ?_;simp only[f212,Option.getD_some]
 s_c stepG_seq
 s_reg
 s_op
 s_op
 s_op
 s_op
 s_op
 s_op
 s_c stepG_region_end
 s_c stepG_seq
 s_reg
 s_op
 s_c stepG_region_end
 s_c stepG_block
 s_c stepG_loop
 s_stop
 obtain⟨q,B⟩:=zX9 (s.setCell ⟨b,d*65+64,none⟩ (.chan (some w.heap.size)))
 rw[B] at f ⊢;have p:w.heap.size≠b:=by omega
 have z:=f.2.blk y p;have t:fX q w.heap.size S (aZ L d 5):=⟨0,0,by rw[F6];exact z⟩
 refine J0 (J1 q b (d*65) D w.heap.size d S (fun e=>if e=d then some w.heap.size else c e) L F rfl u C (if_pos rfl) p (S-5) q 5 _ _ _ _ _ _ _ _ _ _ _ _ _ _ _ _ _ _ _ (by omega) (by omega) f.1 t (aA.refl _ _)) ?_;rintro W w' ⟨e,G,R,⟨H,I,J,K⟩,M,N⟩;exact⟨e,G,R,⟨H,w.heap.size,I,J,Nat.le_refl _,(m.trans' f.2 (U:=fun k=>k=b) (fun _ _ h=>h.elim) (fun _ _ h=>h)).trans' K (U:=fun k=>k=b) (fun _ _ h=>h) (fun i X h=>h.elim id (fun e=>by omega))⟩,M,N⟩
def iC(w:World)(a:Nat)(S:Int)(v:Option Addr)(n:Nat):Prop:=w.heap[a]?=some (.cells #[.int .i64 S,.slice v n n] 161 (0,0))
theorem iC.keep{S:Int}(h:iC w a S v n)(k:aA T w w')(d:¬T a):iC w' a S v n:=k.blk h d
theorem iC.c0{S:Int}(h:iC w a S v n):w.cell? ⟨a,0,none⟩=some (.int .i64 S):=aC h rfl
theorem iC.c1{S:Int}(h:iC w a S v n):w.cell? ⟨a,1,none⟩=some (.slice v n n):=aC h rfl
structure dA(w:World)(lo a b:Nat)(c:Nat->Option Nat)(D S:Nat)(L:List Ad):Prop where
 top:iC w a (S:Int) (some ⟨b,0,none⟩) D
 words:bT w b c D L
 chans:∀d,d<D->∃g,c d=some g/\fX w g S (aZ L d S)
 inj:∀d e g,d<D->e<D->c d=some g->c e=some g->d=e
 bd:2≤D/\D≤8/\8≤S/\S≤4096
 lo:lo≤a/\lo≤b/\∀d g,d<D->c d=some g->lo≤g
def Own(a b:Nat)(c:Nat->Option Nat)(D:Nat)(k:Nat):Prop:=k=a\/k=b\/∃d,d<D/\c d=some k
theorem dA.keep(h:dA w lo a b c D S L)(k:aA T w w')(f:∀i,T i->¬Own a b c D i):dA w' lo a b c D S L:=
 ⟨h.top.keep k (fun e=>f _ e (.inl rfl)),h.words.keep k (fun e=>f _ e (.inr (.inl rfl))),fun d m=>by
  obtain⟨g,j,o⟩:=h.chans d m;exact⟨g,j,o.keep k fun e=>f _ e (.inr (.inr ⟨d,m,j⟩))⟩,h.inj,h.bd,h.lo⟩
theorem dA.keep0(h:dA w lo a b c D S L)(k:aA aB w w'):dA w' lo a b c D S L:=h.keep k fun _ h=>h.elim
theorem dA.congr{M:List Ad}(h:dA w lo a b c D S L)(e:∀x,x∈L↔x∈M):dA w lo a b c D S M:=
 ⟨h.top,h.words.congr e,fun d j=>by
  obtain⟨g,f,i⟩:=h.chans d j;exact⟨g,f,by rw[←mV fun s _ _=>zU e d s];exact i⟩,h.inj,h.bd,h.lo⟩
theorem dA.own_lt(h:dA w lo a b c D S L){k:Nat}(m:Own a b c D k):lo≤k/\k<w.heap.size:=by
 rcases m with rfl|rfl|⟨d,i,f⟩
 ·exact⟨h.lo.1,(Array.getElem?_eq_some_iff.1 h.top).1⟩
 ·exact⟨h.lo.2.1,h.words.lt⟩
 ·obtain⟨g,e,j⟩:=h.chans d i
  rw[f] at e;cases e
  exact⟨h.lo.2.2 d k i f,j.lt⟩
theorem Ew(h:fL x D S=true):∃d s:Nat,x=⟨(d:Int),(s:Int)⟩/\d<D/\5≤s/\s<S:=by
 obtain⟨f,i⟩:=x;unfold fL at h;simp only[Bool.and_eq_true,decide_eq_true_eq] at h;obtain⟨⟨⟨⟨⟨⟨⟨j,k⟩,m⟩,o⟩,e⟩,p⟩,q⟩,r⟩:=h;exact⟨f.toNat,i.toNat,by rw[Int.toNat_of_nonneg e,Int.toNat_of_nonneg (by omega)],by omega,by omega,by omega⟩
theorem OO{d s:Nat}(f:2≤D/\D≤8/\8≤S/\S≤4096)(h:d<D)(e:5≤s)(i:s<S):fL ⟨(d:Int),(s:Int)⟩ D S=true:=by
 unfold fL;simp only[Bool.and_eq_true,decide_eq_true_eq];refine⟨⟨⟨⟨⟨⟨⟨?_,?_⟩,?_⟩,?_⟩,?_⟩,?_⟩,?_⟩,?_⟩<;>omega
theorem Ch(k:2≤D/\D≤8/\8≤S/\S≤4096):fL x D S=true↔bW x D S:=by
 constructor
 ·intro h
  obtain⟨d,s,rfl,e,f,i⟩:=Ew h;exact⟨by show (0:Int)≤(d:Int);omega,by show (d:Int)<(D:Int);omega,by show (5:Int)≤(s:Int);omega,by show (s:Int)<(S:Int);omega⟩
 ·rintro⟨e,f,i,j⟩
  unfold fL;simp only[Bool.and_eq_true,decide_eq_true_eq];refine⟨⟨⟨⟨⟨⟨⟨?_,?_⟩,?_⟩,?_⟩,?_⟩,?_⟩,?_⟩,?_⟩<;>omega
theorem AA(w:World)(a n:Nat)(S:Int)(v:Option Addr)(h:iC w a S v n):Calls prog 91 #[.pointer a] w fun e w'=>e=.returned (.bool (decide (n=0)))/\w=w':=by
 have i:=h.c1;obtain⟨f,d⟩:=zX9 (decide (n=0))
 have j:((n:Int) == 0)=f:=by
  rw[←d,Bool.eq_iff_iff,beq_iff_eq,decide_eq_true_eq];omega
 rw[d];clear h d;go_in;go_wp2;go_ret;exact⟨rfl,rfl⟩
theorem J3(w:World)(a n:Nat)(Z:Int)(v:Option Addr)(h:iC w a Z v n)(x:Ad):Calls prog 155 #[.pointer a,.agg (aO x).toArray] w fun e w'=>e=.returned (.bool (fL x n Z))/\aA aB w w':=by
 obtain⟨o,C,k,q,B⟩:=aM w (aO x).toArray 93;have h0:=h.keep k id;have z:=h0.c0;have A:=h0.c1;have s:=O q;have t:=O k;obtain⟨H,r⟩:=zX9 (fL x n Z)
 have y:=O (fun w'=>GR x n Z w');rw[r] at y ⊢;unfold adV at y;clear q B h h0 k r;go_in;go_wp2_with fail;clear C;obtain⟨S,i⟩:∃S:World->Prop,S=fun w'=>aA aB o w':=⟨_,rfl⟩
 have d:=O (show ∀w',S w'->aA aB o w' from fun w' h=>by rw[i] at h;exact h);have p:=O (show ∀w',aA aB o w'->S w' from fun w' h=>by rw[i];exact h);have f:S o.drew:=by rw[i];exact(aA.refl _ _).drew
 clear i;refine wp_region_held (S:=S) (by kernel_rfl) ?_;change wpAnyH _ _ _ _ _ _ _ _ o.drew;generalize o.drew=F at f ⊢;refine tkd 0 (.agg (aO x).toArray) rfl (yieldsIf_load_mid (by rfl) 93 (.tmp 3) rfl (w.heap.size) (0) rfl (aO x) _ (fun w' h=>aD ((d w' h).blk s.out id)) bY rfl cK) f ?_;simp only[Act.put,List.setIfInBounds_toArray,List.set_cons_zero,List.set_cons_succ,List.getElem_toArray,List.getElem_cons_zero];refine tna 1 (.pointer a) rfl f ?_;refine tnb 2 (.pointer a) rfl f ?_;refine tnb 3 (.pointer (some ⟨a,1,none⟩)) rfl f ?_;refine tnd 4 (.slice v n n) rfl (.inl ⟨by rfl,fun w' m=>by have c:=(d w' m).cell A id;go_simp⟩) f ?_;refine tnb 5 (.int .i64 n) rfl f ?_;refine tna 6 (.pointer a) rfl f ?_;refine tnb 7 (.pointer a) rfl f ?_;refine tnb 8 (.pointer a) rfl f ?_;refine tnd 9 (.int .i64 Z) rfl (.inl ⟨by rfl,fun w' m=>by have c:=(d w' m).cell z id;go_simp⟩) f ?_;refine wA9 10 ?_;go_wp2_with fail;refine(y _).mono ?_;rintro e G ⟨rfl,E⟩;have j:=p.out _ ((d _ f).trans E);clear f E;go_wp2_with fail;refine⟨j,?_⟩;refine tna 11 (.bool H) rfl j ?_;refine wpAnyH_done (by kernel_rfl) ?_ _;have u:=O (d _ j);clear j d p;have t:=O (t.trans u.out);go_wp2;go_ret;exact⟨rfl,t.out⟩
end
end Go.Proofs.YtoeinblfcbpcmaaGreatDoor
