import Derived.Test.YtiinnfhjpaeffaaGreatA1
import Derived.Test.YtiinnfhjpaeffaaGreatA8
import Derived.Conc.LoneCalls
import Derived.Conc.LoneSelect
import Derived.KernelRfl
import Derived.Laws.Rows
namespace Go.Proofs.YtiinnfhjpaeffaaGreat
set_option maxHeartbeats 64000000
set_option maxRecDepth 100000
set_option linter.unusedVariables false
section
open Go.RowKit Go.Maps Go.ChangeMaps
def J9(w:World)(b:Nat)(c:Nat->Option Nat)(D:Nat)(M:List Ad)(e:Ending)(w':World):Prop:=e=.returned (.tuple #[])/\bP w' b c D M/\aA (fun k=>k=b) w w'
variable{T:Nat->Prop}{w w':World}{g S a n lo b D:Nat}{l:List Int}{c:Nat->Option Nat}{v:Option Addr}{L:List Ad}{x:Ad}
theorem Bc(w:World)(b D:Nat)(c:Nat->Option Nat)(L M:List Ad)(h:bP w b c D L)(d s:Nat)(C:d<D)(I:s<4096)
 (B:∀e t,e<D->t<4096->dY M e t=(dY L e t != (decide (e=d) && decide (t=s)))) :
 Calls Tryz.prog 179 #[.pointer (some ⟨b,d*65,none⟩),.int .i64 (s:Int)] w (J9 w b c D M):=by
 obtain⟨x,i,-⟩:=h.word C I;have f:=O (h.flip C I i B);have j:=h.free (d*65+s / 64);obtain⟨q,k⟩:∃q,s / 64=q:=⟨_,rfl⟩
 obtain⟨r,p⟩:∃q,s % 64=q:=⟨_,rfl⟩
 have G:q<64:=by omega
 have m:r<64:=by omega
 rw[k] at i j f;rw[p] at f;have J:=Mc r m;have A:=J6 x (BitVec.twoPow 64 r);unfold wv at i f;obtain⟨Z,z⟩:∃n:Int,(x.toNat:Int)=n:=⟨_,rfl⟩
 obtain⟨sv,y⟩:∃n:Int,((BitVec.twoPow 64 r).toNat:Int)=n:=⟨_,rfl⟩
 obtain⟨rv,u⟩:∃n:Int,((x ^^^ BitVec.twoPow 64 r).toNat:Int)=n:=⟨_,rfl⟩
 rw[z] at i A;rw[y] at J A;rw[u] at A f;obtain⟨o,F⟩:∃o,d*65=o:=⟨_,rfl⟩
 rw[F] at i j f ⊢;have Y:(s:Int) / 64=(q:Int):=by omega
 have X:(s:Int) % 64=(r:Int):=by omega
 have U:(0:Int)≤(s:Int):=by omega
 have H:(s:Int).tdiv 64=(q:Int):=by rw[Int.tdiv_eq_ediv_of_nonneg (by omega)];omega
 have E:(s:Int).tmod 64=(r:Int):=by rw[Int.tmod_eq_emod_of_nonneg (by omega)];omega
 have V:IntKind.i64.wrap (q:Int)=(q:Int):=by rw[IntWalk.i64_in _ (by omega)]
 have W:IntKind.i64.wrap (r:Int)=(r:Int):=by rw[IntWalk.i64_in _ (by omega)]
 have K:(0:Int)≤(q:Int):=by omega
 have N:(q:Int)<64:=by omega
 have P:(0:Int)≤(r:Int):=by omega
 have Q:(r:Int)<64:=by omega
 have R:(r:Int).toNat=r:=by omega
 clear h z y u F k p B;go_in
 go_still_tail 14,(by kernel_rfl)
 go_wp2_with fail
 go_end0
 exact⟨rfl,f.1.keep (aA.refl aB _).drew id,f.2.drew⟩
def fK(w:World)(g S:Nat)(l:List Int):Prop:=∃s r,w.heap[g]?=some (.chan S (l.map fun x=>Value.int .i64 x).toArray false s r false)
theorem fK.keep(h:fK w g S l)(k:aA T w w')(e:¬T g):fK w' g S l:=by
 obtain⟨s,r,d⟩:=h;exact⟨s,r,k.blk d e⟩
theorem fK.lt(h:fK w g S l):g<w.heap.size:=by
 obtain⟨s,r,d⟩:=h;exact(Array.getElem?_eq_some_iff.1 d).1
theorem uB{a:World}(h:aA T a w){c:Nat}(m:c<a.heap.size->T c)(cap:Nat)(buf:Array Value)(j:Bool)(s r:Nat)(tm:Bool):aA T a (w.setChan c cap buf j s r tm):=by
 refine⟨h.os,h.tape,h.output,by rw[Go.Conc.size_setChan];exact h.size,fun k f i=>?_⟩;have d:c≠k:=fun e=>i (e▸m (e▸f))
 rw[←h.block k f i];simp[World.setChan,Array.getElem?_setIfInBounds_ne d]
open Go.Conc in
def CI(w:World)(g S:Nat)(x:Int)(r:List Int)(e:Ending)(w':World):Prop:=e=.returned (.tuple #[.int .i64 x,.bool true])/\fK w' g S r/\aA (fun k=>k=g) w w'
open Go.Conc in
theorem Ic(w:World)(b o g S:Nat)(x:Int)(r:List Int)(y:w.cell? ⟨b,o+64,none⟩=some (.chan (some g)))(h:fK w g S (x::r)) :
 Calls Tryz.prog 221 #[.pointer (some ⟨b,o,none⟩)] w (CI w g S x r):=by
 obtain⟨s,t,q⟩:=h
 have j:CI w g S x r (.returned (.tuple #[.int .i64 x,.bool true])) (w.setChan g S ((((x::r).map fun x=>Value.int .i64 x).toArray).extract 1 (((x::r).map fun x=>Value.int .i64 x).toArray).size) false s (t+1) false):=by
  refine⟨rfl,⟨s,t+1,?_⟩,uB (T:=fun k=>k=g) (aA.refl _ _) (fun _=>rfl) _ _ _ _ _ _⟩;rw[heap_setChan _ _ _ _ _ _ _ _ (Array.getElem?_eq_some_iff.1 q).1]
  congr 2
  simp[List.take_of_length_le]
 have f:=O j;clear j;have m:(((x::r).map fun x=>Value.int .i64 x).toArray).getD 0 undef=.int .i64 x:=rfl;have p:0<(((x::r).map fun x=>Value.int .i64 x).toArray).size:=by simp
 obtain⟨d,i⟩:∃d,((x::r).map fun x=>Value.int .i64 x).toArray=d:=⟨_,rfl⟩
 rw[i] at q m p f;clear i;refine calls_of_loneTo fun u=>?_
 have e:Frame.enter Tryz.prog 221 #[.pointer (some ⟨b,o,none⟩)] .normal=(base 221).at ⟨#[.pointer (some ⟨b,o,none⟩),undef,undef,undef,undef,undef,undef,undef,undef,undef,undef,undef,undef,undef],[]⟩ [.code (Tryz.f221.body.getD .skip)]:=by
  simp[Frame.enter,Frame.at,Tryz.func221,base,Tryz.f221]
 rw[e];refine LoneTo.goes (n:=40) ?_;simp only[Tryz.f221,Option.getD_some]
 s_c stepG_seq
 s_reg
 s_op
 s_op
 s_c stepG_region_end
 s_c stepG_seq
 s_reg
 s_op
 s_op
 s_op
 s_op
 s_c stepG_region_end
 s_c stepG_seq
 s_reg
 s_stop
 refine LoneTo.step (step_lone_select_recv_buf (c:=g) (z:=.int .i64 0) (cap:=S) (buf:=d) (closed:=false) (s:=s) (r:=t) (tm:=false) (stepG_comm (cases:=#[rcase g (.int .i64 0)]) (blocking:=false) (shape:=.select) (w':=w) rfl rfl (by decide) (by simp[go_sem,execOp,rcase,Act.eval])) q p) ?_;rw[Frame.finish_at,m]
 walk_nrm
 refine LoneTo.goes (n:=40) ?_
 s_op
 s_op
 s_c stepG_region_end
 s_c stepG_block
 s_cond true
 s_c stepG_seq
 s_reg
 s_op
 s_op
 s_c stepG_region_end
 s_c stepG_seq
 s_reg
 s_op
 s_op
 s_op
 s_c stepG_region_end
 s_c stepG_ret'
 s_stop
 exact LoneTo.done ⟨.returned (.tuple #[.int .i64 x,.bool true]),_,rfl,f.out,rfl,rfl,rfl,rfl,_,Tryz.func221,by simp[results,Tryz.f221,Frame.at]⟩
theorem Ka:∃i,Tryz.prog.info? 3=some i/\i.bytes=8:=by
 have h:(Tryz.prog.info? 3).map (·.bytes)=some 8:=by kernel_rfl
 obtain⟨i,e,d⟩:=Option.map_eq_some_iff.1 h;exact⟨i,e,d⟩
open Go.Conc in
theorem Nt(w:World)(S:Nat)(f:S≤4096):(Instr.makeChan 251 (.int .i64 (S:Int))).run Tryz.prog w=.ok (.chan (some w.heap.size)) (w.alloc (.chan S #[] false 0 0 false)):=by
 obtain⟨i,e,d⟩:=Ka
 simpa using run_makeChan (P:=Tryz.prog) (w:=w) Tryz.underlying251 e .i64 S (by omega) (by rw[d];omega)
open Go.Conc in
theorem Id{P:Program}{Q e:Goroutine->World->Prop}{g:Goroutine}(h:LoneTo P Q g w)(f:∀d w',Q d w'->e d w'):LoneTo P e g w:=
 let ⟨d,w',s,q⟩:=h
 ⟨d,w',s,f _ _ q⟩
def yV:Code->Code|.seq _ b=>b|c=>c
def Aw:Code->Code|.block _ c=>c|c=>c
def CJ:Code->Code|.loop c=>c|c=>c
noncomputable def sG:Code:=CJ (Aw (yV (yV (Tryz.f217.body.getD .skip))))
open Go.Conc in
def Oe(cs:List Frame)(w0:World)(b:Nat)(c:Nat->Option Nat)(D:Nat)(L:List Ad)(d S g:Nat)(h:Goroutine)(w':World):Prop:=
 ∃e f,h=G f cs/\(e=.returned (.tuple #[])/\bP w' b c D L/\fK w' g S (aZ L d S)/\aA (fun k=>k=b\/k=g) w0 w')/\f.fn=217/\f.leaving Tryz.prog w' e
open Go.Conc in
theorem Ie(w0:World)(b o D g d S:Nat)(c:Nat->Option Nat)(L:List Ad)(cs:List Frame)(ho:d*65=o)(hd:d<D)(hS:S≤4096)(hcd:c d=some g)(hgb:g≠b):∀(m:Nat) (w:World) (K:Nat) (j5 j6 j7 j8 j9 y z A B C E F H I J M N P Q:Value),K+m=S->5≤K->bP w b c D L->fK w g S (aZ L d K)->aA (fun k=>k=b\/k=g) w0 w ->
 LoneTo Tryz.prog (Oe cs w0 b c D L d S g) (G ((base 217).at ⟨#[.pointer (some ⟨b,o,none⟩),.int .i64 (S:Int),undef,undef,.int .i64 (K:Int),j5,j6,j7,j8,j9,y,z,A,B,C,E,F,H,I,J,M,N,P,Q],[]⟩ [.code sG,.inLoop sG,.inBlock 0]) cs) w:=by
 intro m
 induction m with
 | zero =>
   intro w K j5 j6 j7 j8 j9 y z A B C E F H I J M N P Q hK h5 R i hk;obtain rfl:K=S:=by omega
   refine LoneTo.goes (n:=30) ?_;simp only[sG,Tryz.f217,Option.getD_some,yV,Aw,CJ]
   s_c stepG_seq
   s_c stepG_seq
   s_reg
   s_op
   s_op
   s_op
   s_c stepG_region_end
   s_cond false
   s_exit
   s_c stepG_end
   s_stop
   exact LoneTo.done ⟨.returned (.tuple #[]),_,rfl,⟨rfl,R,i,hk⟩,rfl,rfl,rfl,rfl,_,Tryz.func217,by simp[results,Tryz.f217,Frame.at]⟩
 | succ m ih =>
   intro w K j5 j6 j7 j8 j9 y z A B C E F H I J M N P Q hK h5 R i hk;have hlt:K<S:=by omega
   have hlti:(K:Int)<(S:Int):=by omega
   obtain⟨x,hc,hx⟩:=R.word (d:=d) (s:=K) hd (by omega);have hcc:=R.chan hd;rw[hcd] at hcc;obtain⟨q,hqd⟩:∃q,K / 64=q:=⟨_,rfl⟩
   obtain⟨r,hrd⟩:∃q,K % 64=q:=⟨_,rfl⟩
   have hq64:q<64:=by omega
   have hr64:r<64:=by omega
   rw[hqd] at hc;rw[hrd] at hx;have h1:=E2 x r;have h2:=CH (x >>> r) 1#64;have Z:=E3 x r;rw[hx] at Z;obtain⟨xv,hxv⟩:∃n:Int,(x.toNat:Int)=n:=⟨_,rfl⟩
   obtain⟨sv,hsv⟩:∃n:Int,((x >>> r).toNat:Int)=n:=⟨_,rfl⟩
   obtain⟨rv,hrv⟩:∃n:Int,((x >>> r &&& 1#64).toNat:Int)=n:=⟨_,rfl⟩
   obtain⟨bb,t⟩:∃b,dY L d K=b:=⟨_,rfl⟩
   have e1:(((1#64:BitVec 64).toNat:Nat):Int)=1:=rfl;unfold wv at hc;rw[e1] at h2;rw[hxv] at hc h1;rw[hsv] at h1 h2;rw[hrv] at h2 Z;rw[t] at Z;have h3':(rv == 1)=bb:=Z;rw[ho] at hc hcc;have hq:(K:Int) / 64=(q:Int):=by omega
   have hm:(K:Int) % 64=(r:Int):=by omega
   have hs0:(0:Int)≤(K:Int):=by omega
   have hqd2:(K:Int).tdiv 64=(q:Int):=by rw[Int.tdiv_eq_ediv_of_nonneg (by omega)];omega
   have hmd2:(K:Int).tmod 64=(r:Int):=by rw[Int.tmod_eq_emod_of_nonneg (by omega)];omega
   have hwq:IntKind.i64.wrap (q:Int)=(q:Int):=by rw[IntWalk.i64_in _ (by omega)]
   have hwr:IntKind.i64.wrap (r:Int)=(r:Int):=by rw[IntWalk.i64_in _ (by omega)]
   have hwk:IntKind.i64.wrap ((K:Int)+1)=((K+1:Nat):Int):=by rw[IntWalk.i64_in _ (by omega)];omega
   have hq0:(0:Int)≤(q:Int):=by omega
   have hq1:(q:Int)<64:=by omega
   have hr0:(0:Int)≤(r:Int):=by omega
   have hr1:(r:Int)<64:=by omega
   have Y:=O (qV L d K);have W:Hid (gD L d K=!bb):=O (by unfold gD;rw[decide_eq_true h5,t];rfl);have X:Hid ((aZ L d K).length<S):=O (by have:=sF L d K;omega);have HW:=O R;have V:=O i;have HK:=O hk;clear R i hk hx hxv hsv hrv t e1 hqd hrd Z hcd;refine LoneTo.goes (n:=90) ?_;simp only[sG,Tryz.f217,Option.getD_some,yV,Aw,CJ]
   s_c stepG_seq
   s_c stepG_seq
   s_reg
   s_op
   s_op
   s_op
   s_c stepG_region_end
   s_cond true
   s_c stepG_skip
   s_c stepG_seq
   s_c stepG_block
   s_c stepG_seq
   s_reg
   s_op
   s_op
   s_call Tryz.func178 (by kernel_rfl) Tryz.f178
   s_c stepG_seq
   s_reg
   s_op
   s_c stepG_region_end
   s_c stepG_seq
   s_reg
   s_op
   s_op
   s_op
   s_op
   s_op
   s_op
   s_op
   s_op
   s_op
   s_op
   s_op
   s_op
   s_op
   s_c stepG_region_end
   s_c stepG_ret'
   s_leave1 Tryz.func178
   s_op
   s_c stepG_region_end
   cases bb
   ·s_cond true
    s_reg
    s_op
    s_op
    s_op
    s_op
    s_op
    s_stop
    obtain⟨sn,rn,hg⟩:=V.out;have f:(((aZ L d K).map fun x=>Value.int .i64 x).toArray).size<S:=by rw[List.size_toArray,List.length_map];exact X.out
    refine LoneTo.step (step_lone_send_room (c:=g) (cap:=S) (v:=.int .i64 (K:Int)) (z':=.tuple #[]) (buf:=((aZ L d K).map fun x=>Value.int .i64 x).toArray) (s:=sn) (r:=rn) (tm:=false) (stepG_comm (cases:=#[scase g (.int .i64 (K:Int)) (.tuple #[])]) (blocking:=true) (shape:=.send) (w':=w) rfl rfl (by decide) (by simp[go_sem,execOp,scase,Act.eval])) hg f) ?_;have u:=uB (T:=fun k=>k=g) (aA.refl _ w) (fun _=>rfl) S (((aZ L d K).map fun x=>Value.int .i64 x).toArray.push (.int .i64 (K:Int))) false (sn+1) rn false
    have j:fK (w.setChan g S (((aZ L d K).map fun x=>Value.int .i64 x).toArray.push (.int .i64 (K:Int))) false (sn+1) rn false) g S (aZ L d (K+1)):=by
     refine⟨sn+1,rn,?_⟩;rw[heap_setChan _ _ _ _ _ _ _ _ (Array.getElem?_eq_some_iff.1 hg).1,Y.out,W.out]
     congr 2
     simp
    have hw2:=HW.keep u (fun e=>hgb e.symm);have hk2:=HK.trans' u (U:=fun k=>k=b\/k=g) (fun _ _ h=>h) (fun _ _ h=>.inr h);have HZ:=O (And.intro hw2 (And.intro j hk2));obtain⟨w2,p⟩:∃w2,w.setChan g S (((aZ L d K).map fun x=>Value.int .i64 x).toArray.push (.int .i64 (K:Int))) false (sn+1) rn false=w2:=⟨_,rfl⟩
    rw[p] at HZ ⊢;clear u j hw2 hk2 p hg f;rw[Frame.finish_at]
    walk_nrm
    refine LoneTo.goes (n:=40) ?_
    s_c stepG_region_end
    s_c stepG_inBlock
    s_reg
    s_op
    s_op
    s_op
    s_c stepG_region_end
    s_c stepG_inLoop
    s_stop
    exact ih w2 (K+1) _ _ _ _ _ _ _ _ _ _ _ _ _ _ _ _ _ _ _ (by omega) (by omega) HZ.1 HZ.2.1 HZ.2.2
   ·s_cond false
    s_c stepG_skip
    s_c stepG_inBlock
    s_reg
    s_op
    s_op
    s_op
    s_c stepG_region_end
    s_c stepG_inLoop
    s_stop
    exact ih w (K+1) _ _ _ _ _ _ _ _ _ _ _ _ _ _ _ _ _ _ _ (by omega) (by omega) HW.out (by rw[Y.out,W.out];simpa using V.out) HK.out
def Kb(w:World)(b:Nat)(c:Nat->Option Nat)(D:Nat)(L:List Ad)(d S:Nat)(e:Ending)(w':World):Prop:=
 e=.returned (.tuple #[])/\∃g,bP w' b (fun e=>if e=d then some g else c e) D L/\fK w' g S (aZ L d S)/\w.heap.size≤g/\aA (fun k=>k=b) w w'
open Go.Conc in
theorem If(w:World)(b D:Nat)(c:Nat->Option Nat)(L:List Ad)(h:bP w b c D L)(d S:Nat)(u:d<D)(N:5≤S)(C:S≤4096) :
 Calls Tryz.prog 217 #[.pointer (some ⟨b,d*65,none⟩),.int .i64 (S:Int)] w (Kb w b c D L d S):=by
 have E:=h.lt;have m:=(aA.refl aB w).alloc (.chan S #[] false 0 0 false);obtain⟨s,o⟩:∃s,w.alloc (.chan S #[] false 0 0 false)=s:=⟨_,rfl⟩
 have y:s.heap[w.heap.size]?=some (.chan S #[] false 0 0 false):=by rw[←o];exact heap_alloc_new w _
 rw[o] at m;have r:=h.keep m id;have j:=r.lay u (some w.heap.size);have P:=r.chan u;have R:=r.free (d*65+64);have A:=Nt w S C;rw[o] at A
 have e:Frame.enter Tryz.prog 217 #[.pointer (some ⟨b,d*65,none⟩),.int .i64 (S:Int)] .normal=(base 217).at ⟨#[.pointer (some ⟨b,d*65,none⟩),.int .i64 (S:Int),undef,undef,undef,undef,undef,undef,undef,undef,undef,undef,undef,undef,undef,undef,undef,undef,undef,undef,undef,undef,undef,undef],[]⟩ [.code (Tryz.f217.body.getD .skip)]:=by
  simp[Frame.enter,Frame.at,Tryz.func217,base,Tryz.f217]
 refine calls_of_loneTo fun F=>?_
 rw[e];clear e;have f:=O j;clear j r;refine LoneTo.goes (n:=40) ?_;simp only[Tryz.f217,Option.getD_some]
 s_c stepG_seq
 s_reg
 s_op
 s_op
 s_op
 s_op
 s_op
 s_op
 s_c stepG_region_end
 s_c stepG_seq
 s_reg
 s_op
 s_c stepG_region_end
 s_c stepG_block
 s_c stepG_loop
 s_stop
 obtain⟨q,B⟩:∃q,s.setCell ⟨b,d*65+64,none⟩ (.chan (some w.heap.size))=q:=⟨_,rfl⟩
 rw[B] at f ⊢;have p:w.heap.size≠b:=by omega
 have z:=f.2.blk y p;have t:fK q w.heap.size S (aZ L d 5):=⟨0,0,by rw[En];exact z⟩
 refine Id (Ie q b (d*65) D w.heap.size d S (fun e=>if e=d then some w.heap.size else c e) L F rfl u C (if_pos rfl) p (S-5) q 5 _ _ _ _ _ _ _ _ _ _ _ _ _ _ _ _ _ _ _ (by omega) (by omega) f.1 t (aA.refl _ _)) ?_;rintro V w' ⟨e,G,Q,⟨H,I,J,h7⟩,K,M⟩;exact⟨e,G,Q,⟨H,w.heap.size,I,J,Nat.le_refl _,(m.trans' f.2 (U:=fun k=>k=b) (fun _ _ h=>h.elim) (fun _ _ h=>h)).trans' h7 (U:=fun k=>k=b) (fun _ _ h=>h) (fun i W h=>h.elim id (fun e=>by omega))⟩,K,M⟩
def gO(w:World)(a:Nat)(S:Int)(v:Option Addr)(n:Nat):Prop:=w.heap[a]?=some (.cells #[.int .i64 S,.slice v n n] 248 (0,0))
theorem gO.keep{S:Int}(h:gO w a S v n)(k:aA T w w')(d:¬T a):gO w' a S v n:=k.blk h d
theorem gO.c0{S:Int}(h:gO w a S v n):w.cell? ⟨a,0,none⟩=some (.int .i64 S):=aC h rfl
theorem gO.c1{S:Int}(h:gO w a S v n):w.cell? ⟨a,1,none⟩=some (.slice v n n):=aC h rfl
structure dU(w:World)(lo a b:Nat)(c:Nat->Option Nat)(D S:Nat)(L:List Ad):Prop where
 top:gO w a (S:Int) (some ⟨b,0,none⟩) D
 words:bP w b c D L
 chans:∀d,d<D->∃g,c d=some g/\fK w g S (aZ L d S)
 inj:∀d e g,d<D->e<D->c d=some g->c e=some g->d=e
 bd:2≤D/\D≤8/\8≤S/\S≤4096
 lo:lo≤a/\lo≤b/\∀d g,d<D->c d=some g->lo≤g
def Own(a b:Nat)(c:Nat->Option Nat)(D:Nat)(k:Nat):Prop:=k=a\/k=b\/∃d,d<D/\c d=some k
theorem dU.keep(h:dU w lo a b c D S L)(k:aA T w w')(f:∀i,T i->¬Own a b c D i):dU w' lo a b c D S L:=
 ⟨h.top.keep k (fun e=>f _ e (.inl rfl)),h.words.keep k (fun e=>f _ e (.inr (.inl rfl))),fun d m=>by
  obtain⟨g,j,o⟩:=h.chans d m;exact⟨g,j,o.keep k fun e=>f _ e (.inr (.inr ⟨d,m,j⟩))⟩,h.inj,h.bd,h.lo⟩
theorem dU.keep0(h:dU w lo a b c D S L)(k:aA aB w w'):dU w' lo a b c D S L:=h.keep k fun _ h=>h.elim
theorem dU.own_lt(h:dU w lo a b c D S L){k:Nat}(m:Own a b c D k):lo≤k/\k<w.heap.size:=by
 rcases m with rfl|rfl|⟨d,i,f⟩
 ·exact⟨h.lo.1,(Array.getElem?_eq_some_iff.1 h.top).1⟩
 ·exact⟨h.lo.2.1,h.words.lt⟩
 ·obtain⟨g,e,j⟩:=h.chans d i
  rw[f] at e;cases e
  exact⟨h.lo.2.2 d k i f,j.lt⟩
theorem CK(h:fA x D S=true):∃d s:Nat,x=⟨(d:Int),(s:Int)⟩/\d<D/\5≤s/\s<S:=by
 obtain⟨f,i⟩:=x;unfold fA at h;simp only[Bool.and_eq_true,decide_eq_true_eq] at h;obtain⟨⟨⟨⟨⟨⟨⟨j,k⟩,m⟩,o⟩,e⟩,p⟩,h7⟩,q⟩:=h;exact⟨f.toNat,i.toNat,by rw[Int.toNat_of_nonneg e,Int.toNat_of_nonneg (by omega)],by omega,by omega,by omega⟩
theorem Me{d s:Nat}(f:2≤D/\D≤8/\8≤S/\S≤4096)(h:d<D)(e:5≤s)(i:s<S):fA ⟨(d:Int),(s:Int)⟩ D S=true:=by
 unfold fA;simp only[Bool.and_eq_true,decide_eq_true_eq];refine⟨⟨⟨⟨⟨⟨⟨?_,?_⟩,?_⟩,?_⟩,?_⟩,?_⟩,?_⟩,?_⟩<;>omega
theorem Ax(k:2≤D/\D≤8/\8≤S/\S≤4096):fA x D S=true↔eF x D S:=by
 constructor
 ·intro h
  obtain⟨d,s,rfl,e,f,i⟩:=CK h;exact⟨by show (0:Int)≤(d:Int);omega,by show (d:Int)<(D:Int);omega,by show (5:Int)≤(s:Int);omega,by show (s:Int)<(S:Int);omega⟩
 ·rintro⟨e,f,i,j⟩
  unfold fA;simp only[Bool.and_eq_true,decide_eq_true_eq];refine⟨⟨⟨⟨⟨⟨⟨?_,?_⟩,?_⟩,?_⟩,?_⟩,?_⟩,?_⟩,?_⟩<;>omega
theorem CL(w:World)(a n:Nat)(S:Int)(v:Option Addr)(h:gO w a S v n):Calls Tryz.prog 218 #[.pointer a] w fun e w'=>e=.returned (.bool (decide (n=0)))/\w=w':=by
 have f:=h.c1;obtain⟨bb,d⟩:∃b,decide (n=0)=b:=⟨_,rfl⟩
 have i:((n:Int) == 0)=bb:=by
  rw[←d,Bool.eq_iff_iff,beq_iff_eq,decide_eq_true_eq];omega
 rw[d];clear h d;go_in;go_wp2;go_ret;exact⟨rfl,rfl⟩
theorem Ih(w:World)(a n:Nat)(Z:Int)(v:Option Addr)(h:gO w a Z v n)(x:Ad):Calls Tryz.prog 177 #[.pointer a,.agg (aM x).toArray] w fun e w'=>e=.returned (.bool (fA x n Z))/\aA aB w w':=by
 obtain⟨o,C,k,q,B⟩:=aS w (aM x).toArray 82;have h0:=h.keep k id;have z:=h0.c0;have A:=h0.c1;have s:=O q;have t:=O k;obtain⟨bb,r⟩:∃b,fA x n Z=b:=⟨_,rfl⟩
 have y:=O (fun w'=>E4 x n Z w');rw[r] at y ⊢;unfold adV at y;clear q B h h0 k r;go_in;go_wp2_with fail;clear C;obtain⟨S,i⟩:∃S:World->Prop,S=fun w'=>aA aB o w':=⟨_,rfl⟩
 have d:=O (show ∀w',S w'->aA aB o w' from fun w' h=>by rw[i] at h;exact h);have p:=O (show ∀w',aA aB o w'->S w' from fun w' h=>by rw[i];exact h);have f:S o.drew:=by rw[i];exact(aA.refl _ _).drew
 clear i;refine wp_region_held (S:=S) (by kernel_rfl) ?_;change wpAnyH _ _ _ _ _ _ _ _ o.drew;generalize o.drew=F at f ⊢;refine tkd 0 (.agg (aM x).toArray) rfl (yieldsIf_load_mid (by rfl) 82 (.tmp 3) rfl (w.heap.size) (0) rfl (aM x) _ (fun w' h=>aD ((d.out w' h).blk s.out id)) bB rfl bH) f ?_;simp only[Act.put,List.setIfInBounds_toArray,List.set_cons_zero,List.set_cons_succ,List.getElem_toArray,List.getElem_cons_zero];refine tna 1 (.pointer a) rfl f ?_;refine tnb 2 (.pointer a) rfl f ?_;refine tnb 3 (.pointer (some ⟨a,1,none⟩)) rfl f ?_;refine tnd 4 (.slice v n n) rfl (.inl ⟨by rfl,fun w' m=>by have c:=(d.out w' m).cell A id;go_simp⟩) f ?_;refine tnb 5 (.int .i64 n) rfl f ?_;refine tna 6 (.pointer a) rfl f ?_;refine tnb 7 (.pointer a) rfl f ?_;refine tnb 8 (.pointer a) rfl f ?_;refine tnd 9 (.int .i64 Z) rfl (.inl ⟨by rfl,fun w' m=>by have c:=(d.out w' m).cell z id;go_simp⟩) f ?_;refine wA9 10 ?_;go_wp2_with fail;refine(y.out _).mono ?_;rintro e G ⟨rfl,E⟩;have j:=p.out _ ((d.out _ f).trans E);clear f E;go_wp2_with fail;refine⟨j,?_⟩;refine tna 11 (.bool bb) rfl j ?_;refine wpAnyH_done (by kernel_rfl) ?_ _;have u:=O (d.out _ j);clear j d p;have t:=O (t.trans u.out);go_wp2;go_ret;exact⟨rfl,t.out⟩
end
end Go.Proofs.YtiinnfhjpaeffaaGreat
