import Derived.Test.YtiinnfhjpaeffaaGreatW1
import Derived.Test.YtiinnfhjpaeffaaGreatW8
import Derived.Conc.LoneCalls
import Derived.Conc.LoneSelect
import Derived.KernelRfl
import Derived.Laws.Rows
namespace Go.Proofs.YtiinnfhjpaeffaaGreat
set_option maxHeartbeats 64000000
set_option maxRecDepth 100000
set_option linter.unusedVariables false
section
open Go.RowKit Go.Maps Go.ChangeMaps
def JJ(w:World)(b:Nat)(c:Nat->Option Nat)(D:Nat)(M:List Ad)(e:Ending)(w':World):Prop:=e=.returned (.tuple #[])/\bK w' b c D M/\aA (fun k=>k=b) w w'
theorem AO(w:World)(b D:Nat)(c:Nat->Option Nat)(L M:List Ad)(h:bK w b c D L)(d s:Nat)(hd:d<D)(hs:s<4096)
 (hM:∀e t,e<D->t<4096->dR M e t=(dR L e t != (decide (e=d) && decide (t=s)))) :
 Calls Tryz.prog 179 #[.pointer (some ⟨b,d*65,none⟩),.int .i64 (s:Int)] w (JJ w b c D M):=by
 obtain⟨x,hc,-⟩:=h.word hd hs;have HF:=O (h.flip hd hs hc hM);have hfz:=h.free (d*65+s / 64);obtain⟨q,hqd⟩:∃q,s / 64=q:=⟨_,rfl⟩
 obtain⟨r,hrd⟩:∃q,s % 64=q:=⟨_,rfl⟩
 have hq64:q<64:=by omega
 have hr64:r<64:=by omega
 rw[hqd] at hc hfz HF;rw[hrd] at HF;have h1:=LI r hr64;have h2:=JG x (BitVec.twoPow 64 r);unfold wv at hc HF;obtain⟨xv,hxv⟩:∃n:Int,(x.toNat:Int)=n:=⟨_,rfl⟩
 obtain⟨sv,hsv⟩:∃n:Int,((BitVec.twoPow 64 r).toNat:Int)=n:=⟨_,rfl⟩
 obtain⟨rv,hrv⟩:∃n:Int,((x ^^^ BitVec.twoPow 64 r).toNat:Int)=n:=⟨_,rfl⟩
 rw[hxv] at hc h2;rw[hsv] at h1 h2;rw[hrv] at h2 HF;obtain⟨o,ho⟩:∃o,d*65=o:=⟨_,rfl⟩
 rw[ho] at hc hfz HF ⊢;have hq:(s:Int) / 64=(q:Int):=by omega
 have hm:(s:Int) % 64=(r:Int):=by omega
 have hs0:(0:Int)≤(s:Int):=by omega
 have hqd2:(s:Int).tdiv 64=(q:Int):=by rw[Int.tdiv_eq_ediv_of_nonneg (by omega)];omega
 have hmd2:(s:Int).tmod 64=(r:Int):=by rw[Int.tmod_eq_emod_of_nonneg (by omega)];omega
 have hwq:IntKind.i64.wrap (q:Int)=(q:Int):=by rw[IntWalk.i64_in _ (by omega)]
 have hwr:IntKind.i64.wrap (r:Int)=(r:Int):=by rw[IntWalk.i64_in _ (by omega)]
 have hq0:(0:Int)≤(q:Int):=by omega
 have hq1:(q:Int)<64:=by omega
 have hr0:(0:Int)≤(r:Int):=by omega
 have hr1:(r:Int)<64:=by omega
 have hrt:(r:Int).toNat=r:=by omega
 clear h hxv hsv hrv ho hqd hrd hM;go_in
 go_still_tail 14,(by kernel_rfl)
 go_wp2_with fail
 go_end0
 exact⟨rfl,HF.out.1.keep (aA.refl aB _).drew id,HF.out.2.drew⟩
def fE(w:World)(g S:Nat)(l:List Int):Prop:=∃s r,w.heap[g]?=some (.chan S (l.map fun x=>Value.int .i64 x).toArray false s r false)
theorem fE.keep{T:Nat->Prop}{w w':World}{g S:Nat}{l:List Int}(h:fE w g S l)(k:aA T w w')(hT:¬T g):fE w' g S l:=by
 obtain⟨s,r,h1⟩:=h;exact⟨s,r,k.blk h1 hT⟩
theorem fE.lt{w:World}{g S:Nat}{l:List Int}(h:fE w g S l):g<w.heap.size:=by
 obtain⟨s,r,h1⟩:=h;exact(Array.getElem?_eq_some_iff.1 h1).1
theorem tR{T:Nat->Prop}{a w:World}(h:aA T a w){c:Nat}(hc:c<a.heap.size->T c)(cap:Nat)(buf:Array Value)(cl:Bool)(s r:Nat)(tm:Bool):aA T a (w.setChan c cap buf cl s r tm):=by
 refine⟨h.os,h.tape,h.output,by rw[Go.Conc.size_setChan];exact h.size,fun k hk hn=>?_⟩;have hne:c≠k:=fun e=>hn (e▸hc (e▸hk))
 rw[←h.block k hk hn];simp[World.setChan,Array.getElem?_setIfInBounds_ne hne]
open Go.Conc in
def Cn(w:World)(g S:Nat)(x:Int)(r:List Int)(e:Ending)(w':World):Prop:=e=.returned (.tuple #[.int .i64 x,.bool true])/\fE w' g S r/\aA (fun k=>k=g) w w'
open Go.Conc in
theorem Hc(w:World)(b o g S:Nat)(x:Int)(r:List Int)(hc:w.cell? ⟨b,o+64,none⟩=some (.chan (some g)))(h:fE w g S (x::r)) :
 Calls Tryz.prog 221 #[.pointer (some ⟨b,o,none⟩)] w (Cn w g S x r):=by
 obtain⟨s,rr,hg⟩:=h
 have hend:Cn w g S x r (.returned (.tuple #[.int .i64 x,.bool true])) (w.setChan g S ((((x::r).map fun x=>Value.int .i64 x).toArray).extract 1 (((x::r).map fun x=>Value.int .i64 x).toArray).size) false s (rr+1) false):=by
  refine⟨rfl,⟨s,rr+1,?_⟩,tR (T:=fun k=>k=g) (aA.refl _ _) (fun _=>rfl) _ _ _ _ _ _⟩;rw[heap_setChan _ _ _ _ _ _ _ _ (Array.getElem?_eq_some_iff.1 hg).1]
  congr 2
  simp[List.take_of_length_le]
 have HEND:=O hend;clear hend;have hgd:(((x::r).map fun x=>Value.int .i64 x).toArray).getD 0 undef=.int .i64 x:=rfl;have hsz:0<(((x::r).map fun x=>Value.int .i64 x).toArray).size:=by simp
 obtain⟨buf,hbuf⟩:∃buf,((x::r).map fun x=>Value.int .i64 x).toArray=buf:=⟨_,rfl⟩
 rw[hbuf] at hg hgd hsz HEND;clear hbuf;refine calls_of_loneTo fun cs=>?_
 have e:Frame.enter Tryz.prog 221 #[.pointer (some ⟨b,o,none⟩)] .normal=(base 221).at ⟨#[.pointer (some ⟨b,o,none⟩),undef,undef,undef,undef,undef,undef,undef,undef,undef,undef,undef,undef,undef],[]⟩ [.code (Tryz.f221.body.getD .skip)]:=by
  simp[Frame.enter,Frame.at,Tryz.func221,base,Tryz.f221]
 rw[e];refine LoneTo.goes (n:=40) ?_;simp only[Tryz.f221,Option.getD_some]
 s_c stepG_seq
 s_reg
 s_op
 s_op
 s_c stepG_region_end
 s_c stepG_seq
 s_reg
 s_op
 s_op
 s_op
 s_op
 s_c stepG_region_end
 s_c stepG_seq
 s_reg
 s_stop
 refine LoneTo.step (step_lone_select_recv_buf (c:=g) (z:=.int .i64 0) (cap:=S) (buf:=buf) (closed:=false) (s:=s) (r:=rr) (tm:=false) (stepG_comm (cases:=#[rcase g (.int .i64 0)]) (blocking:=false) (shape:=.select) (w':=w) rfl rfl (by decide) (by simp[go_sem,execOp,rcase,Act.eval])) hg hsz) ?_;rw[Frame.finish_at,hgd]
 walk_nrm
 refine LoneTo.goes (n:=40) ?_
 s_op
 s_op
 s_c stepG_region_end
 s_c stepG_block
 s_cond true
 s_c stepG_seq
 s_reg
 s_op
 s_op
 s_c stepG_region_end
 s_c stepG_seq
 s_reg
 s_op
 s_op
 s_op
 s_c stepG_region_end
 s_c stepG_ret'
 s_stop
 exact LoneTo.done ⟨.returned (.tuple #[.int .i64 x,.bool true]),_,rfl,HEND.out,rfl,rfl,rfl,rfl,_,Tryz.func221,by simp[results,Tryz.f221,Frame.at]⟩
theorem JK:∃i,Tryz.prog.info? 3=some i/\i.bytes=8:=by
 have h:(Tryz.prog.info? 3).map (·.bytes)=some 8:=by kernel_rfl
 obtain⟨i,hi,hb⟩:=Option.map_eq_some_iff.1 h;exact⟨i,hi,hb⟩
open Go.Conc in
theorem M5(w:World)(S:Nat)(hS:S≤4096):(Instr.makeChan 251 (.int .i64 (S:Int))).run Tryz.prog w=.ok (.chan (some w.heap.size)) (w.alloc (.chan S #[] false 0 0 false)):=by
 obtain⟨i,hi,hb⟩:=JK
 simpa using run_makeChan (P:=Tryz.prog) (w:=w) Tryz.underlying251 hi .i64 S (by omega) (by rw[hb];omega)
open Go.Conc in
theorem Hd{P:Program}{Q Q':Goroutine->World->Prop}{g:Goroutine}{w:World}(h:LoneTo P Q g w)(hq:∀g' w',Q g' w'->Q' g' w'):LoneTo P Q' g w:=
 let ⟨g',w',s,q⟩:=h
 ⟨g',w',s,hq _ _ q⟩
def yF:Code->Code|.seq _ b=>b|c=>c
def zY:Code->Code|.block _ c=>c|c=>c
def Co:Code->Code|.loop c=>c|c=>c
noncomputable def sA:Code:=Co (zY (yF (yF (Tryz.f217.body.getD .skip))))
open Go.Conc in
def NS(cs:List Frame)(w0:World)(b:Nat)(c:Nat->Option Nat)(D:Nat)(L:List Ad)(d S g:Nat)(g':Goroutine)(w':World):Prop:=
 ∃e fr,g'=G fr cs/\(e=.returned (.tuple #[])/\bK w' b c D L/\fE w' g S (aY L d S)/\aA (fun k=>k=b\/k=g) w0 w')/\fr.fn=217/\fr.leaving Tryz.prog w' e
open Go.Conc in
theorem He(w0:World)(b o D g d S:Nat)(c:Nat->Option Nat)(L:List Ad)(cs:List Frame)(ho:d*65=o)(hd:d<D)(hS:S≤4096)(hcd:c d=some g)(hgb:g≠b):∀(m:Nat) (w:World) (K:Nat) (j5 j6 j7 j8 j9 j10 j11 j12 j13 j14 j15 j16 j17 j18 j19 j20 j21 j22 j23:Value),K+m=S->5≤K->bK w b c D L->fE w g S (aY L d K)->aA (fun k=>k=b\/k=g) w0 w ->
 LoneTo Tryz.prog (NS cs w0 b c D L d S g) (G ((base 217).at ⟨#[.pointer (some ⟨b,o,none⟩),.int .i64 (S:Int),undef,undef,.int .i64 (K:Int),j5,j6,j7,j8,j9,j10,j11,j12,j13,j14,j15,j16,j17,j18,j19,j20,j21,j22,j23],[]⟩ [.code sA,.inLoop sA,.inBlock 0]) cs) w:=by
 intro m
 induction m with
 | zero =>
   intro w K j5 j6 j7 j8 j9 j10 j11 j12 j13 j14 j15 j16 j17 j18 j19 j20 j21 j22 j23 hK h5 hw hch hk;obtain rfl:K=S:=by omega
   refine LoneTo.goes (n:=30) ?_;simp only[sA,Tryz.f217,Option.getD_some,yF,zY,Co]
   s_c stepG_seq
   s_c stepG_seq
   s_reg
   s_op
   s_op
   s_op
   s_c stepG_region_end
   s_cond false
   s_exit
   s_c stepG_end
   s_stop
   exact LoneTo.done ⟨.returned (.tuple #[]),_,rfl,⟨rfl,hw,hch,hk⟩,rfl,rfl,rfl,rfl,_,Tryz.func217,by simp[results,Tryz.f217,Frame.at]⟩
 | succ m ih =>
   intro w K j5 j6 j7 j8 j9 j10 j11 j12 j13 j14 j15 j16 j17 j18 j19 j20 j21 j22 j23 hK h5 hw hch hk;have hlt:K<S:=by omega
   have hlti:(K:Int)<(S:Int):=by omega
   obtain⟨x,hc,hx⟩:=hw.word (d:=d) (s:=K) hd (by omega);have hcc:=hw.chan hd;rw[hcd] at hcc;obtain⟨q,hqd⟩:∃q,K / 64=q:=⟨_,rfl⟩
   obtain⟨r,hrd⟩:∃q,K % 64=q:=⟨_,rfl⟩
   have hq64:q<64:=by omega
   have hr64:r<64:=by omega
   rw[hqd] at hc;rw[hrd] at hx;have h1:=EE x r;have h2:=Cm (x >>> r) 1#64;have h3:=EF x r;rw[hx] at h3;obtain⟨xv,hxv⟩:∃n:Int,(x.toNat:Int)=n:=⟨_,rfl⟩
   obtain⟨sv,hsv⟩:∃n:Int,((x >>> r).toNat:Int)=n:=⟨_,rfl⟩
   obtain⟨rv,hrv⟩:∃n:Int,((x >>> r &&& 1#64).toNat:Int)=n:=⟨_,rfl⟩
   obtain⟨bb,hbb⟩:∃b,dR L d K=b:=⟨_,rfl⟩
   have e1:(((1#64:BitVec 64).toNat:Nat):Int)=1:=rfl;unfold wv at hc;rw[e1] at h2;rw[hxv] at hc h1;rw[hsv] at h1 h2;rw[hrv] at h2 h3;rw[hbb] at h3;have h3':(rv == 1)=bb:=h3;rw[ho] at hc hcc;have hq:(K:Int) / 64=(q:Int):=by omega
   have hm:(K:Int) % 64=(r:Int):=by omega
   have hs0:(0:Int)≤(K:Int):=by omega
   have hqd2:(K:Int).tdiv 64=(q:Int):=by rw[Int.tdiv_eq_ediv_of_nonneg (by omega)];omega
   have hmd2:(K:Int).tmod 64=(r:Int):=by rw[Int.tmod_eq_emod_of_nonneg (by omega)];omega
   have hwq:IntKind.i64.wrap (q:Int)=(q:Int):=by rw[IntWalk.i64_in _ (by omega)]
   have hwr:IntKind.i64.wrap (r:Int)=(r:Int):=by rw[IntWalk.i64_in _ (by omega)]
   have hwk:IntKind.i64.wrap ((K:Int)+1)=((K+1:Nat):Int):=by rw[IntWalk.i64_in _ (by omega)];omega
   have hq0:(0:Int)≤(q:Int):=by omega
   have hq1:(q:Int)<64:=by omega
   have hr0:(0:Int)≤(r:Int):=by omega
   have hr1:(r:Int)<64:=by omega
   have HTS:=O (qQ L d K);have HFR:Hid (fX L d K=!bb):=O (by unfold fX;rw[decide_eq_true h5,hbb];rfl);have HLEN:Hid ((aY L d K).length<S):=O (by have:=rZ L d K;omega);have HW:=O hw;have HCH:=O hch;have HK:=O hk;clear hw hch hk hx hxv hsv hrv hbb e1 hqd hrd h3 hcd;refine LoneTo.goes (n:=90) ?_;simp only[sA,Tryz.f217,Option.getD_some,yF,zY,Co]
   s_c stepG_seq
   s_c stepG_seq
   s_reg
   s_op
   s_op
   s_op
   s_c stepG_region_end
   s_cond true
   s_c stepG_skip
   s_c stepG_seq
   s_c stepG_block
   s_c stepG_seq
   s_reg
   s_op
   s_op
   s_call Tryz.func178 (by kernel_rfl) Tryz.f178
   s_c stepG_seq
   s_reg
   s_op
   s_c stepG_region_end
   s_c stepG_seq
   s_reg
   s_op
   s_op
   s_op
   s_op
   s_op
   s_op
   s_op
   s_op
   s_op
   s_op
   s_op
   s_op
   s_op
   s_c stepG_region_end
   s_c stepG_ret'
   s_leave1 Tryz.func178
   s_op
   s_c stepG_region_end
   cases bb
   ·s_cond true
    s_reg
    s_op
    s_op
    s_op
    s_op
    s_op
    s_stop
    obtain⟨sn,rn,hg⟩:=HCH.out;have hroom:(((aY L d K).map fun x=>Value.int .i64 x).toArray).size<S:=by rw[List.size_toArray,List.length_map];exact HLEN.out
    refine LoneTo.step (step_lone_send_room (c:=g) (cap:=S) (v:=.int .i64 (K:Int)) (z':=.tuple #[]) (buf:=((aY L d K).map fun x=>Value.int .i64 x).toArray) (s:=sn) (r:=rn) (tm:=false) (stepG_comm (cases:=#[scase g (.int .i64 (K:Int)) (.tuple #[])]) (blocking:=true) (shape:=.send) (w':=w) rfl rfl (by decide) (by simp[go_sem,execOp,scase,Act.eval])) hg hroom) ?_;have hkc:=tR (T:=fun k=>k=g) (aA.refl _ w) (fun _=>rfl) S (((aY L d K).map fun x=>Value.int .i64 x).toArray.push (.int .i64 (K:Int))) false (sn+1) rn false
    have hch2:fE (w.setChan g S (((aY L d K).map fun x=>Value.int .i64 x).toArray.push (.int .i64 (K:Int))) false (sn+1) rn false) g S (aY L d (K+1)):=by
     refine⟨sn+1,rn,?_⟩;rw[heap_setChan _ _ _ _ _ _ _ _ (Array.getElem?_eq_some_iff.1 hg).1,HTS.out,HFR.out]
     congr 2
     simp
    have hw2:=HW.out.keep hkc (fun e=>hgb e.symm);have hk2:=HK.out.trans' hkc (U:=fun k=>k=b\/k=g) (fun _ _ h=>h) (fun _ _ h=>.inr h);have HZ:=O (And.intro hw2 (And.intro hch2 hk2));obtain⟨w2,hw2e⟩:∃w2,w.setChan g S (((aY L d K).map fun x=>Value.int .i64 x).toArray.push (.int .i64 (K:Int))) false (sn+1) rn false=w2:=⟨_,rfl⟩
    rw[hw2e] at HZ ⊢;clear hkc hch2 hw2 hk2 hw2e hg hroom;rw[Frame.finish_at]
    walk_nrm
    refine LoneTo.goes (n:=40) ?_
    s_c stepG_region_end
    s_c stepG_inBlock
    s_reg
    s_op
    s_op
    s_op
    s_c stepG_region_end
    s_c stepG_inLoop
    s_stop
    exact ih w2 (K+1) _ _ _ _ _ _ _ _ _ _ _ _ _ _ _ _ _ _ _ (by omega) (by omega) HZ.out.1 HZ.out.2.1 HZ.out.2.2
   ·s_cond false
    s_c stepG_skip
    s_c stepG_inBlock
    s_reg
    s_op
    s_op
    s_op
    s_c stepG_region_end
    s_c stepG_inLoop
    s_stop
    exact ih w (K+1) _ _ _ _ _ _ _ _ _ _ _ _ _ _ _ _ _ _ _ (by omega) (by omega) HW.out (by rw[HTS.out,HFR.out];simpa using HCH.out) HK.out
def JL(w:World)(b:Nat)(c:Nat->Option Nat)(D:Nat)(L:List Ad)(d S:Nat)(e:Ending)(w':World):Prop:=
 e=.returned (.tuple #[])/\∃g,bK w' b (fun e=>if e=d then some g else c e) D L/\fE w' g S (aY L d S)/\w.heap.size≤g/\aA (fun k=>k=b) w w'
open Go.Conc in
theorem Hf(w:World)(b D:Nat)(c:Nat->Option Nat)(L:List Ad)(h:bK w b c D L)(d S:Nat)(hd:d<D)(hS5:5≤S)(hS:S≤4096) :
 Calls Tryz.prog 217 #[.pointer (some ⟨b,d*65,none⟩),.int .i64 (S:Int)] w (JL w b c D L d S):=by
 have hblt:=h.lt;have hkA:=(aA.refl aB w).alloc (.chan S #[] false 0 0 false);obtain⟨w1,hw1⟩:∃w1,w.alloc (.chan S #[] false 0 0 false)=w1:=⟨_,rfl⟩
 have hg1:w1.heap[w.heap.size]?=some (.chan S #[] false 0 0 false):=by rw[←hw1];exact heap_alloc_new w _
 rw[hw1] at hkA;have h1:=h.keep hkA id;have hlay:=h1.lay hd (some w.heap.size);have hc1:=h1.chan hd;have hf1:=h1.free (d*65+64);have hmc:=M5 w S hS;rw[hw1] at hmc
 have e:Frame.enter Tryz.prog 217 #[.pointer (some ⟨b,d*65,none⟩),.int .i64 (S:Int)] .normal=(base 217).at ⟨#[.pointer (some ⟨b,d*65,none⟩),.int .i64 (S:Int),undef,undef,undef,undef,undef,undef,undef,undef,undef,undef,undef,undef,undef,undef,undef,undef,undef,undef,undef,undef,undef,undef],[]⟩ [.code (Tryz.f217.body.getD .skip)]:=by
  simp[Frame.enter,Frame.at,Tryz.func217,base,Tryz.f217]
 refine calls_of_loneTo fun cs=>?_
 rw[e];clear e;have HLAY:=O hlay;clear hlay h1;refine LoneTo.goes (n:=40) ?_;simp only[Tryz.f217,Option.getD_some]
 s_c stepG_seq
 s_reg
 s_op
 s_op
 s_op
 s_op
 s_op
 s_op
 s_c stepG_region_end
 s_c stepG_seq
 s_reg
 s_op
 s_c stepG_region_end
 s_c stepG_block
 s_c stepG_loop
 s_stop
 obtain⟨w2,hw2⟩:∃w2,w1.setCell ⟨b,d*65+64,none⟩ (.chan (some w.heap.size))=w2:=⟨_,rfl⟩
 rw[hw2] at HLAY ⊢;have hne:w.heap.size≠b:=by omega
 have hg2:=HLAY.out.2.blk hg1 hne;have hch:fE w2 w.heap.size S (aY L d 5):=⟨0,0,by rw[D4];exact hg2⟩
 refine Hd (He w2 b (d*65) D w.heap.size d S (fun e=>if e=d then some w.heap.size else c e) L cs rfl hd hS (if_pos rfl) hne (S-5) w2 5 _ _ _ _ _ _ _ _ _ _ _ _ _ _ _ _ _ _ _ (by omega) (by omega) HLAY.out.1 hch (aA.refl _ _)) ?_;rintro g' w' ⟨e,fr,he,⟨h4,h5,h6,h7⟩,h8,h9⟩;exact⟨e,fr,he,⟨h4,w.heap.size,h5,h6,Nat.le_refl _,(hkA.trans' HLAY.out.2 (U:=fun k=>k=b) (fun _ _ h=>h.elim) (fun _ _ h=>h)).trans' h7 (U:=fun k=>k=b) (fun _ _ h=>h) (fun i hi h=>h.elim id (fun e=>by omega))⟩,h8,h9⟩
def gI(w:World)(a:Nat)(S:Int)(v:Option Addr)(n:Nat):Prop:=w.heap[a]?=some (.cells #[.int .i64 S,.slice v n n] 248 (0,0))
theorem gI.keep{T:Nat->Prop}{w w':World}{a n:Nat}{S:Int}{v:Option Addr}(h:gI w a S v n)(k:aA T w w')(hT:¬T a):gI w' a S v n:=k.blk h hT
theorem gI.c0{w:World}{a n:Nat}{S:Int}{v:Option Addr}(h:gI w a S v n):w.cell? ⟨a,0,none⟩=some (.int .i64 S):=aC h rfl
theorem gI.c1{w:World}{a n:Nat}{S:Int}{v:Option Addr}(h:gI w a S v n):w.cell? ⟨a,1,none⟩=some (.slice v n n):=aC h rfl
structure dM(w:World)(lo a b:Nat)(c:Nat->Option Nat)(D S:Nat)(L:List Ad):Prop where
 top:gI w a (S:Int) (some ⟨b,0,none⟩) D
 words:bK w b c D L
 chans:∀d,d<D->∃g,c d=some g/\fE w g S (aY L d S)
 inj:∀d e g,d<D->e<D->c d=some g->c e=some g->d=e
 bd:2≤D/\D≤8/\8≤S/\S≤4096
 lo:lo≤a/\lo≤b/\∀d g,d<D->c d=some g->lo≤g
def Own(a b:Nat)(c:Nat->Option Nat)(D:Nat)(k:Nat):Prop:=k=a\/k=b\/∃d,d<D/\c d=some k
theorem dM.keep{T:Nat->Prop}{w w':World}{lo a b D S:Nat}{c:Nat->Option Nat}{L:List Ad}(h:dM w lo a b c D S L)(k:aA T w w')(hT:∀i,T i->¬Own a b c D i):dM w' lo a b c D S L:=
 ⟨h.top.keep k (fun ht=>hT _ ht (.inl rfl)),h.words.keep k (fun ht=>hT _ ht (.inr (.inl rfl))),fun d hd=>by
  obtain⟨g,h1,h2⟩:=h.chans d hd;exact⟨g,h1,h2.keep k fun ht=>hT _ ht (.inr (.inr ⟨d,hd,h1⟩))⟩,h.inj,h.bd,h.lo⟩
theorem dM.keep0{w w':World}{lo a b D S:Nat}{c:Nat->Option Nat}{L:List Ad}(h:dM w lo a b c D S L)(k:aA aB w w'):dM w' lo a b c D S L:=h.keep k fun _ h=>h.elim
theorem dM.own_lt{w:World}{lo a b D S:Nat}{c:Nat->Option Nat}{L:List Ad}(h:dM w lo a b c D S L){k:Nat}(hk:Own a b c D k):lo≤k/\k<w.heap.size:=by
 rcases hk with rfl|rfl|⟨d,hd,hc⟩
 ·exact⟨h.lo.1,(Array.getElem?_eq_some_iff.1 h.top).1⟩
 ·exact⟨h.lo.2.1,h.words.lt⟩
 ·obtain⟨g,h1,h2⟩:=h.chans d hd
  rw[hc] at h1;cases h1
  exact⟨h.lo.2.2 d k hd hc,h2.lt⟩
theorem Cp{x:Ad}{D S:Nat}(h:eV x D S=true):∃d s:Nat,x=⟨(d:Int),(s:Int)⟩/\d<D/\5≤s/\s<S:=by
 obtain⟨xd,xs⟩:=x;unfold eV at h;simp only[Bool.and_eq_true,decide_eq_true_eq] at h;obtain⟨⟨⟨⟨⟨⟨⟨h1,h2⟩,h3⟩,h4⟩,h5⟩,h6⟩,h7⟩,h8⟩:=h;exact⟨xd.toNat,xs.toNat,by rw[Int.toNat_of_nonneg h5,Int.toNat_of_nonneg (by omega)],by omega,by omega,by omega⟩
theorem LM{d s D S:Nat}(hD:2≤D/\D≤8/\8≤S/\S≤4096)(hd:d<D)(h5:5≤s)(hs:s<S):eV ⟨(d:Int),(s:Int)⟩ D S=true:=by
 unfold eV;simp only[Bool.and_eq_true,decide_eq_true_eq];refine⟨⟨⟨⟨⟨⟨⟨?_,?_⟩,?_⟩,?_⟩,?_⟩,?_⟩,?_⟩,?_⟩<;>omega
theorem zZ{x:Ad}{D S:Nat}(hD:2≤D/\D≤8/\8≤S/\S≤4096):eV x D S=true↔dZ x D S:=by
 constructor
 ·intro h
  obtain⟨d,s,rfl,h1,h2,h3⟩:=Cp h;exact⟨by show (0:Int)≤(d:Int);omega,by show (d:Int)<(D:Int);omega,by show (5:Int)≤(s:Int);omega,by show (s:Int)<(S:Int);omega⟩
 ·rintro⟨h1,h2,h3,h4⟩
  unfold eV;simp only[Bool.and_eq_true,decide_eq_true_eq];refine⟨⟨⟨⟨⟨⟨⟨?_,?_⟩,?_⟩,?_⟩,?_⟩,?_⟩,?_⟩,?_⟩<;>omega
theorem Cq(w:World)(a n:Nat)(S:Int)(v:Option Addr)(h:gI w a S v n):Calls Tryz.prog 218 #[.pointer (some ⟨a,0,none⟩)] w fun e w'=>e=.returned (.bool (decide (n=0)))/\w=w':=by
 have hc1:=h.c1;obtain⟨bb,hbb⟩:∃b,decide (n=0)=b:=⟨_,rfl⟩
 have he:((n:Int) == 0)=bb:=by
  rw[←hbb,Bool.eq_iff_iff,beq_iff_eq,decide_eq_true_eq];omega
 rw[hbb];clear h hbb;go_in;go_wp2;go_ret;exact⟨rfl,rfl⟩
theorem Hg(w:World)(a n:Nat)(Z:Int)(v:Option Addr)(h:gI w a Z v n)(x:Ad):Calls Tryz.prog 177 #[.pointer (some ⟨a,0,none⟩),.agg (aO x).toArray] w fun e w'=>e=.returned (.bool (eV x n Z))/\aA aB w w':=by
 obtain⟨w0,hw0,hk0,hb0,hs0⟩:=aT w (aO x).toArray 82;have h0:=h.keep hk0 id;have hc0:=h0.c0;have hc1:=h0.c1;have HBX:=O hb0;have HK:=O hk0;obtain⟨bb,hbb⟩:∃b,eV x n Z=b:=⟨_,rfl⟩
 have HM:=O (fun w'=>EG x n Z w');rw[hbb] at HM ⊢;unfold adV at HM;clear hb0 hs0 h h0 hk0 hbb;go_in;go_wp2_with fail;clear hw0;obtain⟨S,hS0⟩:∃S:World->Prop,S=fun w'=>aA aB w0 w':=⟨_,rfl⟩
 have HSE:=O (show ∀w',S w'->aA aB w0 w' from fun w' h=>by rw[hS0] at h;exact h);have HSI:=O (show ∀w',aA aB w0 w'->S w' from fun w' h=>by rw[hS0];exact h);have hS:S w0.drew:=by rw[hS0];exact(aA.refl _ _).drew
 clear hS0;refine wp_region_held (S:=S) (by kernel_rfl) ?_;change wpAnyH _ _ _ _ _ _ _ _ w0.drew;generalize w0.drew=wq41 at hS ⊢;refine tkd 0 (.agg (aO x).toArray) rfl (yieldsIf_load_mid (by rfl) 82 (.tmp 3) rfl (w.heap.size) (0) rfl (aO x) _ (fun w' h=>aD ((HSE.out w' h).blk HBX.out id)) bS rfl bW) hS ?_;simp only[Act.put,List.setIfInBounds_toArray,List.set_cons_zero,List.set_cons_succ,List.getElem_toArray,List.getElem_cons_zero];refine tna 1 (.pointer (some ⟨a,0,none⟩)) rfl hS ?_;refine tnb 2 (.pointer (some ⟨a,0,none⟩)) rfl hS ?_;refine tnb 3 (.pointer (some ⟨a,1,none⟩)) rfl hS ?_;refine tnd 4 (.slice v n n) rfl (.inl ⟨by rfl,fun w' hw'=>by have c:=(HSE.out w' hw').cell hc1 id;go_simp⟩) hS ?_;refine tnb 5 (.int .i64 n) rfl hS ?_;refine tna 6 (.pointer (some ⟨a,0,none⟩)) rfl hS ?_;refine tnb 7 (.pointer (some ⟨a,0,none⟩)) rfl hS ?_;refine tnb 8 (.pointer (some ⟨a,0,none⟩)) rfl hS ?_;refine tnd 9 (.int .i64 Z) rfl (.inl ⟨by rfl,fun w' hw'=>by have c:=(HSE.out w' hw').cell hc0 id;go_simp⟩) hS ?_;refine wA9 10 ?_;go_wp2_with fail;refine(HM.out _).mono ?_;rintro e wq42 ⟨rfl,hk⟩;have hS1:=HSI.out _ ((HSE.out _ hS).trans hk);clear hS hk;go_wp2_with fail;refine⟨hS1,?_⟩;refine tna 11 (.bool bb) rfl hS1 ?_;refine wpAnyH_done (by kernel_rfl) ?_ _;have HKR:=O (HSE.out _ hS1);clear hS1 HSE HSI;have HK:=O (HK.out.trans HKR.out);go_wp2;go_ret;exact⟨rfl,HK.out⟩
end
end Go.Proofs.YtiinnfhjpaeffaaGreat
