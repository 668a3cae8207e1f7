import Derived.Test.YtiinnfhjpaeffaaGreatA1
import Derived.Test.YtiinnfhjpaeffaaGreatA22
import Derived.Test.YtiinnfhjpaeffaaGreatA23
namespace Go.Proofs.YtiinnfhjpaeffaaGreat
set_option maxHeartbeats 64000000
set_option maxRecDepth 100000
set_option linter.unusedVariables false
section
open Go.RowKit Go.Maps Go.ChangeMaps
variable{w w0:World}{m a D Z nw d s j:Nat}{B:Nat->Prop}{Mm:Nat->Nat->List UInt8}{rest:List Ad}{o o':Obj}
theorem KW:Tryz.prog.underlying 293=some (.struct (Tryz.prog.fieldsOf 293)):=by kernel_rfl
theorem xS:(Tryz.prog.info? 293).map (·.size)=some 2:=by kernel_rfl
theorem KX(p:Option Addr)(n c:Nat)(w:World):(Instr.build 293 #[(0,.int .i64 0),(1,.slice p n c)]).run Tryz.prog w=.ok (.agg #[.int .i64 0,.slice p n c]) w:=by kernel_rfl
def Dx(w:World)(b:List UInt8)(e:Ending)(w':World):Prop:=∃v,e=.returned (.agg #[.int .i64 0,v])/\w'.ownsRow w.heap.size 5 1 v 256 (b.map vb)/\aA aB w w'
theorem KY(h:bR w a B D Z Mm nw)(hm:eQ w m a)(hd:d<D)(hs:s<Z)(sum:List UInt8)(A:sum=cZ (Mm d s)) :
 Calls Tryz.prog 246 #[.pointer m,.agg (aM ⟨(d:Int),(s:Int)⟩).toArray,.agg (sum.map vb).toArray] w (Dx w (Mm d s)):=by
 have P:=h.len hd hs;have I:sum.length=32:=by rw[A,cV]
 have G:Hid (∀w,(binOp .neq 25 (.agg ((cZ (Mm d s)).map vb).toArray) (.agg (sum.map vb).toArray)).run Tryz.prog w=.ok (.bool false) w):=O (fun w=>by
  have:=yQ (C3 (cZ (Mm d s)) sum (by rw[cV]) I w);rw[this,decide_eq_true A.symm];rfl)
 obtain⟨K,r⟩:∃l,sum.map vb=l:=⟨_,rfl⟩
 have hsc:K.length=32:=by rw[←r,List.length_map,I]
 have HOS:Hid (∀u∈K,u.oneCell'=true):=O (by rw[←r];exact bS _);rw[r] at G ⊢;obtain⟨dg,H⟩:∃l,(cZ (Mm d s)).map vb=l:=⟨_,rfl⟩
 rw[H] at G;have T:=O H;have t:=O h;have f:=O hm;have N:=O P;have k:=lN w;have HK0:=O (aA.refl aB w);have hbC:=KX;clear h hm P r H A I;go_in
 go_wp2_with ((with_reducible show WL _ _);refine bxL k 82 (.tmp 1) ((aM ⟨(d:Int),(s:Int)⟩).toArray) ?_)
 intro Q w1 b k;replace t:=O (t.keep0 b);replace f:=O (b.blk f.out id);clear b
 go_wp2_with ((with_reducible show WL _ _);refine bxL k 25 (.tmp 2) (K.toArray) ?_)
 intro b5 w2 b k;replace t:=O (t.keep0 b);replace f:=O (b.blk f.out id);clear b
 go_wp2_with ((with_reducible show WL _ _);refine alL k 293 (.agg #[.int .i64 0,.slice none 0 0]) (#[.int .i64 0,.slice none 0 0]) Dw ?_)
 intro W w3 b k;replace t:=O (t.keep0 b);replace f:=O (b.blk f.out id);clear b;go_wp2_with fail;refine dwA aB (by kernel_rfl) ?_;intro w4 S n z q p;replace k:=kL k p;replace t:=O (t.keep0 p);replace f:=O (p.blk f.out id);clear p;have x:=k;have R:=t;have F:=f;refine tna 0 (.pointer m) rfl q ?_;refine tnb 1 (.pointer m) rfl q ?_;refine tnb 2 (.pointer m) rfl q ?_;refine tnd 3 (.pointer a) rfl (.inl ⟨by rfl,fun E C=>by have c:World.cell? E ⟨m,0,none⟩=some (.pointer a):=(n.out E C).cell (eQ.c0 F.out) id;go_simp⟩) q ?_;refine tnb 4 (.pointer Q) rfl q ?_;refine tnd 5 (.int .i64 (d:Int)) rfl (.inl ⟨by rfl,fun E C=>by have c:World.cell? E ⟨Q,0,none⟩=some (.int .i64 (d:Int)):=(aC (i:=0) ((n.out E C).blk (x.b 2) id) rfl);go_simp⟩) q ?_;refine tnb 6 (.pointer (some ⟨Q,1,none⟩)) rfl q ?_;refine tnd 7 (.int .i64 (s:Int)) rfl (.inl ⟨by rfl,fun E C=>by have c:World.cell? E ⟨Q,1,none⟩=some (.int .i64 (s:Int)):=(aC (i:=1) ((n.out E C).blk (x.b 2) id) rfl);go_simp⟩) q ?_;refine wA9 8 ?_;go_wp2_with fail;have L:=O (k.lt 0).2;have M:=O (k.lt 0).1;refine(Oo t.out hd hs).mono ?_;rintro e w5 ⟨v0,rfl,Y,b⟩;have g:=z.out _ ((n.out _ q).trans b);replace k:=kL k b;replace t:=O (t.keep0 b);replace f:=O (b.blk f.out id);clear q b;obtain⟨pv,J,rfl,-,-⟩:=(Rd.of_owns Y).form;have y:=O Y;have V:=O (Nat.le_of_lt (Nat.lt_of_le_of_lt M.out L.out));have hb6:W<w4.heap.size:=L.out;clear Y;go_wp2_with fail;refine⟨g,?_⟩;refine tna 9 (.tuple #[.slice pv 256 J,.int .i64 0]) rfl g ?_;refine tnb 10 (.slice pv 256 J) rfl g ?_;refine tnb 11 (.int .i64 0) rfl g ?_;refine tna 12 (.slice pv 256 J) rfl g ?_;refine tna 13 (.int .i64 0) rfl g ?_;refine wpAnyH_done (by kernel_rfl) ?_ _;clear g n z x R F;clear t f;go_wp2_with fail;refine dwA aB (by kernel_rfl) ?_;intro w6 S n z q p;replace k:=kL k p;replace y:=O (p.owns y.out fun _ _=>id);clear p;have x:=k;have U:=y;refine tna 0 (.slice pv 256 J) rfl q ?_;refine tnd 2 (.agg K.toArray) rfl (yieldsIf_load_mid (by rfl) 25 (.tmp 5) rfl b5 0 rfl K _ (fun E h=>aD ((n.out E h).blk (x.b 1) id)) Tryz.underlying25 rfl (by rw[hsc];exact uU)) q ?_;refine wA9 1 ?_;go_wp2_with fail;refine(vR _ (Mm d s) w6 (by rw[N.out];exact Rd.of_owns y.out) (by rw[N.out];decide)).mono ?_;rintro e w7 ⟨rfl,b⟩;have g:=z.out _ ((n.out _ q).trans b);replace k:=kL k b;replace y:=O (b.owns y.out fun _ _=>id);clear q b;rw[T.out];go_wp2_with fail;refine⟨g,?_⟩;refine tnd 3 (.bool false) rfl (gE (by rfl) 25 (.tmp 39) (.tmp 40) 25 rfl dg.toArray K.toArray rfl rfl Mt G.out) g ?_;refine tna 4 (.bool false) rfl g ?_;refine wpAnyH_done (by kernel_rfl) ?_ _;clear g n z x U
 go_wp2_with ((with_reducible show WL _ _);refine sta 293 (.tmp 6) (.tmp 48) W 0 ([.int .i64 0,.slice pv 256 J]) (k.b 0) (by first|decide|(rw[rfl];exact Nat.le_refl _)|simp[]) xS (by intro v hv;simp only[List.mem_cons,List.not_mem_nil,or_false] at hv;rcases hv with rfl|rfl<;>rfl) ?_)
 intro w8 b X;rw[aK _ _ (by first|rfl|simp[])] at X;replace k:=O (k.set 0 b X);replace y:=O (b.owns y.out fun i hi e=>by have:=aU y.out hi;omega);clear b X;have HP:Hid (Dx w (Mm d s) (.returned (.agg #[.int .i64 0,.slice pv 256 J])) w8):=O ⟨_,rfl,aQ y.out (V.out),k.keep⟩;have HB:=O (k.b 0);clear y k;go_wp2_with fail;refine bodyPost_ret (results_cell_row rfl _ _ W _ _ _ _ rfl HB.out KW rfl xS) rfl ?_;exact HP.out
def zM(b:Ad)(x:Option Addr×Nat):Array Value:=#[.agg (aM b).toArray,.agg #[.int .i64 0,.slice x.1 256 x.2]]
def CpR(bs:List UInt8)(x:Option Addr×Nat)(A B:World):Prop:=aA aB A B/\B.ownsRow A.heap.size 5 1 (.slice x.1 256 x.2) 256 (bs.map vb)
theorem EC{R J T:Nat}{Res:Nat->Prop}(h:bR w a B D Z Mm nw)(hm:eQ w m a)(pv:Value)(p:Pt)(hp:PtV w pv p)(Y:p.addrs=⟨(d:Int),(s:Int)⟩::rest)(hd:d<D)(hs:s<Z)(I:p.sum=cZ (Mm d s))
 (h4:w.heap[J]?=some (.cells (aE pv p).toArray 27 (0,0))) (h5:w.heap[T]?=some (.cells #[.int .i64 (-1)] 3 (0,0))) (h3:w.heap[R]?=some (.cells #[.pointer m] 41 (0,0))) (H:∀k,Res k->k<w.heap.size/\k≠R/\k≠J/\k≠T) (n:Nat) :
 ∀(l:Nat) (Jx:Option Addr×Nat->World->Prop) (W:World),aA aB w W->(∀x W1,CpR (Mm d s) x W W1->YieldAt Fence.wide (n-1) Tryz.prog l (zM ⟨(d:Int),(s:Int)⟩ x) W1 fun e W'=>e=.returned (.bool false)/\Jx x W'/\KpC Res W1 W') ->
  CallsIn Fence.wide n Tryz.prog 245 (#[.func (.yield l) #[] #[]]++#[.pointer J,.pointer T,.pointer R]) W fun e W'=>(∃v,e=.returned v)/\∃x,Jx x W':=by
 intro l Jx W u hy;obtain⟨oa,ca,rfl,-,-⟩:=hp.rd.form;have hrd:=(hp.keep u fun _ _=>id).rd;obtain⟨g,o,cap',hv,L⟩:=fO hrd (k:=0) (x:=⟨(d:Int),(s:Int)⟩) (by rw[Y];rfl);obtain rfl:oa=some ⟨g,o,none⟩:=by cases hv;rfl
 rw[Nat.zero_mul,Nat.add_zero] at L;obtain⟨q,hq⟩:∃q,p.addrs.length=q:=⟨_,rfl⟩
 have hq0:0<q:=by rw[←hq,Y];simp
 have hq1:(0:Int)<(q:Int):=by omega
 have hsl:p.sum.length=32:=hp.sum;rw[hq] at h4;have HX:=O L;have HD:=O hd;have HZ:=O hs;have HSM:=O I;have HSL:=O hsl;have H4:=O (u.blk h4 id);have H5:=O (u.blk h5 id);have H3:=O (u.blk h3 id);have HA:=O (h.keep0 u);have HMM:Hid (eQ W m a):=O (u.blk hm id);have HY:=O hy;have HR:=O H;have HWS:=O u.size;have c0:W.cell? ⟨J,0,none⟩=some (.slice (some ⟨g,o,none⟩) q ca):=aC (i:=0) H4.out (by rw[List.getElem?_toArray];rfl);clear h hm I hsl h4 h5 h3 u hy H hrd hv L hp hq;refine callsIn_of_wp Tryz.func245 rfl trivial ?_ rfl;simp only[Tryz.ntmps245,List.size_toArray,List.length_cons,List.length_nil,Nat.reduceAdd,Nat.reduceSub,Array.replicate_succ,Array.replicate_zero,List.push_toArray,List.append_toArray,List.nil_append,List.cons_append]
 gi_wp2
 clear c0
 gi_loopw [10] (fun i wr=>i=.int .i64 0/\Hid (aA aB W wr)) (fun _ _=>0)
 case atStart=>exact⟨rfl,O (aA.refl _ _)⟩
 case round =>
  obtain⟨rfl,y⟩:=hrel;obtain⟨C,hC⟩:∃C,wr.heap.size=C:=⟨_,rfl⟩
  have hxc:=y.rangeAt HX.out
  gi_wp2_with (first
   | (refine kJ rfl 82 (.tmp 12) rfl g o rfl (aM ⟨(d:Int),(s:Int)⟩) _ hxc bB rfl (by rw[bE];exact bH) ?_)
   | (refine oL rfl 82 rfl bT eH #[.int .i64 0,.int .i64 0] rfl ?_)
   | (refine nP rfl 82 (.tmp 6) (.tmp 13) rfl wr.heap.size 0 (aM ⟨(d:Int),(s:Int)⟩) rfl rfl #[.int .i64 0,.int .i64 0] _ (heap_alloc_new _ _) (by rw[bE];simp) (by rw[bE];exact bH) (bG _) ?_;intro w3 G V
      rw[aK _ _ (by rw[bE];simp)] at G)
   | gi_in)
  have X:aA aB wr w3:=((aA.refl aB wr).alloc _).trans' V (fun _ _ h=>h) (fun i hi e=>by omega);have N:=O y.size;replace y:=O (y.trans X);clear V hxc X;rw[hC] at G N ⊢;have P:=O (And.intro G (And.intro (y.blk H4.out id) (And.intro (y.blk H5.out id) (y.blk H3.out id))));clear G hC H4 H5 H3;obtain⟨S,K⟩:∃S:World->Prop,S=fun r=>r.heap[C]?=some (.cells (aM ⟨(d:Int),(s:Int)⟩).toArray 82 (0,0))/\r.heap[J]?=some (.cells (aE (.slice (some ⟨g,o,none⟩) q ca) p).toArray 27 (0,0))/\r.heap[T]?=some (.cells #[.int .i64 (-1)] 3 (0,0))/\r.heap[R]?=some (.cells #[.pointer m] 41 (0,0)):=⟨_,rfl⟩
  have b:=O (show ∀r,S r->_ from fun r h=>by rw[K] at h;exact h);have E:=O (show ∀r,_->S r from fun r h=>by rw[K];exact h);have t:S w3.drew:=E.out _ (by have:=P.out;exact this);have M:=(aA.refl aB w3).drew;clear K P;refine wI (S:=S) (by kernel_rfl) ?_;change eG _ _ _ _ _ _ _ _ _ w3.drew;generalize w3.drew=w4 at t M ⊢;replace y:=O (y.trans M);clear M;refine tib 0 (.pointer (some ⟨C,0,none⟩)) rfl t ?_;refine tid 1 (.int .i64 (d:Int)) rfl (.inl ⟨by rfl,fun r A=>by have c:World.cell? r ⟨C,0,none⟩=some (.int .i64 (d:Int)):=aC (i:=0) (b.out r A).1 rfl;go_simp⟩) t ?_;refine tid 2 (.int .i64 (-1)) rfl (.inl ⟨by rfl,fun r A=>by have c:World.cell? r ⟨T,0,none⟩=some (.int .i64 (-1)):=aC (i:=0) (b.out r A).2.2.1 rfl;go_simp⟩) t ?_
  refine tid 3 (.bool true) rfl (.inl ⟨by rfl,fun r A=>by
   have e:(d:Int)≠-1:=by omega
   go_simp⟩) t ?_
  refine tia 4 (.bool true) rfl t ?_;refine tia 5 (.func (.yield l) #[] #[]) rfl t ?_;refine tid 6 (.agg (aM ⟨(d:Int),(s:Int)⟩).toArray) rfl (yieldsIf_load_mid (by rfl) 82 (.tmp 6) rfl C 0 rfl (aM ⟨(d:Int),(s:Int)⟩) _ (fun r h=>aD (b.out r h).1) bB rfl (by rw[bE];exact bH)) t ?_;refine tid 7 (.pointer m) rfl (.inl ⟨by rfl,fun r A=>by have c:World.cell? r ⟨R,0,none⟩=some (.pointer m):=aC (i:=0) (b.out r A).2.2.2 rfl;go_simp⟩) t ?_;refine tid 8 (.agg (aM ⟨(d:Int),(s:Int)⟩).toArray) rfl (yieldsIf_load_mid (by rfl) 82 (.tmp 6) rfl C 0 rfl (aM ⟨(d:Int),(s:Int)⟩) _ (fun r h=>aD (b.out r h).1) bB rfl (by rw[bE];exact bH)) t ?_;refine tib 9 (.pointer (some ⟨J,3,none⟩)) rfl t ?_;refine tid 10 (.agg (p.sum.map vb).toArray) rfl (yieldsIf_load_mid (by rfl) 25 (.tmp 23) rfl J 3 rfl (p.sum.map vb) _ (fun r h=>(bQ (aD (b.out r h).2.1)).2.2.2) Tryz.underlying25 rfl (by rw[List.length_map,HSL.out];exact uU)) t ?_;refine Dv (k:=11) (f:=246) (args:=#[.pointer m,.agg (aM ⟨(d:Int),(s:Int)⟩).toArray,.agg (p.sum.map vb).toArray]) rfl (by kernel_rfl) (by kernel_rfl) (by kernel_rfl) (by first|rfl|go_simp) (KY (HA.keep0 y.out) (y.blk HMM.out id) HD.out HZ.out p.sum HSM.out) ?_;rintro e w5 ⟨v0,rfl,ho,u⟩;obtain⟨pv2,cv,rfl,-,-⟩:=(Rd.of_owns ho).form;have HK5:=O (y.trans u);have z:S w5:=E.out _ ⟨u.blk (b.out _ t).1 id,u.blk (b.out _ t).2.1 id,u.blk (b.out _ t).2.2.1 id,u.blk (b.out _ t).2.2.2 id⟩;have Q:=O (HY.out (pv2,cv) w5 ⟨HK5.out,aQ ho y.size⟩);clear ho u t;refine⟨_,rfl,z,nrm ?_⟩;refine B9 (k:=12) (l:=l) rfl (by kernel_rfl) (by kernel_rfl) (by kernel_rfl) (by first|rfl|(unfold zM;go_simp;done)|(unfold zM;unfold execOp;simp[Act.put,resolve,invoke,go_sem,Act.eval];done)) Q.out ?_;rintro e w6 ⟨rfl,hj,U⟩;have F:S w6:=E.out _ ⟨U _ _ _ _ (fun e=>by have:=(HR.out _ e).1;have:=N.out;have:=HWS.out;omega) (b.out _ z).1,U _ _ _ _ (fun e=>(HR.out _ e).2.2.1 rfl) (b.out _ z).2.1,U _ _ _ _ (fun e=>(HR.out _ e).2.2.2 rfl) (b.out _ z).2.2.1,U _ _ _ _ (fun e=>(HR.out _ e).2.1 rfl) (b.out _ z).2.2.2⟩;refine⟨_,rfl,F,nrm ?_⟩;refine tib 13 (.bool true) rfl F ?_;refine tia 14 (.bool true) rfl F ?_;refine Du (by kernel_rfl) ?_ _;have HJ:=O hj;clear hj U z F b E Q
  gi_wp2
  refine bodyPost_ret (results_none rfl _ _ _) rfl ?_;exact⟨⟨_,rfl⟩,_,HJ.out⟩
def MJ(w:World)(m:Nat)(g:List Value)(e:Ending)(w':World):Prop:=∃b c f,e=.returned (.func (.func 245) #[] #[.pointer (some ⟨c,0,none⟩),.pointer (some ⟨f,0,none⟩),.pointer (some ⟨b,0,none⟩)])/\w'.heap[c]?=some (.cells g.toArray 27 (0,0))/\w'.heap[f]?=some (.cells #[.int .i64 (-1)] 3 (0,0))/\w'.heap[b]?=some (.cells #[.pointer m] 41 (0,0))/\(w.heap.size≤b/\w.heap.size≤c/\w.heap.size≤f)/\aA aB w w'
theorem Gz(w:World)(m:Nat)(e:List Value)(l:e.length=35)(f:∀u∈e,u.oneCell'=true):Calls Tryz.prog 210 #[.pointer m,.agg e.toArray,.int .i64 (-1)] w (MJ w m e):=by
 have g:=O f;have b:=lN w;clear f;go_in
 go_wp2_with ((with_reducible show WL _ _);refine bxL b 41 (.tmp 0) (#[.pointer m]) ?_)
 intro h n c b;clear c
 go_wp2_with ((with_reducible show WL _ _);refine bxL b 27 (.tmp 1) (e.toArray) ?_)
 intro i p c b;clear c
 go_wp2_with ((with_reducible show WL _ _);refine bxL b 3 (.tmp 2) (#[.int .i64 (-1)]) ?_)
 intro k q c b;clear c;go_wp2_with fail;go_wp2;go_ret;exact⟨h,i,k,rfl,b.b 1,b.b 0,b.b 2,⟨(b.lt 2).1,(b.lt 1).1,(b.lt 0).1⟩,b.keep⟩
theorem Loc.put{S:Nat->Prop}{l:List (Nat×Array Value×TypeId)}(h:Loc S B w0 w l)(c:w.heap[j]?=some o)(k:o.isCells=false)(q:w0.heap.size≤j):Loc S B w0 (w.putObj j o') l:=by
 have f:=aA.of_grown (grownBy_putObj' w j o');refine⟨h.keep.trans' f (fun _ _ h=>h) (fun i p e=>by cases e;omega),h.ge,h.nd,fun x n=>?_,h.ap⟩;have b:=h.at_ x n;refine f.blk b (fun e=>?_);have g:j=x.1:=Option.some.inj e;rw[g,b] at c;cases c
 cases k
theorem xU{base n sz:Nat}{T:TypeId}{v:Value}{cs:List Value}(h:w.ownsRow base T sz v n cs)(f:w.heap[j]?=some o)(g:o.isCells=false):(w.putObj j o').ownsRow base T sz v n cs:=
 (aA.of_grown (grownBy_putObj' w j o')).owns h fun k c e=>by
   cases e
   obtain⟨cur,b⟩:=aO h c;rw[f] at b;cases b
   cases g
theorem AJ{e:Func}{p q r:Tmp}{k l n:TypeId}(h:e.results=#[.cell p k,.cell q l,.cell r n])(tmps:Array Value)(P:Program)(w:World)(a b c:Addr)(x y z:Value)
 (f:tmps.getD p undef=.pointer (some a)) (g:tmps.getD q undef=.pointer (some b)) (i:tmps.getD r undef=.pointer (some c)) (t:(loadVar k a).run P w=.ok x w) (hy:(loadVar l b).run P w=.ok y w) (u:(loadVar n c).run P w=.ok z w) :
 (results e tmps).run P w=.ok (.tuple #[x,y,z]) w:=by
 simp only[results,h];simp only[Array.getD_eq_getD_getElem?] at f g i;simp[Sem.run_bind,Result.andThen,asAddr,f,g,i,t,hy,u]
structure FdI(w0:World)(b6 b7 b8:Nat)(bs:List UInt8)(W:World):Prop where
 v:∃v,W.heap[b6]?=some (.cells #[v] 109 (0,0))/\W.ownsRow w0.heap.size 5 1 v 256 (bs.map vb)
 n:W.heap[b7]?=some (.cells #[.slice none 0 0] 23 (0,0))
 z:W.heap[b8]?=some (.cells #[.int .i64 0] 49 (0,0))
 k:aA aB w0 W
theorem FdI.put{W:World}{c f g:Nat}{bs:List UInt8}(h:FdI w0 c f g bs W)(r:W.heap[j]?=some o)(u:o.isCells=false)(A:w0.heap.size≤j):FdI w0 c f g bs (W.putObj j o'):=by
 obtain⟨⟨v,l,x⟩,n,p,y⟩:=h;have b:=aA.of_grown (grownBy_putObj' W j o')
 have no:∀{k:Nat}{cs:Array Value}{t:TypeId},W.heap[k]?=some (.cells cs t (0,0))->¬some j=some k:=fun q e=>by
  cases e;rw[r] at q;cases q;cases u
 exact⟨⟨v,b.blk l (no l),xU x r u⟩,b.blk n (no n),b.blk p (no p),y.trans' b (fun _ _ h=>h) (fun i z e=>by cases e;omega)⟩
theorem Bv(T:Array Value)(p q:Tmp)(a b:Value):((#[p,q].zip #[a,b]).foldl (fun(t:Array Value) (x:Tmp×Value)=>match x with|(p,v)=>t.setIfInBounds p v) T)=(T.setIfInBounds p a).setIfInBounds q b:=by simp
def Dy(w:World)(bs:List UInt8)(e:Ending)(w':World):Prop:=∃v,e=.returned (.tuple #[v,.slice none 0 0,.int .i64 0])/\w'.ownsRow w.heap.size 5 1 v 256 (bs.map vb)/\aA aB w w'
theorem GA(h:bR w a B D Z Mm nw)(hm:eQ w m a)(pv:Value)(p:Pt)(hp:PtV w pv p)(hpa:p.addrs=⟨(d:Int),(s:Int)⟩::rest)(hd:d<D)(hs:s<Z)(hsum:p.sum=cZ (Mm d s)) :
 Calls Tryz.prog 161 #[.pointer m,.agg (aE pv p).toArray,.int .i64 (-1)] w (Dy w (Mm d s)):=by
 have hpc:=aJ (v:=pv) hp.sum;obtain⟨pc,H⟩:∃l,aE pv p=l:=⟨_,rfl⟩
 have HOP:Hid (∀u∈pc,u.oneCell'=true):=O (by rw[←H];obtain⟨oa,ca,rfl,-,-⟩:=hp.rd.form;exact cP p);have HPS:=O H;rw[H] at hpc ⊢;have G:=O h;have g:=O hm;have q:=O hp;have HPA:=O hpa;have HD:=O hd;have HZ:=O hs;have HSM:=O hsum;have f:=lN w;clear h hm hp H hpa hd hs hsum;refine callsIn_wide.1 (callsIn_of_wp_marks (F:=Fence.wide) (n:=3) Tryz.func161 rfl trivial (wpIn_wide.2 ?_));simp only[Tryz.ntmps161,List.size_toArray,List.length_cons,List.length_nil,Nat.reduceAdd,Nat.reduceSub,Array.replicate_succ,Array.replicate_zero,List.push_toArray,List.append_toArray,List.nil_append,List.cons_append]
 go_wp2_with ((with_reducible show WL _ _);refine bxL f 27 (.tmp 1) (pc.toArray) ?_)
 intro b4 w1 b f;replace G:=O (G.keep0 b);replace g:=O (b.blk g.out id);replace q:=O (q.keep b fun _ _=>id);clear b
 go_wp2_with ((with_reducible show WL _ _);refine alL f 109 (.slice none 0 0) (#[.slice none 0 0]) NJ ?_)
 intro J w2 b f;replace G:=O (G.keep0 b);replace g:=O (b.blk g.out id);replace q:=O (q.keep b fun _ _=>id);clear b
 go_wp2_with ((with_reducible show WL _ _);refine alL f 23 (.slice none 0 0) (#[.slice none 0 0]) NK ?_)
 intro K w3 b f;replace G:=O (G.keep0 b);replace g:=O (b.blk g.out id);replace q:=O (q.keep b fun _ _=>id);clear b
 go_wp2_with ((with_reducible show WL _ _);refine alL f 49 (.int .i64 0) (#[.int .i64 0]) kF ?_)
 intro L w4 b f;replace G:=O (G.keep0 b);replace g:=O (b.blk g.out id);replace q:=O (q.keep b fun _ _=>id);clear b
 go_wp2_with ((with_reducible show WL _ _);refine alL f 23 (.slice none 0 0) (#[.slice none 0 0]) NK ?_)
 intro b9 w5 b f;replace G:=O (G.keep0 b);replace g:=O (b.blk g.out id);replace q:=O (q.keep b fun _ _=>id);clear b
 go_wp2_with ((with_reducible show WL _ _);refine wpList_load_mid rfl 27 (.tmp 4) rfl b4 0 rfl pc _ (aD (f.b 4)) aH rfl (szP9 hpc) ?_)
 have Y:=f;refine(Gz w5 m pc hpc HOP.out).mono ?_;rintro e w6 ⟨c3,c4,c5,rfl,h4,h5,h3,hge,b⟩;replace f:=kL f b;replace G:=O (G.keep0 b);replace g:=O (b.blk g.out id);replace q:=O (q.keep b fun _ _=>id);clear b;have H4:=O h4;have H5:=O h5;have H3:=O h3;have HGE:=O hge;clear h4 h5 h3 hge;go_wp2_with fail;have hwp:=HPS.out;have hgb:=HGE.out;have hbl6:=(Y.lt 3);have hbl7:=Y.lt 2;have hbl8:=Y.lt 1;have H4':Hid (w6.heap[c4]?=some (.cells (aE pv p).toArray 27 (0,0))):=O (by rw[HPS.out];exact H4.out);have HCP:=EC (Res:=fun k=>k=J\/k=K\/k=L) G.out g.out pv p q.out HPA.out HD.out HZ.out HSM.out H4'.out H5.out H3.out (fun k b=>by have:=(f.lt 1).2;have:=(f.lt 2).2;have:=(f.lt 3).2;rcases b with rfl|rfl|rfl<;>omega) (3-1);have h6s:J<w6.heap.size:=(f.lt 3).2;have h7s:K<w6.heap.size:=(f.lt 2).2;have h8s:L<w6.heap.size:=(f.lt 1).2;have h9s:b9<w6.heap.size:=(f.lt 0).2;have HW:=O f.keep.size;clear Y q g G H3 H4 H4' H5 hgb hbl6 hbl7 hbl8 hwp;refine wpIn_wide (n:=3).1 ?_;refine Ca rfl (by omega) (gf:=245) rfl trivial (enters_of Tryz.func245 (by kernel_rfl) rfl) (encs:=zM ⟨(d:Int),(s:Int)⟩) (R:=CpR (Mm d s)) (fun _ _ _ h=>h.1) HCP (fun _=>rfl) (FdI w J K L (Mm d s)) (fun W l o hl hI U X o'=>hI.put U X (by have:=HW.out;omega)) ?round ?stop
 case round =>
  rintro l ⟨px,cx⟩ W W1 b ⟨hk1,U⟩ hl;replace f:=O (f.keeps (b.trans hk1));have x:=O U;have hks:=b.size;have h6w:J<W.heap.size:=by omega
  have h7w:K<W.heap.size:=by omega
  have h8w:L<W.heap.size:=by omega
  have z:=O (aA.refl aB W1);clear b hk1 U HCP;unfold zM;dsimp only;rw[Bv];simp only[List.setIfInBounds_toArray,List.set_cons_zero,List.set_cons_succ];refine wpIn_seq ?_;refine cU (by kernel_rfl) (fun ⟨_,_,h⟩=>h) ?_
  go_wp2_with ((with_reducible show WL _ _);refine al 82 (.agg jN.toArray) (jN.toArray) uT ?_)
  intro b10 w7 N Q A
  go_wp2_with ((with_reducible show WL _ _);refine sta 82 (.tmp 10) (.tmp 16) b10 0 (aM ⟨(d:Int),(s:Int)⟩) A (by first|decide|(rw[List.size_toArray,bE];exact Nat.le_refl _)|simp[bE]) (by rw[bE];exact iU) (bG _) ?_)
  intro w8 b r;rw[aK _ _ (by first|rfl|(rw[List.size_toArray,bE];rfl)|simp[bE])] at r;replace b:=tX Q b (fun i P e=>by omega);replace f:=lW f N b r;replace z:=O (z.trans b);replace x:=O (b.owns x.out fun _ _=>id);clear N b r Q A;go_wp2_with fail;refine cU (by kernel_rfl) (fun ⟨_,_,h⟩=>h) ?_
  go_wp2_with ((with_reducible show WL _ _);refine al 293 (.agg #[.int .i64 0,.slice none 0 0]) (#[.int .i64 0,.slice none 0 0]) Dw ?_)
  intro b11 w9 N Q A
  go_wp2_with ((with_reducible show WL _ _);refine sta 293 (.tmp 11) (.tmp 17) b11 0 ([.int .i64 0,.slice px 256 cx]) A (by first|decide|(rw[List.size_toArray,rfl];exact Nat.le_refl _)|simp[]) xS (by intro v hv;simp only[List.mem_cons,List.not_mem_nil,or_false] at hv;rcases hv with rfl|rfl<;>rfl) ?_)
  intro wa b r;rw[aK _ _ (by first|rfl|(rw[List.size_toArray,rfl];rfl)|simp[])] at r;replace b:=tX Q b (fun i P e=>by omega);replace f:=lW f N b r;replace z:=O (z.trans b);replace x:=O (b.owns x.out fun _ _=>id);clear N b r Q A;go_wp2_with fail;refine⟨eY z.out (fun _ _ _ h=>h.elim),KpC.of z.out (fun _ h=>h.elim),fun o o' hoo X=>?_⟩;have hlw:w.heap.size≤l:=by have:=HW.out;omega
  replace f:=O (f.put (o':=o') hoo X hlw);replace x:=O (xU (o':=o') x.out hoo X);clear z;generalize World.putObj wa l o'=V at f x ⊢;have HLV:=f;have z:Hid (aA (fun k=>k=J\/k=K\/k=L) V V):=O (aA.refl _ _);clear hoo X;refine wpIn_block ?_;refine wpIn_seq ?_;refine cU (by kernel_rfl) (fun ⟨_,_,h⟩=>h) ?_;have c1:V.cell? ⟨b11,0,none⟩=some (.int .i64 0):=(aC (i:=0) (f.b 0) rfl)
  go_wp2_with fail;clear c1;refine wpIn_block ?_;refine wpIn_seq ?_;refine cU (by kernel_rfl) (fun ⟨_,_,h⟩=>h) ?_;go_wp2_with fail;refine wpIn_cond_true rfl ?_;refine wpIn_seq ?_;go_wp2_with fail;obtain⟨S,hS0⟩:∃S:World->Prop,S=fun E=>aA (fun k=>k=J\/k=K\/k=L) V.drew E:=⟨_,rfl⟩
  have C:=O (show ∀E,S E->aA (fun k=>k=J\/k=K\/k=L) V.drew E from fun E h=>by rw[hS0] at h;exact h);have M:=O (show ∀E,aA (fun k=>k=J\/k=K\/k=L) V.drew E->S E from fun E h=>by rw[hS0];exact h);have hS:S V.drew:=by rw[hS0];exact aA.refl _ _
  have T:=(aA.refl aB V).drew;clear hS0;refine lO (by kernel_rfl) (by kernel_rfl) (fun ⟨_,_,h⟩=>h) (wpAny_of_held (S:=S) _ _ _ _ ?_);change wpAnyH _ _ _ _ _ _ _ _ V.drew;generalize V.drew=wb at C M hS T ⊢;replace f:=kL f T;replace z:=O (z.trans (aA.any T));replace x:=O (T.owns x.out fun _ _=>id);clear T;have y:=f;have HXs:=z;have HOs:=x;refine tnb 0 (.pointer (some ⟨b11,1,none⟩)) rfl hS ?_;refine tnd 1 (.slice px 256 cx) rfl (.inl ⟨by rfl,fun E hw'=>by have c:World.cell? E ⟨b11,1,none⟩=some (.slice px 256 cx):=aC (i:=1) ((C.out E hw').blk (y.b 0) (fun e=>by rcases e with e|e|e<;>first|exact bJ (i:=5) y.nd rfl 0 (by decide) rfl e|exact bJ (i:=4) y.nd rfl 0 (by decide) rfl e|exact bJ (i:=3) y.nd rfl 0 (by decide) rfl e)) rfl;go_simp⟩) hS ?_;refine tnd 2 (.slice none 0 0) rfl (.inl ⟨by rfl,fun E hw'=>by have c:World.cell? E ⟨b9,0,none⟩=some (.slice none 0 0):=aC (i:=0) ((C.out E hw').blk (y.b 2) (fun e=>by rcases e with e|e|e<;>first|exact bJ (i:=5) y.nd rfl 2 (by decide) rfl e|exact bJ (i:=4) y.nd rfl 2 (by decide) rfl e|exact bJ (i:=3) y.nd rfl 2 (by decide) rfl e)) rfl;go_simp⟩) hS ?_;refine wA9 3 ?_;refine sta 109 (.tmp 6) (.tmp 23) J 0 ([.slice px 256 cx]) (f.b 5) (by simp) (by kernel_rfl) (one9) ?_;intro wc b r;replace r:wc.heap[J]?=some (.cells #[.slice px 256 cx] 109 (0,0)):=r;have hS1:=M.out _ ((C.out _ hS).trans' b (fun _ _ h=>h) (fun i P e=>(.inl e)));clear hS;replace f:=O (f.set 5 b r);replace z:=O (z.trans' b (fun _ _ h=>h) (fun i _ e=>by first|exact .inl e|exact .inr (.inl e)|exact .inr (.inr e)));replace x:=O (b.owns x.out fun i P e=>by have:=aU x.out P;omega);clear b r;refine wpList_nil ?_;refine⟨hS1,?_⟩;refine wA9 4 ?_;refine sta 23 (.tmp 7) (.tmp 24) K 0 ([.slice none 0 0]) (f.b 4) (by simp) (by kernel_rfl) (one9) ?_;intro wd b r;replace r:wd.heap[K]?=some (.cells #[.slice none 0 0] 23 (0,0)):=r;have hS2:=M.out _ ((C.out _ hS1).trans' b (fun _ _ h=>h) (fun i P e=>(.inr (.inl e))));clear hS1;replace f:=O (f.set 4 b r);replace z:=O (z.trans' b (fun _ _ h=>h) (fun i _ e=>by first|exact .inl e|exact .inr (.inl e)|exact .inr (.inr e)));replace x:=O (b.owns x.out fun i P e=>by have:=aU x.out P;omega);clear b r;refine wpList_nil ?_;refine⟨hS2,?_⟩;refine wA9 5 ?_;refine sta 49 (.tmp 8) (.const (.int .i64 0)) L 0 ([.int .i64 0]) (f.b 3) (by simp) (by kernel_rfl) (one9) ?_;intro we b r;replace r:we.heap[L]?=some (.cells #[.int .i64 0] 49 (0,0)):=r;have hS3:=M.out _ ((C.out _ hS2).trans' b (fun _ _ h=>h) (fun i P e=>(.inr (.inr (e)))));clear hS2;replace f:=O (f.set 3 b r);replace z:=O (z.trans' b (fun _ _ h=>h) (fun i _ e=>by first|exact .inl e|exact .inr (.inl e)|exact .inr (.inr e)));replace x:=O (b.owns x.out fun i P e=>by have:=aU x.out P;omega);clear b r;refine wpList_nil ?_;refine⟨hS3,?_⟩;refine wpAnyH_done (by kernel_rfl) ?_ _;clear hS3 C M y HXs HOs;refine wpIn_ret ?_;have HF:Hid (FdI w J K L (Mm d s) we):=O ⟨⟨_,f.b 5,aQ x.out (by have:=HW.out;omega)⟩,f.b 4,f.b 3,f.keep⟩;refine⟨eY z.out ?_,KpC.of z.out (fun _ h=>h),HF.out⟩;rintro j o U (rfl|rfl|rfl)
  ·rw[HLV.b 5] at U;cases U;rfl
  ·rw[HLV.b 4] at U;cases U;rfl
  ·rw[HLV.b 3] at U;cases U;rfl
 case stop =>
  intro D W hDs hI hDd;obtain⟨⟨v,h1,h2⟩,h3,h4,h5⟩:=hI;have hz:w.heap.size≤D:=Nat.le_trans HW.out hDs
  have no:∀{k:Nat}{cs:Array Value}{t:TypeId},W.heap[k]?=some (.cells cs t (0,0))->D≠k:=fun hc e=>by
   cases e;rw[hDd] at hc;cases hc
  have I:∀{k:Nat}{cs:Array Value}{t:TypeId},W.heap[k]?=some (.cells cs t (0,0))->(W.putObj D (.deferred none)).heap[k]?=some (.cells cs t (0,0)):=fun hc=>(World.putObj_heap_other (by have:=no hc;omega)).trans hc
  obtain⟨av,cv,rfl,-,-⟩:=(Rd.of_owns h2).form;have c6:(W.putObj D (.deferred none)).cell? ⟨J,0,none⟩=some (.slice av 256 cv):=aC (i:=0) (I h1) rfl;have c7:(W.putObj D (.deferred none)).cell? ⟨K,0,none⟩=some (.slice none 0 0):=aC (i:=0) (I h3) rfl;have c8:(W.putObj D (.deferred none)).cell? ⟨L,0,none⟩=some (.int .i64 0):=aC (i:=0) (I h4) rfl;have HP:Hid (Dy w (Mm d s) (.returned (.tuple #[.slice av 256 cv,.slice none 0 0,.int .i64 0])) (W.putObj D (.deferred none))):=O ⟨_,rfl,xU h2 hDd rfl,h5.trans' (aA.of_grown (grownBy_putObj' W D _)) (fun _ _ h=>h) (fun i P e=>by cases e;omega)⟩;clear h1 h2 h3 h4 h5 no I;show bodyPostM _ _ _ _ _ .ret _ _;refine⟨by simp,.inl ⟨_,_,rfl,run_takeDeferred hDd,?_⟩⟩;refine⟨_,AJ rfl _ _ _ ⟨J,0,none⟩ ⟨K,0,none⟩ ⟨L,0,none⟩ (.slice av 256 cv) (.slice none 0 0) (.int .i64 0) rfl rfl rfl (by go_simp) (by go_simp) (by go_simp),HP.out⟩
def fQ(w:World)(bs:List UInt8)(e:Ending)(w':World):Prop:=∃v,e=.returned (.tuple #[v,.int .i64 0])/\w'.ownsRow w.heap.size 5 1 v 256 (bs.map vb)/\aA aB w w'
theorem I1(h:bR w a B D Z Mm nw)(M:eQ w m a)(pv:Value)(p:Pt)(E:PtV w pv p)(q:p.may=true)(L:p.hole=false)(z:∀x∈p.addrs,eF x D Z) :
 Calls Tryz.prog 160 #[.pointer m,.agg (aE pv p).toArray] w (aN w (.int .i64 0)):=by
 have t:=aJ (v:=pv) E.sum;obtain⟨U,T,A,-,-⟩:=E.rd.form;obtain⟨C,g⟩:∃l,aE pv p=l:=⟨_,rfl⟩
 have Q:Hid (∀u∈C,u.oneCell'=true):=O (by rw[←g,A];exact cP p);have y:=O g;have G:Hid (∃r,C=pv::r):=O ⟨_,g.symm⟩;rw[g] at t ⊢;have n:=O h;have f:=O M;have c:=O E;have F:=O q;have N:=O L;have H:=O z;have k:=lN w;have P:=O (aA.refl aB w);clear h M E g q L z A;go_in
 go_wp2_with ((with_reducible show WL _ _);refine bxL k 27 (.tmp 1) (C.toArray) ?_)
 intro I R b k;replace n:=O (n.keep0 b);replace f:=O (b.blk f.out id);replace c:=O (c.keep b fun _ _=>id);clear b;go_wp2_with fail;refine(Bu R m a f.out).mono ?_;rintro e J ⟨rfl,b⟩;replace k:=kL k b;replace n:=O (n.keep0 b);replace f:=O (b.blk f.out id);replace c:=O (c.keep b fun _ _=>id);clear b
 go_wp2_with ((with_reducible show WL _ _);refine wpList_load_mid rfl 27 (.tmp 3) rfl I 0 rfl C _ (aD (k.b 0)) aH rfl (szP9 t) ?_)
 refine((by rw[←y.out];exact kC J pv p c.out:Calls _ _ _ J (lQ J p.may))).mono ?_;rintro e K ⟨rfl,b⟩;replace k:=kL k b;replace n:=O (n.keep0 b);replace f:=O (b.blk f.out id);replace c:=O (c.keep b fun _ _=>id);clear b;rw[F.out]
 go_wp2_with ((with_reducible show WL _ _);refine aP (by rfl) 27 (.tmp 3) rfl I 0 rfl C _ (aD (k.b 0)) aH rfl (szP9 t) ?_)
 refine((by rw[←y.out];exact cL K pv p c.out:Calls _ _ _ K (aX K p.hole))).mono ?_;rintro e S ⟨rfl,b⟩;replace k:=kL k b;replace n:=O (n.keep0 b);replace f:=O (b.blk f.out id);replace c:=O (c.keep b fun _ _=>id);clear b;rw[N.out];have c1:S.cell? ⟨I,0,none⟩=some (pv):=(by obtain⟨r,e⟩:=G.out;exact aC (i:=0) (k.b 0) (by rw[e];rfl))
 go_wp2_with fail;clear c1;refine(vA n.out f.out pv p.addrs c.rd H.out).mono ?_;rintro e V ⟨rfl,b⟩;replace k:=kL k b;replace n:=O (n.keep0 b);replace f:=O (b.blk f.out id);replace c:=O (c.keep b fun _ _=>id);clear b;go_wp2;go_ret;exact aN.of k.keep
theorem KZ(h:bR w a B D Z Mm nw)(S:eQ w m a)(pv:Value)(p:Pt)(G:PtV w pv p)(q:p.may=true)(R:p.hole=false)(z:∀x∈p.addrs,eF x D Z)(t:p.addrs=⟨(d:Int),(s:Int)⟩::rest)(r:p.sum=cZ (Mm d s)) :
 Calls Tryz.prog 111 #[.pointer m,.agg (aE pv p).toArray] w (fQ w (Mm d s)):=by
 have E:d<D/\s<Z:=by
  have:=z _ (by rw[t];exact List.mem_cons_self ..);obtain⟨d',s',he,h1,h2,h3⟩:=lS this;cases he
  omega
 have y:=aJ (v:=pv) G.sum;obtain⟨oa,ca,F,-,-⟩:=G.rd.form;obtain⟨H,g⟩:∃l,aE pv p=l:=⟨_,rfl⟩
 have Y:Hid (∀u∈H,u.oneCell'=true):=O (by rw[←g,F];exact cP p);have C:=O g;rw[g] at y ⊢;have n:=O h;have b:=O S;have c:=O G;have I:=O q;have W:=O R;have K:=O z;have J:=O t;have L:=O r;have A:=O E;have k:=lN w;clear h S G g q R z F t r E;go_in
 go_wp2_with ((with_reducible show WL _ _);refine bxL k 27 (.tmp 1) (H.toArray) ?_)
 intro Q T f k;replace n:=O (n.keep0 f);replace b:=O (f.blk b.out id);replace c:=O (c.keep f fun _ _=>id);clear f
 go_wp2_with ((with_reducible show WL _ _);refine wpList_load_mid rfl 27 (.tmp 3) rfl Q 0 rfl H _ (aD (k.b 0)) aH rfl (szP9 y) ?_)
 refine((by rw[←C.out];exact I1 n.out b.out pv p c.out I.out W.out K.out:Calls _ _ _ T (aN T (.int .i64 0)))).mono ?_;rintro e U ⟨rfl,f⟩;replace k:=kL k f;replace n:=O (n.keep0 f);replace b:=O (f.blk b.out id);replace c:=O (c.keep f fun _ _=>id);clear f
 go_wp2_with ((with_reducible show WL _ _);refine wpList_load_mid rfl 27 (.tmp 3) rfl Q 0 rfl H _ (aD (k.b 0)) aH rfl (szP9 y) ?_)
 have M:=O k.keep.size;refine((by rw[←C.out];exact GA n.out b.out pv p c.out J.out A.1 A.2 L.out:Calls _ _ _ U (Dy U (Mm d s)))).mono ?_;rintro e w3 ⟨v0,rfl,N,f⟩;obtain⟨av,cv,rfl,-,-⟩:=(Rd.of_owns N).form;replace k:=kL k f;replace n:=O (n.keep0 f);replace b:=O (f.blk b.out id);replace c:=O (c.keep f fun _ _=>id);clear f;have P:=k.keep.size;have X:=O (aQ N M.out);clear N P;go_wp2_with fail;have V:=O k.keep
 go_loopw [30] (fun i wr=>i=.int .i64 0/\wr=w3) (fun _ _=>0)
 case atStart=>exact⟨rfl,rfl⟩
 case round =>
  obtain⟨rfl,rfl⟩:=hrel;clear k n b c;go_wp2
  go_ret2
  exact⟨_,rfl,X.out,V.out⟩
end
end Go.Proofs.YtiinnfhjpaeffaaGreat
