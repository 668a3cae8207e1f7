import Derived.Test.YtiinnfhjpaeffaaGreatU22
import Derived.Test.YtiinnfhjpaeffaaGreatU23
namespace Go.Proofs.YtiinnfhjpaeffaaGreat
open Tryz
set_option maxHeartbeats 0
set_option maxRecDepth 100000
set_option linter.unusedVariables false
section
open Go.RowKit Go.Maps Go.ChangeMaps
variable{w w0:World}{m a D Z nw d s j:Nat}{B:Nat->Prop}{Mm:Nat->Nat->List UInt8}{xT:List Ad}{o o':Obj}
theorem MH:prog.underlying 293=some (.struct (prog.fieldsOf 293)):=by kernel_rfl
theorem Av:(prog.info? 293).map (·.size)=some 2:=by kernel_rfl
theorem MI(p:Option Addr)(n c:Nat)(w:World):(Instr.build 293 #[(0,.int .i64 0),(1,.slice p n c)]).run prog w=.ok (.agg #[.int .i64 0,.slice p n c]) w:=by kernel_rfl
def EO(w:World)(b:List UInt8)(e:Ending)(c:World):Prop:=∃v,e=.returned (.agg #[.int .i64 0,v])/\c.ownsRow w.heap.size 5 1 v 256 (b.map vb)/\aA aB w c
theorem MJ(h:bP w a B D Z Mm nw)(hm:fF w m a)(hd:d<D)(hs:s<Z)(sum:List UInt8)(A:sum=dD (Mm d s)) :
 Calls prog 246 #[.pointer m,.agg (aO ⟨(d:Int),(s:Int)⟩).toArray,.agg (sum.map vb).toArray] w (EO w (Mm d s)):=by
 have P:=h.len hd hs;have I:sum.length=32:=by rw[A,dC]
 have G:Hid (∀w,(binOp .neq 25 (.agg ((dD (Mm d s)).map vb).toArray) (.agg (sum.map vb).toArray)).run prog w=.ok (.bool false) w):=O (fun w=>by
  have:=AX (Ik (dD (Mm d s)) sum (by rw[dC]) I w);rw[this,decide_eq_true A.symm];rfl)
 obtain⟨K,r⟩:=zX9 (sum.map vb)
 have qa:K.length=32:=by rw[←r,List.length_map,I]
 have qc:Hid (∀u∈K,u.oneCell'=true):=O (by rw[←r];exact bT _);rw[r] at G ⊢;obtain⟨dg,H⟩:=zX9 ((dD (Mm d s)).map vb)
 rw[H] at G;have T:=O H;have t:=O h;have f:=O hm;have N:=O P;have k:=lN w;have qb:=O (aA.refl aB w);have qe:=MI;clear h hm P r H A I;go_in
 go_wp2_with ((with_reducible show WL _ _);refine bxL k 82 (.tmp 1) ((aO ⟨(d:Int),(s:Int)⟩).toArray) ?_)
 intro Q w1 b k;replace t:=O (t.keep0 b);replace f:=O (b.blk f.out id);clear b
 go_wp2_with ((with_reducible show WL _ _);refine bxL k 25 (.tmp 2) (K.toArray) ?_)
 intro b5 w2 b k;replace t:=O (t.keep0 b);replace f:=O (b.blk f.out id);clear b
 go_wp2_with ((with_reducible show WL _ _);refine alL k 293 (.agg #[.int .i64 0,.slice none 0 0]) (#[.int .i64 0,.slice none 0 0]) EN ?_)
 intro W w3 b k;replace t:=O (t.keep0 b);replace f:=O (b.blk f.out id);clear b;go_wp2_with fail;refine dwA aB (by kernel_rfl) ?_;intro w4 S n z q p;replace k:=kL k p;replace t:=O (t.keep0 p);replace f:=O (p.blk f.out id);clear p;have x:=k;have R:=t;have F:=f;refine tna 0 (.pointer m) rfl q ?_;refine tnb 1 (.pointer m) rfl q ?_;refine tnb 2 (.pointer m) rfl q ?_;refine tnd 3 (.pointer a) rfl (.inl ⟨by rfl,fun E C=>by have c:World.cell? E ⟨m,0,none⟩=some (.pointer a):=(n E C).cell (fF.c0 F.out) id;go_simp⟩) q ?_;refine tnb 4 (.pointer Q) rfl q ?_;refine tnd 5 (.int .i64 (d:Int)) rfl (.inl ⟨by rfl,fun E C=>by have c:World.cell? E ⟨Q,0,none⟩=some (.int .i64 (d:Int)):=(aD (i:=0) ((n E C).blk (x.b 2) id) rfl);go_simp⟩) q ?_;refine tnb 6 (.pointer (some ⟨Q,1,none⟩)) rfl q ?_;refine tnd 7 (.int .i64 (s:Int)) rfl (.inl ⟨by rfl,fun E C=>by have c:World.cell? E ⟨Q,1,none⟩=some (.int .i64 (s:Int)):=(aD (i:=1) ((n E C).blk (x.b 2) id) rfl);go_simp⟩) q ?_;refine wA9 8 ?_;go_wp2_with fail;have L:=O (k.lt 0).2;have M:=O (k.lt 0).1;refine(Qi t.out hd hs).mono ?_;rintro e w5 ⟨v0,rfl,Y,b⟩;have g:=z.out _ ((n _ q).trans b);replace k:=kL k b;replace t:=O (t.keep0 b);replace f:=O (b.blk f.out id);clear q b;obtain⟨pv,J,rfl,-,-⟩:=(Rd.of_owns Y).form;have y:=O Y;have V:=O (Nat.le_of_lt (Nat.lt_of_le_of_lt M.out L.out));have qd:W<w4.heap.size:=L.out;clear Y;go_wp2_with fail;refine⟨g,?_⟩;refine tna 9 (.tuple #[.slice pv 256 J,.int .i64 0]) rfl g ?_;refine tnb 10 (.slice pv 256 J) rfl g ?_;refine tnb 11 (.int .i64 0) rfl g ?_;refine tna 12 (.slice pv 256 J) rfl g ?_;refine tna 13 (.int .i64 0) rfl g ?_;refine wpAnyH_done (by kernel_rfl) ?_ _;clear g n z x R F;clear t f;go_wp2_with fail;refine dwA aB (by kernel_rfl) ?_;intro w6 S n z q p;replace k:=kL k p;replace y:=O (p.owns y.out fun _ _=>id);clear p;have x:=k;have U:=y;refine tna 0 (.slice pv 256 J) rfl q ?_;refine tnd 2 (.agg K.toArray) rfl (yieldsIf_load_mid (by rfl) 25 (.tmp 5) rfl b5 0 rfl K _ (fun E h=>aC ((n E h).blk (x.b 1) id)) underlying25 rfl (by rw[qa];exact xI)) q ?_;refine wA9 1 ?_;go_wp2_with fail;refine(yN _ (Mm d s) w6 (by rw[N.out];exact Rd.of_owns y.out) (by rw[N.out];decide)).mono ?_;rintro e w7 ⟨rfl,b⟩;have g:=z.out _ ((n _ q).trans b);replace k:=kL k b;replace y:=O (b.owns y.out fun _ _=>id);clear q b;rw[T.out];go_wp2_with fail;refine⟨g,?_⟩;refine tnd 3 (.bool false) rfl (qZ (by rfl) 25 (.tmp 39) (.tmp 40) 25 rfl dg.toArray K.toArray rfl rfl Ob G.out) g ?_;refine tna 4 (.bool false) rfl g ?_;refine wpAnyH_done (by kernel_rfl) ?_ _;clear g n z x U
 go_wp2_with ((with_reducible show WL _ _);refine sta 293 (.tmp 6) (.tmp 48) W 0 ([.int .i64 0,.slice pv 256 J]) (k.b 0) (by first|decide|(rw[rfl];exact Nat.le_refl _)|simp[]) Av (by intro v hv;simp only[List.mem_cons,List.not_mem_nil,or_false] at hv;rcases hv with rfl|rfl<;>rfl) ?_)
 intro w8 b X;rw[aI _ _ (by first|rfl|simp[])] at X;replace k:=O (k.set 0 b X);replace y:=O (b.owns y.out fun i hi e=>by have:=aU y.out hi;omega);clear b X;have HP:Hid (EO w (Mm d s) (.returned (.agg #[.int .i64 0,.slice pv 256 J])) w8):=O ⟨_,rfl,aW y.out (V.out),k.keep⟩;have HB:=O (k.b 0);clear y k;go_wp2_with fail;refine bodyPost_ret (results_cell_row rfl _ _ W _ _ _ _ rfl HB.out MH rfl Av) rfl ?_;exact HP.out
def Bh(b:Ad)(x:Option Addr×Nat):Array Value:=#[.agg (aO b).toArray,.agg #[.int .i64 0,.slice x.1 256 x.2]]
def CpR(b:List UInt8)(x:Option Addr×Nat)(A B:World):Prop:=aA aB A B/\B.ownsRow A.heap.size 5 1 (.slice x.1 256 x.2) 256 (b.map vb)
theorem F6{R J T:Nat}{Res:Nat->Prop}(h:bP w a B D Z Mm nw)(hm:fF w m a)(pv:Value)(p:Pt)(hp:PtV w pv p)(Y:p.addrs=⟨(d:Int),(s:Int)⟩::xT)(hd:d<D)(hs:s<Z)(I:p.sum=dD (Mm d s))
 (h4:w.heap[J]?=some (.cells (aF pv p).toArray 27 (0,0))) (h5:w.heap[T]?=some (.cells #[.int .i64 (-1)] 3 (0,0))) (h3:w.heap[R]?=some (.cells #[.pointer m] 41 (0,0))) (H:∀k,Res k->k<w.heap.size/\k≠R/\k≠J/\k≠T) (n:Nat) :
 ∀(l:Nat) (Jx:Option Addr×Nat->World->Prop) (W:World),aA aB w W->(∀x W1,CpR (Mm d s) x W W1->YieldAt Fence.wide (n-1) prog l (Bh ⟨(d:Int),(s:Int)⟩ x) W1 fun e W'=>e=.returned (.bool false)/\Jx x W'/\KpC Res W1 W') ->
  CallsIn Fence.wide n prog 245 (#[.func (.yield l) #[] #[]]++#[.pointer J,.pointer T,.pointer R]) W fun e W'=>(∃v,e=.returned v)/\∃x,Jx x W':=by
 intro l Jx W u hy;obtain⟨oa,ca,rfl,-,-⟩:=hp.rd.form;have qa:=(hp.keep u fun _ _=>id).rd;obtain⟨g,o,qj,hv,L⟩:=kF qa (k:=0) (x:=⟨(d:Int),(s:Int)⟩) (by rw[Y];rfl);obtain rfl:oa=some ⟨g,o,none⟩:=by cases hv;rfl
 rw[Nat.zero_mul,Nat.add_zero] at L;obtain⟨q,hq⟩:=zX9 p.addrs.length
 have qk:0<q:=by rw[←hq,Y];simp
 have ql:(0:Int)<(q:Int):=by omega
 have qb:p.sum.length=32:=hp.sum;rw[hq] at h4;have HX:=O L;have HD:=O hd;have HZ:=O hs;have qg:=O I;have qf:=O qb;have H4:=O (u.blk h4 id);have H5:=O (u.blk h5 id);have H3:=O (u.blk h3 id);have HA:=O (h.keep0 u);have qe:Hid (fF W m a):=O (u.blk hm id);have HY:=O hy;have HR:=O H;have qh:=O u.size;have c0:W.cell? ⟨J,0,none⟩=some (.slice (some ⟨g,o,none⟩) q ca):=aD (i:=0) H4.out (by rw[List.getElem?_toArray];rfl);clear h hm I qb h4 h5 h3 u hy H qa hv L hp hq;refine callsIn_of_wp func245 rfl trivial ?_ rfl;simp only[ntmps245,List.size_toArray,List.length_cons,List.length_nil,Nat.reduceAdd,Nat.reduceSub,Array.replicate_succ,Array.replicate_zero,List.push_toArray,List.append_toArray,List.nil_append,List.cons_append]
 gi_wp2
 clear c0
 gi_loopw [10] (fun i wr=>i=.int .i64 0/\Hid (aA aB W wr)) (fun _ _=>0)
 case atStart=>exact⟨rfl,O (aA.refl _ _)⟩
 case round =>
  obtain⟨rfl,y⟩:=hrel;obtain⟨C,hC⟩:=zX9 wr.heap.size
  have qc:=y.rangeAt HX.out
  gi_wp2_with (first
   | (refine lL rfl 82 (.tmp 12) rfl g o rfl (aO ⟨(d:Int),(s:Int)⟩) _ qc bQ rfl (by rw[bG];exact bV) ?_)
   | (refine qA rfl 82 rfl eR eJ #[.int .i64 0,.int .i64 0] rfl ?_)
   | (refine pE rfl 82 (.tmp 6) (.tmp 13) rfl wr.heap.size 0 (aO ⟨(d:Int),(s:Int)⟩) rfl rfl #[.int .i64 0,.int .i64 0] _ (heap_alloc_new _ _) (by rw[bG];simp) (by rw[bG];exact bV) (bN _) ?_;intro w3 G V
      rw[aI _ _ (by rw[bG];simp)] at G)
   | gi_in)
  have X:aA aB wr w3:=((aA.refl aB wr).alloc _).tT V (fun i hi e=>by omega);have N:=O y.size;replace y:=O (y.trans X);clear V qc X;rw[hC] at G N ⊢;have P:=O (And.intro G (And.intro (y.blk H4.out id) (And.intro (y.blk H5.out id) (y.blk H3.out id))));clear G hC H4 H5 H3;obtain⟨S,K⟩:∃S:World->Prop,S=fun r=>r.heap[C]?=some (.cells (aO ⟨(d:Int),(s:Int)⟩).toArray 82 (0,0))/\r.heap[J]?=some (.cells (aF (.slice (some ⟨g,o,none⟩) q ca) p).toArray 27 (0,0))/\r.heap[T]?=some (.cells #[.int .i64 (-1)] 3 (0,0))/\r.heap[R]?=some (.cells #[.pointer m] 41 (0,0)):=⟨_,rfl⟩
  have b:=O (show ∀r,S r->_ from fun r h=>by rw[K] at h;exact h);have E:=O (show ∀r,_->S r from fun r h=>by rw[K];exact h);have t:S w3.drew:=E.out _ (by have:=P.out;exact this);have M:=(aA.refl aB w3).drew;clear K P;refine zE (S:=S) (by kernel_rfl) ?_;change eO _ _ _ _ _ _ _ _ _ w3.drew;generalize w3.drew=w4 at t M ⊢;replace y:=O (y.trans M);clear M;refine tib 0 (.pointer (some ⟨C,0,none⟩)) rfl t ?_;refine tid 1 (.int .i64 (d:Int)) rfl (.inl ⟨by rfl,fun r A=>by have c:World.cell? r ⟨C,0,none⟩=some (.int .i64 (d:Int)):=aD (i:=0) (b r A).1 rfl;go_simp⟩) t ?_;refine tid 2 (.int .i64 (-1)) rfl (.inl ⟨by rfl,fun r A=>by have c:World.cell? r ⟨T,0,none⟩=some (.int .i64 (-1)):=aD (i:=0) (b r A).2.2.1 rfl;go_simp⟩) t ?_
  refine tid 3 (.bool true) rfl (.inl ⟨by rfl,fun r A=>by
   have e:(d:Int)≠-1:=by omega
   go_simp⟩) t ?_
  refine tia 4 (.bool true) rfl t ?_;refine tia 5 (.func (.yield l) #[] #[]) rfl t ?_;refine tid 6 (.agg (aO ⟨(d:Int),(s:Int)⟩).toArray) rfl (yieldsIf_load_mid (by rfl) 82 (.tmp 6) rfl C 0 rfl (aO ⟨(d:Int),(s:Int)⟩) _ (fun r h=>aC (b r h).1) bQ rfl (by rw[bG];exact bV)) t ?_;refine tid 7 (.pointer m) rfl (.inl ⟨by rfl,fun r A=>by have c:World.cell? r ⟨R,0,none⟩=some (.pointer m):=aD (i:=0) (b r A).2.2.2 rfl;go_simp⟩) t ?_;refine tid 8 (.agg (aO ⟨(d:Int),(s:Int)⟩).toArray) rfl (yieldsIf_load_mid (by rfl) 82 (.tmp 6) rfl C 0 rfl (aO ⟨(d:Int),(s:Int)⟩) _ (fun r h=>aC (b r h).1) bQ rfl (by rw[bG];exact bV)) t ?_;refine tib 9 (.pointer (some ⟨J,3,none⟩)) rfl t ?_;refine tid 10 (.agg (p.sum.map vb).toArray) rfl (yieldsIf_load_mid (by rfl) 25 (.tmp 23) rfl J 3 rfl (p.sum.map vb) _ (fun r h=>(bW (aC (b r h).2.1)).2.2.2) underlying25 rfl (by rw[List.length_map,qf.out];exact xI)) t ?_;refine EM (k:=11) (f:=246) (args:=#[.pointer m,.agg (aO ⟨(d:Int),(s:Int)⟩).toArray,.agg (p.sum.map vb).toArray]) rfl (by kernel_rfl) (by kernel_rfl) (by kernel_rfl) (by first|rfl|go_simp) (MJ (HA.keep0 y.out) (y.blk qe.out id) HD.out HZ.out p.sum qg.out) ?_;rintro e w5 ⟨v0,rfl,ho,u⟩;obtain⟨qi,cv,rfl,-,-⟩:=(Rd.of_owns ho).form;have qd:=O (y.trans u);have z:S w5:=E.out _ ⟨u.blk (b _ t).1 id,u.blk (b _ t).2.1 id,u.blk (b _ t).2.2.1 id,u.blk (b _ t).2.2.2 id⟩;have Q:=O (HY (qi,cv) w5 ⟨qd.out,aW ho y.size⟩);clear ho u t;refine⟨_,rfl,z,nrm ?_⟩;refine DB (k:=12) (l:=l) rfl (by kernel_rfl) (by kernel_rfl) (by kernel_rfl) (by first|rfl|(unfold Bh;go_simp;done)|(unfold Bh;unfold execOp;simp[Act.put,resolve,invoke,go_sem,Act.eval];done)) Q.out ?_;rintro e w6 ⟨rfl,hj,U⟩;have F:S w6:=E.out _ ⟨U _ _ _ _ (fun e=>by have:=(HR _ e).1;have:=N.out;have:=qh.out;omega) (b _ z).1,U _ _ _ _ (fun e=>(HR _ e).2.2.1 rfl) (b _ z).2.1,U _ _ _ _ (fun e=>(HR _ e).2.2.2 rfl) (b _ z).2.2.1,U _ _ _ _ (fun e=>(HR _ e).2.1 rfl) (b _ z).2.2.2⟩;refine⟨_,rfl,F,nrm ?_⟩;refine tib 13 (.bool true) rfl F ?_;refine tia 14 (.bool true) rfl F ?_;refine EL (by kernel_rfl) ?_ _;have HJ:=O hj;clear hj U z F b E Q
  gi_wp2
  refine bodyPost_ret (results_none rfl _ _ _) rfl ?_;exact⟨⟨_,rfl⟩,_,HJ.out⟩
def Ov(w:World)(m:Nat)(h:List Value)(e:Ending)(b:World):Prop:=∃c f g,e=.returned (.func (.func 245) #[] #[.pointer (some ⟨f,0,none⟩),.pointer (some ⟨g,0,none⟩),.pointer (some ⟨c,0,none⟩)])/\b.heap[f]?=some (.cells h.toArray 27 (0,0))/\b.heap[g]?=some (.cells #[.int .i64 (-1)] 3 (0,0))/\b.heap[c]?=some (.cells #[.pointer m] 41 (0,0))/\(w.heap.size≤c/\w.heap.size≤f/\w.heap.size≤g)/\aA aB w b
theorem Iz(w:World)(m:Nat)(e:List Value)(l:e.length=35)(f:∀u∈e,u.oneCell'=true):Calls prog 210 #[.pointer m,.agg e.toArray,.int .i64 (-1)] w (Ov w m e):=by
 have g:=O f;have b:=lN w;clear f;go_in
 go_wp2_with ((with_reducible show WL _ _);refine bxL b 41 (.tmp 0) (#[.pointer m]) ?_)
 intro h n c b;clear c
 go_wp2_with ((with_reducible show WL _ _);refine bxL b 27 (.tmp 1) (e.toArray) ?_)
 intro i p c b;clear c
 go_wp2_with ((with_reducible show WL _ _);refine bxL b 3 (.tmp 2) (#[.int .i64 (-1)]) ?_)
 intro k q c b;clear c;go_wp2_with fail;go_wp2;go_ret;exact⟨h,i,k,rfl,b.b 1,b.b 0,b.b 2,⟨(b.lt 2).1,(b.lt 1).1,(b.lt 0).1⟩,b.keep⟩
theorem Loc.put{S:Nat->Prop}{l:List (Nat×Array Value×TypeId)}(h:Loc S B w0 w l)(c:w.heap[j]?=some o)(k:o.isCells=false)(q:w0.heap.size≤j):Loc S B w0 (w.putObj j o') l:=by
 have f:=aA.of_grown (grownBy_putObj' w j o');refine⟨h.keep.tT f (fun i p e=>by cases e;omega),h.ge,h.nd,fun x n=>?_,h.ap⟩;have b:=h.at_ x n;refine f.blk b (fun e=>?_);have g:j=x.1:=Option.some.inj e;rw[g,b] at c;cases c
 cases k
theorem Aw{base n sz:Nat}{T:TypeId}{v:Value}{b:List Value}(h:w.ownsRow base T sz v n b)(g:w.heap[j]?=some o)(i:o.isCells=false):(w.putObj j o').ownsRow base T sz v n b:=
 (aA.of_grown (grownBy_putObj' w j o')).owns h fun k f e=>by
   cases e
   obtain⟨cur,c⟩:=aL h f;rw[g] at c;cases c
   cases i
theorem Cb{e:Func}{p q r:Tmp}{tp k l:TypeId}(h:e.results=#[.cell p tp,.cell q k,.cell r l])(tmps:Array Value)(P:Program)(w:World)(a b c:Addr)(x y z:Value)
 (f:tmps.getD p undef=.pointer (some a)) (g:tmps.getD q undef=.pointer (some b)) (i:tmps.getD r undef=.pointer (some c)) (n:(loadVar tp a).run P w=.ok x w) (t:(loadVar k b).run P w=.ok y w) (u:(loadVar l c).run P w=.ok z w) :
 (results e tmps).run P w=.ok (.tuple #[x,y,z]) w:=by
 simp only[results,h];simp only[Array.getD_eq_getD_getElem?] at f g i;simp[Sem.run_bind,Result.andThen,asAddr,f,g,i,n,t,u]
structure FdI(w0:World)(b6 b7 b8:Nat)(bs:List UInt8)(W:World):Prop where
 v:∃v,W.heap[b6]?=some (.cells #[v] 109 (0,0))/\W.ownsRow w0.heap.size 5 1 v 256 (bs.map vb)
 n:W.heap[b7]?=some (.cells #[.slice none 0 0] 23 (0,0))
 z:W.heap[b8]?=some (.cells #[.int .i64 0] 49 (0,0))
 k:aA aB w0 W
theorem FdI.put{W:World}{c f g:Nat}{l:List UInt8}(h:FdI w0 c f g l W)(u:W.heap[j]?=some o)(x:o.isCells=false)(C:w0.heap.size≤j):FdI w0 c f g l (W.putObj j o'):=by
 obtain⟨⟨v,n,y⟩,p,q,z⟩:=h;have b:=aA.of_grown (grownBy_putObj' W j o')
 have no:∀{k:Nat}{cs:Array Value}{t:TypeId},W.heap[k]?=some (.cells cs t (0,0))->¬some j=some k:=fun r e=>by
  cases e;rw[u] at r;cases r;cases x
 exact⟨⟨v,b.blk n (no n),Aw y u x⟩,b.blk p (no p),b.blk q (no q),z.tT b (fun i A e=>by cases e;omega)⟩
theorem CV(T:Array Value)(p q:Tmp)(a b:Value):((#[p,q].zip #[a,b]).foldl (fun(t:Array Value) (x:Tmp×Value)=>match x with|(p,v)=>t.setIfInBounds p v) T)=(T.setIfInBounds p a).setIfInBounds q b:=by simp
def EP(w:World)(c:List UInt8)(e:Ending)(b:World):Prop:=∃v,e=.returned (.tuple #[v,.slice none 0 0,.int .i64 0])/\b.ownsRow w.heap.size 5 1 v 256 (c.map vb)/\aA aB w b
theorem IA(h:bP w a B D Z Mm nw)(hm:fF w m a)(pv:Value)(p:Pt)(hp:PtV w pv p)(qu:p.addrs=⟨(d:Int),(s:Int)⟩::xT)(hd:d<D)(hs:s<Z)(qc:p.sum=dD (Mm d s)) :
 Calls prog 161 #[.pointer m,.agg (aF pv p).toArray,.int .i64 (-1)] w (EP w (Mm d s)):=by
 have qi:=aJ (v:=pv) hp.sum;obtain⟨pc,H⟩:=zX9 (aF pv p)
 have qw:Hid (∀u∈pc,u.oneCell'=true):=O (by rw[←H];obtain⟨oa,ca,rfl,-,-⟩:=hp.rd.form;exact cK p);have qm:=O H;rw[H] at qi ⊢;have G:=O h;have g:=O hm;have q:=O hp;have qy:=O qu;have HD:=O hd;have HZ:=O hs;have qz:=O qc;have f:=lN w;clear h hm hp H qu hd hs qc;refine callsIn_wide.1 (callsIn_of_wp_marks (F:=Fence.wide) (n:=3) func161 rfl trivial (wpIn_wide.2 ?_));simp only[ntmps161,List.size_toArray,List.length_cons,List.length_nil,Nat.reduceAdd,Nat.reduceSub,Array.replicate_succ,Array.replicate_zero,List.push_toArray,List.append_toArray,List.nil_append,List.cons_append]
 go_wp2_with ((with_reducible show WL _ _);refine bxL f 27 (.tmp 1) (pc.toArray) ?_)
 intro b4 w1 b f;replace G:=O (G.keep0 b);replace g:=O (b.blk g.out id);replace q:=O (q.keep b fun _ _=>id);clear b
 go_wp2_with ((with_reducible show WL _ _);refine alL f 109 (.slice none 0 0) (#[.slice none 0 0]) Px ?_)
 intro J w2 b f;replace G:=O (G.keep0 b);replace g:=O (b.blk g.out id);replace q:=O (q.keep b fun _ _=>id);clear b
 go_wp2_with ((with_reducible show WL _ _);refine alL f 23 (.slice none 0 0) (#[.slice none 0 0]) Py ?_)
 intro K w3 b f;replace G:=O (G.keep0 b);replace g:=O (b.blk g.out id);replace q:=O (q.keep b fun _ _=>id);clear b
 go_wp2_with ((with_reducible show WL _ _);refine alL f 49 (.int .i64 0) (#[.int .i64 0]) lH ?_)
 intro L w4 b f;replace G:=O (G.keep0 b);replace g:=O (b.blk g.out id);replace q:=O (q.keep b fun _ _=>id);clear b
 go_wp2_with ((with_reducible show WL _ _);refine alL f 23 (.slice none 0 0) (#[.slice none 0 0]) Py ?_)
 intro b9 w5 b f;replace G:=O (G.keep0 b);replace g:=O (b.blk g.out id);replace q:=O (q.keep b fun _ _=>id);clear b
 go_wp2_with ((with_reducible show WL _ _);refine wpList_load_mid rfl 27 (.tmp 4) rfl b4 0 rfl pc _ (aC (f.b 4)) aG rfl (szP9 qi) ?_)
 have Y:=f;refine(Iz w5 m pc qi qw.out).mono ?_;rintro e w6 ⟨c3,c4,c5,rfl,h4,h5,h3,qr,b⟩;replace f:=kL f b;replace G:=O (G.keep0 b);replace g:=O (b.blk g.out id);replace q:=O (q.keep b fun _ _=>id);clear b;have H4:=O h4;have H5:=O h5;have H3:=O h3;have qv:=O qr;clear h4 h5 h3 qr;go_wp2_with fail;have za:=qm.out;have q5:=qv.out;have qo:=(Y.lt 3);have qp:=Y.lt 2;have qq:=Y.lt 1;have qk:Hid (w6.heap[c4]?=some (.cells (aF pv p).toArray 27 (0,0))):=O (by rw[qm.out];exact H4.out);have ql:=F6 (Res:=fun k=>k=J\/k=K\/k=L) G.out g.out pv p q.out qy.out HD.out HZ.out qz.out qk.out H5.out H3.out (fun k b=>by have:=(f.lt 1).2;have:=(f.lt 2).2;have:=(f.lt 3).2;rcases b with rfl|rfl|rfl<;>omega) (3-1);have zb:J<w6.heap.size:=(f.lt 3).2;have ze:K<w6.heap.size:=(f.lt 2).2;have zg:L<w6.heap.size:=(f.lt 1).2;have zi:b9<w6.heap.size:=(f.lt 0).2;have HW:=O f.keep.size;clear Y q g G H3 H4 qk H5 q5 qo qp qq za;refine wpIn_wide (n:=3).1 ?_;refine DC rfl (by omega) (gf:=245) rfl trivial (enters_of func245 (by kernel_rfl) rfl) (encs:=Bh ⟨(d:Int),(s:Int)⟩) (R:=CpR (Mm d s)) (fun _ _ _ h=>h.1) ql (fun _=>rfl) (FdI w J K L (Mm d s)) (fun W l o hl hI U X o'=>hI.put U X (by have:=HW.out;omega)) ?round ?stop
 case round =>
  rintro l ⟨px,cx⟩ W W1 b ⟨qt,U⟩ hl;replace f:=O (f.keeps (b.trans qt));have x:=O U;have zj:=b.size;have zd:J<W.heap.size:=by omega
  have zf:K<W.heap.size:=by omega
  have zh:L<W.heap.size:=by omega
  have z:=O (aA.refl aB W1);clear b qt U ql;unfold Bh;dsimp only;rw[CV];simp only[List.setIfInBounds_toArray,List.set_cons_zero,List.set_cons_succ];refine wpIn_seq ?_;refine dB (by kernel_rfl) (fun ⟨_,_,h⟩=>h) ?_
  go_wp2_with ((with_reducible show WL _ _);refine al 82 (.agg kO.toArray) (kO.toArray) xH ?_)
  intro q1 w7 N Q A
  go_wp2_with ((with_reducible show WL _ _);refine sta 82 (.tmp 10) (.tmp 16) q1 0 (aO ⟨(d:Int),(s:Int)⟩) A (by first|decide|(rw[List.size_toArray,bG];exact Nat.le_refl _)|simp[bG]) (by rw[bG];exact jS) (bN _) ?_)
  intro w8 b r;rw[aI _ _ (by first|rfl|(rw[List.size_toArray,bG];rfl)|simp[bG])] at r;replace b:=tX Q b (fun i P e=>by omega);replace f:=lW f N b r;replace z:=O (z.trans b);replace x:=O (b.owns x.out fun _ _=>id);clear N b r Q A;go_wp2_with fail;refine dB (by kernel_rfl) (fun ⟨_,_,h⟩=>h) ?_
  go_wp2_with ((with_reducible show WL _ _);refine al 293 (.agg #[.int .i64 0,.slice none 0 0]) (#[.int .i64 0,.slice none 0 0]) EN ?_)
  intro qa w9 N Q A
  go_wp2_with ((with_reducible show WL _ _);refine sta 293 (.tmp 11) (.tmp 17) qa 0 ([.int .i64 0,.slice px 256 cx]) A (by first|decide|(rw[List.size_toArray,rfl];exact Nat.le_refl _)|simp[]) Av (by intro v hv;simp only[List.mem_cons,List.not_mem_nil,or_false] at hv;rcases hv with rfl|rfl<;>rfl) ?_)
  intro wa b r;rw[aI _ _ (by first|rfl|(rw[List.size_toArray,rfl];rfl)|simp[])] at r;replace b:=tX Q b (fun i P e=>by omega);replace f:=lW f N b r;replace z:=O (z.trans b);replace x:=O (b.owns x.out fun _ _=>id);clear N b r Q A;go_wp2_with fail;refine⟨fO z.out (fun _ _ _ h=>h.elim),KpC.of z.out (fun _ h=>h.elim),fun o o' qh X=>?_⟩;have q9:w.heap.size≤l:=by have:=HW.out;omega
  replace f:=O (f.put (o':=o') qh X q9);replace x:=O (Aw (o':=o') x.out qh X);clear z;generalize World.putObj wa l o'=V at f x ⊢;have qd:=f;have z:Hid (aA (fun k=>k=J\/k=K\/k=L) V V):=O (aA.refl _ _);clear qh X;refine wpIn_block ?_;refine wpIn_seq ?_;refine dB (by kernel_rfl) (fun ⟨_,_,h⟩=>h) ?_;have c1:V.cell? ⟨qa,0,none⟩=some (.int .i64 0):=(aD (i:=0) (f.b 0) rfl)
  go_wp2_with fail;clear c1;refine wpIn_block ?_;refine wpIn_seq ?_;refine dB (by kernel_rfl) (fun ⟨_,_,h⟩=>h) ?_;go_wp2_with fail;refine wpIn_cond_true rfl ?_;refine wpIn_seq ?_;go_wp2_with fail;obtain⟨S,qb⟩:∃S:World->Prop,S=fun E=>aA (fun k=>k=J\/k=K\/k=L) V.drew E:=⟨_,rfl⟩
  have C:=O (show ∀E,S E->aA (fun k=>k=J\/k=K\/k=L) V.drew E from fun E h=>by rw[qb] at h;exact h);have M:=O (show ∀E,aA (fun k=>k=J\/k=K\/k=L) V.drew E->S E from fun E h=>by rw[qb];exact h);have hS:S V.drew:=by rw[qb];exact aA.refl _ _
  have T:=(aA.refl aB V).drew;clear qb;refine mT (by kernel_rfl) (by kernel_rfl) (fun ⟨_,_,h⟩=>h) (wpAny_of_held (S:=S) _ _ _ _ ?_);change wpAnyH _ _ _ _ _ _ _ _ V.drew;generalize V.drew=wb at C M hS T ⊢;replace f:=kL f T;replace z:=O (z.trans (aA.any T));replace x:=O (T.owns x.out fun _ _=>id);clear T;have y:=f;have q0:=z;have qx:=x;refine tnb 0 (.pointer (some ⟨qa,1,none⟩)) rfl hS ?_;refine tnd 1 (.slice px 256 cx) rfl (.inl ⟨by rfl,fun E qj=>by have c:World.cell? E ⟨qa,1,none⟩=some (.slice px 256 cx):=aD (i:=1) ((C E qj).blk (y.b 0) (fun e=>by rcases e with e|e|e<;>first|exact bH (i:=5) y.nd rfl 0 (by decide) rfl e|exact bH (i:=4) y.nd rfl 0 (by decide) rfl e|exact bH (i:=3) y.nd rfl 0 (by decide) rfl e)) rfl;go_simp⟩) hS ?_;refine tnd 2 (.slice none 0 0) rfl (.inl ⟨by rfl,fun E qj=>by have c:World.cell? E ⟨b9,0,none⟩=some (.slice none 0 0):=aD (i:=0) ((C E qj).blk (y.b 2) (fun e=>by rcases e with e|e|e<;>first|exact bH (i:=5) y.nd rfl 2 (by decide) rfl e|exact bH (i:=4) y.nd rfl 2 (by decide) rfl e|exact bH (i:=3) y.nd rfl 2 (by decide) rfl e)) rfl;go_simp⟩) hS ?_;refine wA9 3 ?_;refine sta 109 (.tmp 6) (.tmp 23) J 0 ([.slice px 256 cx]) (f.b 5) (by simp) (by kernel_rfl) (one9) ?_;intro wc b r;replace r:wc.heap[J]?=some (.cells #[.slice px 256 cx] 109 (0,0)):=r;have qf:=M.out _ ((C _ hS).tT b (fun i P e=>(.inl e)));clear hS;replace f:=O (f.set 5 b r);replace z:=O (z.tT b (fun i _ e=>by first|exact .inl e|exact .inr (.inl e)|exact .inr (.inr e)));replace x:=O (b.owns x.out fun i P e=>by have:=aU x.out P;omega);clear b r;refine wpList_nil ?_;refine⟨qf,?_⟩;refine wA9 4 ?_;refine sta 23 (.tmp 7) (.tmp 24) K 0 ([.slice none 0 0]) (f.b 4) (by simp) (by kernel_rfl) (one9) ?_;intro wd b r;replace r:wd.heap[K]?=some (.cells #[.slice none 0 0] 23 (0,0)):=r;have qg:=M.out _ ((C _ qf).tT b (fun i P e=>(.inr (.inl e))));clear qf;replace f:=O (f.set 4 b r);replace z:=O (z.tT b (fun i _ e=>by first|exact .inl e|exact .inr (.inl e)|exact .inr (.inr e)));replace x:=O (b.owns x.out fun i P e=>by have:=aU x.out P;omega);clear b r;refine wpList_nil ?_;refine⟨qg,?_⟩;refine wA9 5 ?_;refine sta 49 (.tmp 8) (.const (.int .i64 0)) L 0 ([.int .i64 0]) (f.b 3) (by simp) (by kernel_rfl) (one9) ?_;intro we b r;replace r:we.heap[L]?=some (.cells #[.int .i64 0] 49 (0,0)):=r;have qn:=M.out _ ((C _ qg).tT b (fun i P e=>(.inr (.inr (e)))));clear qg;replace f:=O (f.set 3 b r);replace z:=O (z.tT b (fun i _ e=>by first|exact .inl e|exact .inr (.inl e)|exact .inr (.inr e)));replace x:=O (b.owns x.out fun i P e=>by have:=aU x.out P;omega);clear b r;refine wpList_nil ?_;refine⟨qn,?_⟩;refine wpAnyH_done (by kernel_rfl) ?_ _;clear qn C M y q0 qx;refine wpIn_ret ?_;have HF:Hid (FdI w J K L (Mm d s) we):=O ⟨⟨_,f.b 5,aW x.out (by have:=HW.out;omega)⟩,f.b 4,f.b 3,f.keep⟩;refine⟨fO z.out ?_,KpC.of z.out (fun _ h=>h),HF.out⟩;rintro j o U (rfl|rfl|rfl)
  ·rw[qd.b 5] at U;cases U;rfl
  ·rw[qd.b 4] at U;cases U;rfl
  ·rw[qd.b 3] at U;cases U;rfl
 case stop =>
  intro D W q3 hI qe;obtain⟨⟨v,h1,h2⟩,h3,h4,h5⟩:=hI;have hz:w.heap.size≤D:=Nat.le_trans HW.out q3
  have no:∀{k:Nat}{cs:Array Value}{t:TypeId},W.heap[k]?=some (.cells cs t (0,0))->D≠k:=fun hc e=>by
   cases e;rw[qe] at hc;cases hc
  have I:∀{k:Nat}{cs:Array Value}{t:TypeId},W.heap[k]?=some (.cells cs t (0,0))->(W.putObj D (.deferred none)).heap[k]?=some (.cells cs t (0,0)):=fun hc=>(World.putObj_heap_other (by have:=no hc;omega)).trans hc
  obtain⟨av,cv,rfl,-,-⟩:=(Rd.of_owns h2).form;have c6:(W.putObj D (.deferred none)).cell? ⟨J,0,none⟩=some (.slice av 256 cv):=aD (i:=0) (I h1) rfl;have c7:(W.putObj D (.deferred none)).cell? ⟨K,0,none⟩=some (.slice none 0 0):=aD (i:=0) (I h3) rfl;have c8:(W.putObj D (.deferred none)).cell? ⟨L,0,none⟩=some (.int .i64 0):=aD (i:=0) (I h4) rfl;have HP:Hid (EP w (Mm d s) (.returned (.tuple #[.slice av 256 cv,.slice none 0 0,.int .i64 0])) (W.putObj D (.deferred none))):=O ⟨_,rfl,Aw h2 qe rfl,h5.tT (aA.of_grown (grownBy_putObj' W D _)) (fun i P e=>by cases e;omega)⟩;clear h1 h2 h3 h4 h5 no I;show bodyPostM _ _ _ _ _ .ret _ _;refine⟨by simp,.inl ⟨_,_,rfl,run_takeDeferred qe,?_⟩⟩;refine⟨_,Cb rfl _ _ _ ⟨J,0,none⟩ ⟨K,0,none⟩ ⟨L,0,none⟩ (.slice av 256 cv) (.slice none 0 0) (.int .i64 0) rfl rfl rfl (by go_simp) (by go_simp) (by go_simp),HP.out⟩
def gJ(w:World)(c:List UInt8)(e:Ending)(b:World):Prop:=∃v,e=.returned (.tuple #[v,.int .i64 0])/\b.ownsRow w.heap.size 5 1 v 256 (c.map vb)/\aA aB w b
theorem Kg(h:bP w a B D Z Mm nw)(M:fF w m a)(pv:Value)(p:Pt)(E:PtV w pv p)(q:p.may=true)(L:p.hole=false)(z:∀x∈p.addrs,eN x D Z) :
 Calls prog 160 #[.pointer m,.agg (aF pv p).toArray] w (aK w (.int .i64 0)):=by
 have t:=aJ (v:=pv) E.sum;obtain⟨U,T,A,-,-⟩:=E.rd.form;obtain⟨C,g⟩:=zX9 (aF pv p)
 have Q:Hid (∀u∈C,u.oneCell'=true):=O (by rw[←g,A];exact cK p);have y:=O g;have G:Hid (∃r,C=pv::r):=O ⟨_,g.symm⟩;rw[g] at t ⊢;have n:=O h;have f:=O M;have c:=O E;have F:=O q;have N:=O L;have H:=O z;have k:=lN w;have P:=O (aA.refl aB w);clear h M E g q L z A;go_in
 go_wp2_with ((with_reducible show WL _ _);refine bxL k 27 (.tmp 1) (C.toArray) ?_)
 intro I R b k;replace n:=O (n.keep0 b);replace f:=O (b.blk f.out id);replace c:=O (c.keep b fun _ _=>id);clear b;go_wp2_with fail;refine(CU R m a f.out).mono ?_;rintro e J ⟨rfl,b⟩;replace k:=kL k b;replace n:=O (n.keep0 b);replace f:=O (b.blk f.out id);replace c:=O (c.keep b fun _ _=>id);clear b
 go_wp2_with ((with_reducible show WL _ _);refine wpList_load_mid rfl 27 (.tmp 3) rfl I 0 rfl C _ (aC (k.b 0)) aG rfl (szP9 t) ?_)
 refine((by rw[←y.out];exact lF J pv p c.out:Ka J (mY J p.may))).mono ?_;rintro e K ⟨rfl,b⟩;replace k:=kL k b;replace n:=O (n.keep0 b);replace f:=O (b.blk f.out id);replace c:=O (c.keep b fun _ _=>id);clear b;rw[F.out]
 go_wp2_with ((with_reducible show WL _ _);refine aM (by rfl) 27 (.tmp 3) rfl I 0 rfl C _ (aC (k.b 0)) aG rfl (szP9 t) ?_)
 refine((by rw[←y.out];exact cE K pv p c.out:Ka K (aY K p.hole))).mono ?_;rintro e S ⟨rfl,b⟩;replace k:=kL k b;replace n:=O (n.keep0 b);replace f:=O (b.blk f.out id);replace c:=O (c.keep b fun _ _=>id);clear b;rw[N.out];have c1:S.cell? ⟨I,0,none⟩=some (pv):=(by obtain⟨r,e⟩:=G.out;exact aD (i:=0) (k.b 0) (by rw[e];rfl))
 go_wp2_with fail;clear c1;refine(xO n.out f.out pv p.addrs c.rd H.out).mono ?_;rintro e V ⟨rfl,b⟩;replace k:=kL k b;replace n:=O (n.keep0 b);replace f:=O (b.blk f.out id);replace c:=O (c.keep b fun _ _=>id);clear b;go_wp2;go_ret;exact aK.of k.keep
theorem MK(h:bP w a B D Z Mm nw)(S:fF w m a)(pv:Value)(p:Pt)(G:PtV w pv p)(q:p.may=true)(R:p.hole=false)(z:∀x∈p.addrs,eN x D Z)(t:p.addrs=⟨(d:Int),(s:Int)⟩::xT)(r:p.sum=dD (Mm d s)) :
 Calls prog 111 #[.pointer m,.agg (aF pv p).toArray] w (gJ w (Mm d s)):=by
 have E:d<D/\s<Z:=by
  have:=z _ (by rw[t];exact List.mem_cons_self ..);obtain⟨d',s',he,h1,h2,h3⟩:=nA this;cases he
  omega
 have y:=aJ (v:=pv) G.sum;obtain⟨oa,ca,F,-,-⟩:=G.rd.form;obtain⟨H,g⟩:=zX9 (aF pv p)
 have Y:Hid (∀u∈H,u.oneCell'=true):=O (by rw[←g,F];exact cK p);have C:=O g;rw[g] at y ⊢;have n:=O h;have b:=O S;have c:=O G;have I:=O q;have W:=O R;have K:=O z;have J:=O t;have L:=O r;have A:=O E;have k:=lN w;clear h S G g q R z F t r E;go_in
 go_wp2_with ((with_reducible show WL _ _);refine bxL k 27 (.tmp 1) (H.toArray) ?_)
 intro Q T f k;replace n:=O (n.keep0 f);replace b:=O (f.blk b.out id);replace c:=O (c.keep f fun _ _=>id);clear f
 go_wp2_with ((with_reducible show WL _ _);refine wpList_load_mid rfl 27 (.tmp 3) rfl Q 0 rfl H _ (aC (k.b 0)) aG rfl (szP9 y) ?_)
 refine((by rw[←C.out];exact Kg n.out b.out pv p c.out I.out W.out K.out:Ka T (aK T (.int .i64 0)))).mono ?_;rintro e U ⟨rfl,f⟩;replace k:=kL k f;replace n:=O (n.keep0 f);replace b:=O (f.blk b.out id);replace c:=O (c.keep f fun _ _=>id);clear f
 go_wp2_with ((with_reducible show WL _ _);refine wpList_load_mid rfl 27 (.tmp 3) rfl Q 0 rfl H _ (aC (k.b 0)) aG rfl (szP9 y) ?_)
 have M:=O k.keep.size;refine((by rw[←C.out];exact IA n.out b.out pv p c.out J.out A.1 A.2 L.out:Ka U (EP U (Mm d s)))).mono ?_;rintro e w3 ⟨v0,rfl,N,f⟩;obtain⟨av,cv,rfl,-,-⟩:=(Rd.of_owns N).form;replace k:=kL k f;replace n:=O (n.keep0 f);replace b:=O (f.blk b.out id);replace c:=O (c.keep f fun _ _=>id);clear f;have P:=k.keep.size;have X:=O (aW N M.out);clear N P;go_wp2_with fail;have V:=O k.keep
 go_loopw [30] (fun i wr=>i=.int .i64 0/\wr=w3) (fun _ _=>0)
 case atStart=>exact⟨rfl,rfl⟩
 case round =>
  obtain⟨rfl,rfl⟩:=hrel;clear k n b c;go_wp2
  go_ret2
  exact⟨_,rfl,X.out,V.out⟩
end
end Go.Proofs.YtiinnfhjpaeffaaGreat
