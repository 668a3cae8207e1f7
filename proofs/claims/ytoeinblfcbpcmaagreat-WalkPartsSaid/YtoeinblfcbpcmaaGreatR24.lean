import Derived.Test.YtoeinblfcbpcmaaGreatR22
import Derived.Test.YtoeinblfcbpcmaaGreatR23
namespace Go.Proofs.YtoeinblfcbpcmaaGreat
open Tryz
set_option maxHeartbeats 0
set_option maxRecDepth 100000
set_option linter.unusedVariables false
section
open Go.RowKit Go.Maps Go.ChangeMaps
variable{w w0:World}{m a D Z nw d s j:Nat}{B:Nat->Prop}{Mm:Nat->Nat->List UInt8}{xT:List Ad}{o o':Obj}
theorem MX:prog.underlying 285=some (.struct (prog.fieldsOf 285)):=by kernel_rfl
theorem Ag:(prog.info? 285).map (·.size)=some 2:=by kernel_rfl
theorem MY(p:Option Addr)(n c:Nat)(w:World):(Instr.build 285 #[(0,.int .i64 0),(1,.slice p n c)]).run prog w=.ok (.agg #[.int .i64 0,.slice p n c]) w:=by kernel_rfl
def ET(w:World)(b:List UInt8)(e:Ending)(c:World):Prop:=∃v,e=.returned (.agg #[.int .i64 0,v])/\c.ownsRow w.heap.size 5 1 v 256 (b.map vb)/\aA aB w c
theorem MZ(h:bQ w a B D Z Mm nw)(hm:eV w m a)(hd:d<D)(hs:s<Z)(sum:List UInt8)(A:sum=dB (Mm d s)) :
 Calls prog 233 #[.pointer m,.agg (aO ⟨(d:Int),(s:Int)⟩).toArray,.agg (sum.map vb).toArray] w (ET w (Mm d s)):=by
 have P:=h.len hd hs;have I:sum.length=32:=by rw[A,cZ]
 have G:Hid (∀w,(binOp .neq 28 (.agg ((dB (Mm d s)).map vb).toArray) (.agg (sum.map vb).toArray)).run prog w=.ok (.bool false) w):=O (fun w=>by
  have:=AM (Es (dB (Mm d s)) sum (by rw[cZ]) I w);rw[this,decide_eq_true A.symm];rfl)
 obtain⟨K,r⟩:=zX9 (sum.map vb)
 have qa:K.length=32:=by rw[←r,List.length_map,I]
 have qc:Hid (∀u∈K,u.oneCell'=true):=O (by rw[←r];exact bR _);rw[r] at G ⊢;obtain⟨dg,H⟩:=zX9 ((dB (Mm d s)).map vb)
 rw[H] at G;have T:=O H;have t:=O h;have f:=O hm;have N:=O P;have k:=lN w;have qb:=O (aA.refl aB w);have qe:=MY;clear h hm P r H A I;go_in
 go_wp2_with refine bxM k ((aO ⟨(d:Int),(s:Int)⟩).toArray) ?_
 intro Q w1 b k;replace t:=O (t.keep0 b);replace f:=O (b.blk f.out id);clear b
 go_wp2_with refine bxM k (K.toArray) ?_
 intro b5 w2 b k;replace t:=O (t.keep0 b);replace f:=O (b.blk f.out id);clear b
 go_wp2_with refine alM k ES ?_
 intro W w3 b k;replace t:=O (t.keep0 b);replace f:=O (b.blk f.out id);clear b;go_wp2_with fail;refine dwA aB (by kernel_rfl) ?_;intro w4 S n z q p;replace k:=kL k p;replace t:=O (t.keep0 p);replace f:=O (p.blk f.out id);clear p;have x:=k;have R:=t;have F:=f;refine tna 0 (.pointer m) rfl q ?_;refine tnb 1 (.pointer m) rfl q ?_;refine tnb 2 (.pointer m) rfl q ?_;refine tnd 3 (.pointer a) rfl (.inl ⟨by rfl,fun E C=>by have c:World.cell? E ⟨m,0,none⟩=some (.pointer a):=(n E C).cell (eV.c0 F.out) id;go_simp⟩) q ?_;refine tnb 4 (.pointer Q) rfl q ?_;refine tnd 5 (.int .i64 (d:Int)) rfl (.inl ⟨by rfl,fun E C=>by have c:World.cell? E ⟨Q,0,none⟩=some (.int .i64 (d:Int)):=(aC (i:=0) ((n E C).blk (x.b 2) id) rfl);go_simp⟩) q ?_;refine tnb 6 (.pointer (some ⟨Q,1,none⟩)) rfl q ?_;refine tnd 7 (.int .i64 (s:Int)) rfl (.inl ⟨by rfl,fun E C=>by have c:World.cell? E ⟨Q,1,none⟩=some (.int .i64 (s:Int)):=(aC (i:=1) ((n E C).blk (x.b 2) id) rfl);go_simp⟩) q ?_;refine wA9 8 ?_;go_wp2_with fail;have L:=O (k.lt 0).2;have M:=O (k.lt 0).1;refine(QL t.out hd hs).mono ?_;rintro e w5 ⟨v0,rfl,Y,b⟩;have g:=z.out _ ((n _ q).trans b);replace k:=kL k b;replace t:=O (t.keep0 b);replace f:=O (b.blk f.out id);clear q b;obtain⟨pv,J,rfl,-,-⟩:=(Rd.of_owns Y).form;have y:=O Y;have V:=O (Nat.le_of_lt (Nat.lt_of_le_of_lt M.out L.out));have qd:W<w4.heap.size:=L.out;clear Y;go_wp2_with fail;refine⟨g,?_⟩;refine tna 9 (.tuple #[.slice pv 256 J,.int .i64 0]) rfl g ?_;refine tnb 10 (.slice pv 256 J) rfl g ?_;refine tnb 11 (.int .i64 0) rfl g ?_;refine tna 12 (.slice pv 256 J) rfl g ?_;refine tna 13 (.int .i64 0) rfl g ?_;refine wpAnyH_done (by kernel_rfl) ?_ _;clear g n z x R F;clear t f;go_wp2_with fail;refine dwA aB (by kernel_rfl) ?_;intro w6 S n z q p;replace k:=kL k p;replace y:=O (p.owns y.out fun _ _=>id);clear p;have x:=k;have U:=y;refine tna 0 (.slice pv 256 J) rfl q ?_;refine tnd 2 (.agg K.toArray) rfl (yieldsIf_load_mid (by rfl) 28 (.tmp 5) rfl b5 0 rfl K _ (fun E h=>aD ((n E h).blk (x.b 1) id)) underlying28 rfl (by rw[qa];exact xD)) q ?_;refine wA9 1 ?_;go_wp2_with fail;refine(yF _ (Mm d s) w6 (by rw[N.out];exact Rd.of_owns y.out) (by rw[N.out];decide)).mono ?_;rintro e w7 ⟨rfl,b⟩;have g:=z.out _ ((n _ q).trans b);replace k:=kL k b;replace y:=O (b.owns y.out fun _ _=>id);clear q b;rw[T.out];go_wp2_with fail;refine⟨g,?_⟩;refine tnd 3 (.bool false) rfl (lP (by rfl) 28 (.tmp 39) (.tmp 40) 28 rfl dg.toArray K.toArray rfl rfl OC G.out) g ?_;refine tna 4 (.bool false) rfl g ?_;refine wpAnyH_done (by kernel_rfl) ?_ _;clear g n z x U
 go_wp2_with ((with_reducible show WL _ _);refine sta 285 (.tmp 6) (.tmp 48) W 0 ([.int .i64 0,.slice pv 256 J]) (k.b 0) (by first|decide|(rw[rfl];exact Nat.le_refl _)|simp[]) Ag (by intro v hv;simp only[List.mem_cons,List.not_mem_nil,or_false] at hv;rcases hv with rfl|rfl<;>rfl) ?_)
 intro w8 b X;rw[aS _ _ (by first|rfl|simp[])] at X;replace k:=O (k.set 0 b X);replace y:=O (b.owns y.out fun i hi e=>by have:=aW y.out hi;omega);clear b X;have HP:Hid (ET w (Mm d s) (.returned (.agg #[.int .i64 0,.slice pv 256 J])) w8):=O ⟨_,rfl,bA y.out (V.out),k.keep⟩;have HB:=O (k.b 0);clear y k;go_wp2_with fail;refine bodyPost_ret (results_cell_row rfl _ _ W _ _ _ _ rfl HB.out MX rfl Ag) rfl ?_;exact HP.out
def A7(b:Ad)(x:Option Addr×Nat):Array Value:=#[.agg (aO b).toArray,.agg #[.int .i64 0,.slice x.1 256 x.2]]
def CpR(b:List UInt8)(x:Option Addr×Nat)(A B:World):Prop:=aA aB A B/\B.ownsRow A.heap.size 5 1 (.slice x.1 256 x.2) 256 (b.map vb)
theorem Ge{R J T:Nat}{Res:Nat->Prop}(h:bQ w a B D Z Mm nw)(hm:eV w m a)(pv:Value)(p:Pt)(hp:PtV w pv p)(Y:p.addrs=⟨(d:Int),(s:Int)⟩::xT)(hd:d<D)(hs:s<Z)(I:p.sum=dB (Mm d s))
 (h4:w.heap[J]?=some (.cells (aE pv p).toArray 30 (0,0))) (h5:w.heap[T]?=some (.cells #[.int .i64 (-1)] 3 (0,0))) (h3:w.heap[R]?=some (.cells #[.pointer m] 108 (0,0))) (H:∀k,Res k->k<w.heap.size/\k≠R/\k≠J/\k≠T) (n:Nat) :
 ∀(l:Nat) (Jx:Option Addr×Nat->World->Prop) (W:World),aA aB w W->(∀x W1,CpR (Mm d s) x W W1->YieldAt Fence.wide (n-1) prog l (A7 ⟨(d:Int),(s:Int)⟩ x) W1 fun e W'=>e=.returned (.bool false)/\Jx x W'/\KpC Res W1 W') ->
  CallsIn Fence.wide n prog 232 (#[.func (.yield l) #[] #[]]++#[.pointer J,.pointer T,.pointer R]) W fun e W'=>(∃v,e=.returned v)/\∃x,Jx x W':=by
 intro l Jx W u hy;obtain⟨oa,ca,rfl,-,-⟩:=hp.rd.form;have qa:=(hp.keep u fun _ _=>id).rd;obtain⟨g,o,qj,hv,L⟩:=gX qa (k:=0) (x:=⟨(d:Int),(s:Int)⟩) (by rw[Y];rfl);obtain rfl:oa=some ⟨g,o,none⟩:=by cases hv;rfl
 rw[Nat.zero_mul,Nat.add_zero] at L;obtain⟨q,hq⟩:=zX9 p.addrs.length
 have qk:0<q:=by rw[←hq,Y];simp
 have ql:(0:Int)<(q:Int):=by omega
 have qb:p.sum.length=32:=hp.sum;rw[hq] at h4;have HX:=O L;have HD:=O hd;have HZ:=O hs;have qg:=O I;have qf:=O qb;have H4:=O (u.blk h4 id);have H5:=O (u.blk h5 id);have H3:=O (u.blk h3 id);have HA:=O (h.keep0 u);have qe:Hid (eV W m a):=O (u.blk hm id);have HY:=O hy;have HR:=O H;have qh:=O u.size;have c0:W.cell? ⟨J,0,none⟩=some (.slice (some ⟨g,o,none⟩) q ca):=aC (i:=0) H4.out (by rw[List.getElem?_toArray];rfl);clear h hm I qb h4 h5 h3 u hy H qa hv L hp hq;refine callsIn_of_wp func232 rfl trivial ?_ rfl;simp only[ntmps232,List.size_toArray,List.length_cons,List.length_nil,Nat.reduceAdd,Nat.reduceSub,Array.replicate_succ,Array.replicate_zero,List.push_toArray,List.append_toArray,List.nil_append,List.cons_append]
 gi_wp2
 clear c0
 gi_loopw [10] (fun i wr=>i=.int .i64 0/\Hid (aA aB W wr)) (fun _ _=>0)
 case atStart=>exact⟨rfl,O (aA.refl _ _)⟩
 case round =>
  obtain⟨rfl,y⟩:=hrel;obtain⟨C,hC⟩:=zX9 wr.heap.size
  have qc:=y.rangeAt HX.out
  gi_wp2_with (first
   | (refine lA rfl 59 (.tmp 12) rfl g o rfl (aO ⟨(d:Int),(s:Int)⟩) _ qc bT rfl (by rw[bG];exact cC) ?_)
   | (refine pR rfl 59 rfl eM eI #[.int .i64 0,.int .i64 0] rfl ?_)
   | (refine oU rfl 59 (.tmp 6) (.tmp 13) rfl wr.heap.size 0 (aO ⟨(d:Int),(s:Int)⟩) rfl rfl #[.int .i64 0,.int .i64 0] _ (heap_alloc_new _ _) (by rw[bG];simp) (by rw[bG];exact cC) (bP _) ?_;intro w3 G V
      rw[aS _ _ (by rw[bG];simp)] at G)
   | gi_in)
  have X:aA aB wr w3:=((aA.refl aB wr).alloc _).tT V (fun i hi e=>by omega);have N:=O y.size;replace y:=O (y.trans X);clear V qc X;rw[hC] at G N ⊢;have P:=O (And.intro G (And.intro (y.blk H4.out id) (And.intro (y.blk H5.out id) (y.blk H3.out id))));clear G hC H4 H5 H3;obtain⟨S,K⟩:∃S:World->Prop,S=fun r=>r.heap[C]?=some (.cells (aO ⟨(d:Int),(s:Int)⟩).toArray 59 (0,0))/\r.heap[J]?=some (.cells (aE (.slice (some ⟨g,o,none⟩) q ca) p).toArray 30 (0,0))/\r.heap[T]?=some (.cells #[.int .i64 (-1)] 3 (0,0))/\r.heap[R]?=some (.cells #[.pointer m] 108 (0,0)):=⟨_,rfl⟩
  have b:=O (show ∀r,S r->_ from fun r h=>by rw[K] at h;exact h);have E:=O (show ∀r,_->S r from fun r h=>by rw[K];exact h);have t:S w3.drew:=E.out _ (by have:=P.out;exact this);have M:=(aA.refl aB w3).drew;clear K P;refine yU (S:=S) (by kernel_rfl) ?_;change eG _ _ _ _ _ _ _ _ _ w3.drew;generalize w3.drew=w4 at t M ⊢;replace y:=O (y.trans M);clear M;refine tib 0 (.pointer (some ⟨C,0,none⟩)) rfl t ?_;refine tid 1 (.int .i64 (d:Int)) rfl (.inl ⟨by rfl,fun r A=>by have c:World.cell? r ⟨C,0,none⟩=some (.int .i64 (d:Int)):=aC (i:=0) (b r A).1 rfl;go_simp⟩) t ?_;refine tid 2 (.int .i64 (-1)) rfl (.inl ⟨by rfl,fun r A=>by have c:World.cell? r ⟨T,0,none⟩=some (.int .i64 (-1)):=aC (i:=0) (b r A).2.2.1 rfl;go_simp⟩) t ?_
  refine tid 3 (.bool true) rfl (.inl ⟨by rfl,fun r A=>by
   have e:(d:Int)≠-1:=by omega
   go_simp⟩) t ?_
  refine tia 4 (.bool true) rfl t ?_;refine tia 5 (.func (.yield l) #[] #[]) rfl t ?_;refine tid 6 (.agg (aO ⟨(d:Int),(s:Int)⟩).toArray) rfl (yieldsIf_load_mid (by rfl) 59 (.tmp 6) rfl C 0 rfl (aO ⟨(d:Int),(s:Int)⟩) _ (fun r h=>aD (b r h).1) bT rfl (by rw[bG];exact cC)) t ?_;refine tid 7 (.pointer m) rfl (.inl ⟨by rfl,fun r A=>by have c:World.cell? r ⟨R,0,none⟩=some (.pointer m):=aC (i:=0) (b r A).2.2.2 rfl;go_simp⟩) t ?_;refine tid 8 (.agg (aO ⟨(d:Int),(s:Int)⟩).toArray) rfl (yieldsIf_load_mid (by rfl) 59 (.tmp 6) rfl C 0 rfl (aO ⟨(d:Int),(s:Int)⟩) _ (fun r h=>aD (b r h).1) bT rfl (by rw[bG];exact cC)) t ?_;refine tib 9 (.pointer (some ⟨J,3,none⟩)) rfl t ?_;refine tid 10 (.agg (p.sum.map vb).toArray) rfl (yieldsIf_load_mid (by rfl) 28 (.tmp 23) rfl J 3 rfl (p.sum.map vb) _ (fun r h=>(bN (aD (b r h).2.1)).2.2.2) underlying28 rfl (by rw[List.length_map,qf.out];exact xD)) t ?_;refine ER (k:=11) (f:=233) (args:=#[.pointer m,.agg (aO ⟨(d:Int),(s:Int)⟩).toArray,.agg (p.sum.map vb).toArray]) rfl (by kernel_rfl) (by kernel_rfl) (by kernel_rfl) (by first|rfl|go_simp) (MZ (HA.keep0 y.out) (y.blk qe.out id) HD.out HZ.out p.sum qg.out) ?_;rintro e w5 ⟨v0,rfl,ho,u⟩;obtain⟨qi,cv,rfl,-,-⟩:=(Rd.of_owns ho).form;have qd:=O (y.trans u);have z:S w5:=E.out _ ⟨u.blk (b _ t).1 id,u.blk (b _ t).2.1 id,u.blk (b _ t).2.2.1 id,u.blk (b _ t).2.2.2 id⟩;have Q:=O (HY (qi,cv) w5 ⟨qd.out,bA ho y.size⟩);clear ho u t;refine⟨_,rfl,z,nrm ?_⟩;refine DE (k:=12) (l:=l) rfl (by kernel_rfl) (by kernel_rfl) (by kernel_rfl) (by first|rfl|(unfold A7;go_simp;done)|(unfold A7;unfold execOp;simp[Act.put,resolve,invoke,go_sem,Act.eval];done)) Q.out ?_;rintro e w6 ⟨rfl,hj,U⟩;have F:S w6:=E.out _ ⟨U _ _ _ _ (fun e=>by have:=(HR _ e).1;have:=N.out;have:=qh.out;omega) (b _ z).1,U _ _ _ _ (fun e=>(HR _ e).2.2.1 rfl) (b _ z).2.1,U _ _ _ _ (fun e=>(HR _ e).2.2.2 rfl) (b _ z).2.2.1,U _ _ _ _ (fun e=>(HR _ e).2.1 rfl) (b _ z).2.2.2⟩;refine⟨_,rfl,F,nrm ?_⟩;refine tib 13 (.bool true) rfl F ?_;refine tia 14 (.bool true) rfl F ?_;refine EQ (by kernel_rfl) ?_ _;have HJ:=O hj;clear hj U z F b E Q
  gi_wp2
  refine bodyPost_ret (results_none rfl _ _ _) rfl ?_;exact⟨⟨_,rfl⟩,_,HJ.out⟩
def OS(w:World)(m:Nat)(h:List Value)(e:Ending)(b:World):Prop:=∃c f g,e=.returned (.func (.func 232) #[] #[.pointer (some ⟨f,0,none⟩),.pointer (some ⟨g,0,none⟩),.pointer (some ⟨c,0,none⟩)])/\b.heap[f]?=some (.cells h.toArray 30 (0,0))/\b.heap[g]?=some (.cells #[.int .i64 (-1)] 3 (0,0))/\b.heap[c]?=some (.cells #[.pointer m] 108 (0,0))/\(w.heap.size≤c/\w.heap.size≤f/\w.heap.size≤g)/\aA aB w b
theorem IM(w:World)(m:Nat)(e:List Value)(l:e.length=35)(f:∀u∈e,u.oneCell'=true):Calls prog 204 #[.pointer m,.agg e.toArray,.int .i64 (-1)] w (OS w m e):=by
 have g:=O f;have b:=lN w;clear f;go_in
 go_wp2_with refine bxM b (#[.pointer m]) ?_
 intro h n c b;clear c
 go_wp2_with refine bxM b (e.toArray) ?_
 intro i p c b;clear c
 go_wp2_with refine bxM b (#[.int .i64 (-1)]) ?_
 intro k q c b;clear c;go_wp2_with fail;go_wp2;go_ret;exact⟨h,i,k,rfl,b.b 1,b.b 0,b.b 2,⟨(b.lt 2).1,(b.lt 1).1,(b.lt 0).1⟩,b.keep⟩
theorem Loc.put{S:Nat->Prop}{l:List (Nat×Array Value×TypeId)}(h:Loc S B w0 w l)(c:w.heap[j]?=some o)(k:o.isCells=false)(q:w0.heap.size≤j):Loc S B w0 (w.putObj j o') l:=by
 have f:=aA.of_grown (grownBy_putObj' w j o');refine⟨h.keep.tT f (fun i p e=>by cases e;omega),h.ge,h.nd,fun x n=>?_,h.ap⟩;have b:=h.at_ x n;refine f.blk b (fun e=>?_);have g:j=x.1:=Option.some.inj e;rw[g,b] at c;cases c
 cases k
theorem Ai{base n sz:Nat}{T:TypeId}{v:Value}{b:List Value}(h:w.ownsRow base T sz v n b)(g:w.heap[j]?=some o)(i:o.isCells=false):(w.putObj j o').ownsRow base T sz v n b:=
 (aA.of_grown (grownBy_putObj' w j o')).owns h fun k f e=>by
   cases e
   obtain⟨cur,c⟩:=aJ h f;rw[g] at c;cases c
   cases i
theorem BY{e:Func}{p q r:Tmp}{tp k l:TypeId}(h:e.results=#[.cell p tp,.cell q k,.cell r l])(tmps:Array Value)(P:Program)(w:World)(a b c:Addr)(x y z:Value)
 (f:tmps.getD p undef=.pointer (some a)) (g:tmps.getD q undef=.pointer (some b)) (i:tmps.getD r undef=.pointer (some c)) (n:(loadVar tp a).run P w=.ok x w) (t:(loadVar k b).run P w=.ok y w) (u:(loadVar l c).run P w=.ok z w) :
 (results e tmps).run P w=.ok (.tuple #[x,y,z]) w:=by
 simp only[results,h];simp only[Array.getD_eq_getD_getElem?] at f g i;simp[Sem.run_bind,Result.andThen,asAddr,f,g,i,n,t,u]
structure FdI(w0:World)(b6 b7 b8:Nat)(bs:List UInt8)(W:World):Prop where
 v:∃v,W.heap[b6]?=some (.cells #[v] 68 (0,0))/\W.ownsRow w0.heap.size 5 1 v 256 (bs.map vb)
 n:W.heap[b7]?=some (.cells #[.slice none 0 0] 26 (0,0))
 z:W.heap[b8]?=some (.cells #[.int .i64 0] 41 (0,0))
 k:aA aB w0 W
theorem FdI.put{W:World}{c f g:Nat}{l:List UInt8}(h:FdI w0 c f g l W)(u:W.heap[j]?=some o)(x:o.isCells=false)(C:w0.heap.size≤j):FdI w0 c f g l (W.putObj j o'):=by
 obtain⟨⟨v,n,y⟩,p,q,z⟩:=h;have b:=aA.of_grown (grownBy_putObj' W j o')
 have no:∀{k:Nat}{cs:Array Value}{t:TypeId},W.heap[k]?=some (.cells cs t (0,0))->¬some j=some k:=fun r e=>by
  cases e;rw[u] at r;cases r;cases x
 exact⟨⟨v,b.blk n (no n),Ai y u x⟩,b.blk p (no p),b.blk q (no q),z.tT b (fun i A e=>by cases e;omega)⟩
theorem CN(T:Array Value)(p q:Tmp)(a b:Value):((#[p,q].zip #[a,b]).foldl (fun(t:Array Value) (x:Tmp×Value)=>match x with|(p,v)=>t.setIfInBounds p v) T)=(T.setIfInBounds p a).setIfInBounds q b:=by simp
def EU(w:World)(c:List UInt8)(e:Ending)(b:World):Prop:=∃v,e=.returned (.tuple #[v,.slice none 0 0,.int .i64 0])/\b.ownsRow w.heap.size 5 1 v 256 (c.map vb)/\aA aB w b
theorem IN(h:bQ w a B D Z Mm nw)(hm:eV w m a)(pv:Value)(p:Pt)(hp:PtV w pv p)(qu:p.addrs=⟨(d:Int),(s:Int)⟩::xT)(hd:d<D)(hs:s<Z)(qb:p.sum=dB (Mm d s)) :
 Calls prog 166 #[.pointer m,.agg (aE pv p).toArray,.int .i64 (-1)] w (EU w (Mm d s)):=by
 have qi:=aF (v:=pv) hp.sum;obtain⟨pc,H⟩:=zX9 (aE pv p)
 have qw:Hid (∀u∈pc,u.oneCell'=true):=O (by rw[←H];obtain⟨oa,ca,rfl,-,-⟩:=hp.rd.form;exact cE p);have qm:=O H;rw[H] at qi ⊢;have G:=O h;have g:=O hm;have q:=O hp;have qy:=O qu;have HD:=O hd;have HZ:=O hs;have qz:=O qb;have f:=lN w;clear h hm hp H qu hd hs qb;refine callsIn_wide.1 (callsIn_of_wp_marks (F:=Fence.wide) (n:=3) func166 rfl trivial (wpIn_wide.2 ?_));simp only[ntmps166,List.size_toArray,List.length_cons,List.length_nil,Nat.reduceAdd,Nat.reduceSub,Array.replicate_succ,Array.replicate_zero,List.push_toArray,List.append_toArray,List.nil_append,List.cons_append]
 go_wp2_with refine bxM f (pc.toArray) ?_
 intro b4 w1 b f;replace G:=O (G.keep0 b);replace g:=O (b.blk g.out id);replace q:=O (q.keep b fun _ _=>id);clear b
 go_wp2_with refine alS f PZ ?_
 intro K w2 b f;replace G:=O (G.keep0 b);replace g:=O (b.blk g.out id);replace q:=O (q.keep b fun _ _=>id);clear b
 go_wp2_with refine alS f P0 ?_
 intro L w3 b f;replace G:=O (G.keep0 b);replace g:=O (b.blk g.out id);replace q:=O (q.keep b fun _ _=>id);clear b
 go_wp2_with refine alS f kV ?_
 intro M w4 b f;replace G:=O (G.keep0 b);replace g:=O (b.blk g.out id);replace q:=O (q.keep b fun _ _=>id);clear b
 go_wp2_with refine alS f P0 ?_
 intro b9 w5 b f;replace G:=O (G.keep0 b);replace g:=O (b.blk g.out id);replace q:=O (q.keep b fun _ _=>id);clear b
 go_wp2_with refine ldQ (f.b 4) qi ?_
 have Y:=f;refine(IM w5 m pc qi qw.out).mono ?_;rintro e w6 ⟨c3,c4,c5,rfl,h4,h5,h3,qr,b⟩;replace f:=kL f b;replace G:=O (G.keep0 b);replace g:=O (b.blk g.out id);replace q:=O (q.keep b fun _ _=>id);clear b;have H4:=O h4;have H5:=O h5;have H3:=O h3;have qv:=O qr;clear h4 h5 h3 qr;go_wp2_with fail;have za:=qm.out;have q5:=qv.out;have qo:=(Y.lt 3);have qp:=Y.lt 2;have qq:=Y.lt 1;have qk:Hid (w6.heap[c4]?=some (.cells (aE pv p).toArray 30 (0,0))):=O (by rw[qm.out];exact H4.out);have ql:=Ge (Res:=fun k=>k=K\/k=L\/k=M) G.out g.out pv p q.out qy.out HD.out HZ.out qz.out qk.out H5.out H3.out (fun k b=>by have:=(f.lt 1).2;have:=(f.lt 2).2;have:=(f.lt 3).2;rcases b with rfl|rfl|rfl<;>omega) (3-1);have zb:K<w6.heap.size:=(f.lt 3).2;have ze:L<w6.heap.size:=(f.lt 2).2;have zg:M<w6.heap.size:=(f.lt 1).2;have zi:b9<w6.heap.size:=(f.lt 0).2;have HW:=O f.keep.size;clear Y q g G H3 H4 qk H5 q5 qo qp qq za;refine wpIn_wide (n:=3).1 ?_;refine DF rfl (by omega) (gf:=232) rfl trivial (enters_of func232 (by kernel_rfl) rfl) (encs:=A7 ⟨(d:Int),(s:Int)⟩) (R:=CpR (Mm d s)) (fun _ _ _ h=>h.1) ql (fun _=>rfl) (FdI w K L M (Mm d s)) (fun W l o hl hI U X o'=>hI.put U X (by have:=HW.out;omega)) ?round ?stop
 case round =>
  rintro l ⟨px,cx⟩ W W1 b ⟨qt,U⟩ hl;replace f:=O (f.keeps (b.trans qt));have r:=O U;have zj:=b.size;have zd:K<W.heap.size:=by omega
  have zf:L<W.heap.size:=by omega
  have zh:M<W.heap.size:=by omega
  have y:=O (aA.refl aB W1);clear b qt U ql;unfold A7;dsimp only;rw[CN];simp only[List.setIfInBounds_toArray,List.set_cons_zero,List.set_cons_succ];refine wpIn_seq ?_;refine cY (by kernel_rfl) (fun ⟨_,_,h⟩=>h) ?_
  go_wp2_with refine alA xC ?_
  intro q1 w7 N Q z
  go_wp2_with ((with_reducible show WL _ _);refine sta 59 (.tmp 10) (.tmp 16) q1 0 (aO ⟨(d:Int),(s:Int)⟩) z (by first|decide|(rw[List.size_toArray,bG];exact Nat.le_refl _)|simp[bG]) (by rw[bG];exact jK) (bP _) ?_)
  intro w8 b A;rw[aS _ _ (by first|rfl|(rw[List.size_toArray,bG];rfl)|simp[bG])] at A;replace b:=tX Q b (fun i P e=>by omega);replace f:=lW f N b A;replace y:=O (y.trans b);replace r:=O (b.owns r.out fun _ _=>id);clear N b A Q z;go_wp2_with fail;refine cY (by kernel_rfl) (fun ⟨_,_,h⟩=>h) ?_
  go_wp2_with refine alA ES ?_
  intro qd w9 N Q z
  go_wp2_with ((with_reducible show WL _ _);refine sta 285 (.tmp 11) (.tmp 17) qd 0 ([.int .i64 0,.slice px 256 cx]) z (by first|decide|(rw[List.size_toArray,rfl];exact Nat.le_refl _)|simp[]) Ag (by intro v hv;simp only[List.mem_cons,List.not_mem_nil,or_false] at hv;rcases hv with rfl|rfl<;>rfl) ?_)
  intro wa b A;rw[aS _ _ (by first|rfl|(rw[List.size_toArray,rfl];rfl)|simp[])] at A;replace b:=tX Q b (fun i P e=>by omega);replace f:=lW f N b A;replace y:=O (y.trans b);replace r:=O (b.owns r.out fun _ _=>id);clear N b A Q z;go_wp2_with fail;refine⟨fK y.out (fun _ _ _ h=>h.elim),KpC.of y.out (fun _ h=>h.elim),fun o o' qh X=>?_⟩;have q9:w.heap.size≤l:=by have:=HW.out;omega
  replace f:=O (f.put (o':=o') qh X q9);replace r:=O (Ai (o':=o') r.out qh X);clear y;generalize World.putObj wa l o'=V at f r ⊢;have qc:=f;have y:Hid (aA (fun k=>k=K\/k=L\/k=M) V V):=O (aA.refl _ _);clear qh X;refine wpIn_block ?_;refine wpIn_seq ?_;refine cY (by kernel_rfl) (fun ⟨_,_,h⟩=>h) ?_;have c1:=cD f 0
  go_wp2_with fail;clear c1;refine wpIn_block ?_;refine wpIn_seq ?_;refine cY (by kernel_rfl) (fun ⟨_,_,h⟩=>h) ?_;go_wp2_with fail;refine wpIn_cond_true rfl ?_;refine wpIn_seq ?_;go_wp2_with fail;obtain⟨S,qa⟩:∃S:World->Prop,S=fun E=>aA (fun k=>k=K\/k=L\/k=M) V.drew E:=⟨_,rfl⟩
  have C:=O (show ∀E,S E->aA (fun k=>k=K\/k=L\/k=M) V.drew E from fun E h=>by rw[qa] at h;exact h);have J:=O (show ∀E,aA (fun k=>k=K\/k=L\/k=M) V.drew E->S E from fun E h=>by rw[qa];exact h);have hS:S V.drew:=by rw[qa];exact aA.refl _ _
  have T:=(aA.refl aB V).drew;clear qa;refine mJ (by kernel_rfl) (by kernel_rfl) (fun ⟨_,_,h⟩=>h) (wpAny_of_held (S:=S) _ _ _ _ ?_);change wpAnyH _ _ _ _ _ _ _ _ V.drew;generalize V.drew=wb at C J hS T ⊢;replace f:=kL f T;replace y:=O (y.trans (aA.any T));replace r:=O (T.owns r.out fun _ _=>id);clear T;have x:=f;have q0:=y;have qx:=r;refine tnb 0 (.pointer (some ⟨qd,1,none⟩)) rfl hS ?_;refine tnd 1 (.slice px 256 cx) rfl (.inl ⟨by rfl,fun E qj=>by have c:World.cell? E ⟨qd,1,none⟩=some (.slice px 256 cx):=aC (i:=1) ((C E qj).blk (x.b 0) (fun e=>by rcases e with e|e|e<;>first|exact bH (i:=5) x.nd rfl 0 (by decide) rfl e|exact bH (i:=4) x.nd rfl 0 (by decide) rfl e|exact bH (i:=3) x.nd rfl 0 (by decide) rfl e)) rfl;go_simp⟩) hS ?_;refine tnd 2 (.slice none 0 0) rfl (.inl ⟨by rfl,fun E qj=>by have c:World.cell? E ⟨b9,0,none⟩=some (.slice none 0 0):=aC (i:=0) ((C E qj).blk (x.b 2) (fun e=>by rcases e with e|e|e<;>first|exact bH (i:=5) x.nd rfl 2 (by decide) rfl e|exact bH (i:=4) x.nd rfl 2 (by decide) rfl e|exact bH (i:=3) x.nd rfl 2 (by decide) rfl e)) rfl;go_simp⟩) hS ?_;refine wA9 3 ?_;refine stV (.slice px 256 cx) (f.b 5) ?_;intro wc b A;have qf:=J.out _ ((C _ hS).tT b (fun i P e=>(.inl e)));clear hS;replace f:=O (f.set 5 b A);replace y:=O (y.tT b (fun i _ e=>by first|exact .inl e|exact .inr (.inl e)|exact .inr (.inr e)));replace r:=O (b.owns r.out fun i P e=>by have:=aW r.out P;omega);clear b A;refine wpList_nil ?_;refine⟨qf,?_⟩;refine wA9 4 ?_;refine stV (.slice none 0 0) (f.b 4) ?_;intro wd b A;have qg:=J.out _ ((C _ qf).tT b (fun i P e=>(.inr (.inl e))));clear qf;replace f:=O (f.set 4 b A);replace y:=O (y.tT b (fun i _ e=>by first|exact .inl e|exact .inr (.inl e)|exact .inr (.inr e)));replace r:=O (b.owns r.out fun i P e=>by have:=aW r.out P;omega);clear b A;refine wpList_nil ?_;refine⟨qg,?_⟩;refine wA9 5 ?_;refine stV (.int .i64 0) (f.b 3) ?_;intro we b A;have qn:=J.out _ ((C _ qg).tT b (fun i P e=>(.inr (.inr (e)))));clear qg;replace f:=O (f.set 3 b A);replace y:=O (y.tT b (fun i _ e=>by first|exact .inl e|exact .inr (.inl e)|exact .inr (.inr e)));replace r:=O (b.owns r.out fun i P e=>by have:=aW r.out P;omega);clear b A;refine wpList_nil ?_;refine⟨qn,?_⟩;refine wpAnyH_done (by kernel_rfl) ?_ _;clear qn C J x q0 qx;refine wpIn_ret ?_;have HF:Hid (FdI w K L M (Mm d s) we):=O ⟨⟨_,f.b 5,bA r.out (by have:=HW.out;omega)⟩,f.b 4,f.b 3,f.keep⟩;refine⟨fK y.out ?_,KpC.of y.out (fun _ h=>h),HF.out⟩;rintro j o U (rfl|rfl|rfl)
  ·rw[qc.b 5] at U;cases U;rfl
  ·rw[qc.b 4] at U;cases U;rfl
  ·rw[qc.b 3] at U;cases U;rfl
 case stop =>
  intro D W q3 hI qe;obtain⟨⟨v,h1,h2⟩,h3,h4,h5⟩:=hI;have hz:w.heap.size≤D:=Nat.le_trans HW.out q3
  have no:∀{k:Nat}{cs:Array Value}{t:TypeId},W.heap[k]?=some (.cells cs t (0,0))->D≠k:=fun hc e=>by
   cases e;rw[qe] at hc;cases hc
  have I:∀{k:Nat}{cs:Array Value}{t:TypeId},W.heap[k]?=some (.cells cs t (0,0))->(W.putObj D (.deferred none)).heap[k]?=some (.cells cs t (0,0)):=fun hc=>(World.putObj_heap_other (by have:=no hc;omega)).trans hc
  obtain⟨av,cv,rfl,-,-⟩:=(Rd.of_owns h2).form;have c6:(W.putObj D (.deferred none)).cell? ⟨K,0,none⟩=some (.slice av 256 cv):=aC (i:=0) (I h1) rfl;have c7:(W.putObj D (.deferred none)).cell? ⟨L,0,none⟩=some (.slice none 0 0):=aC (i:=0) (I h3) rfl;have c8:(W.putObj D (.deferred none)).cell? ⟨M,0,none⟩=some (.int .i64 0):=aC (i:=0) (I h4) rfl;have HP:Hid (EU w (Mm d s) (.returned (.tuple #[.slice av 256 cv,.slice none 0 0,.int .i64 0])) (W.putObj D (.deferred none))):=O ⟨_,rfl,Ai h2 qe rfl,h5.tT (aA.of_grown (grownBy_putObj' W D _)) (fun i P e=>by cases e;omega)⟩;clear h1 h2 h3 h4 h5 no I;show bodyPostM _ _ _ _ _ .ret _ _;refine⟨by simp,.inl ⟨_,_,rfl,run_takeDeferred qe,?_⟩⟩;refine⟨_,BY rfl _ _ _ ⟨K,0,none⟩ ⟨L,0,none⟩ ⟨M,0,none⟩ (.slice av 256 cv) (.slice none 0 0) (.int .i64 0) rfl rfl rfl (by go_simp) (by go_simp) (by go_simp),HP.out⟩
def gH(w:World)(c:List UInt8)(e:Ending)(b:World):Prop:=∃v,e=.returned (.tuple #[v,.int .i64 0])/\b.ownsRow w.heap.size 5 1 v 256 (c.map vb)/\aA aB w b
theorem Ky(h:bQ w a B D Z Mm nw)(M:eV w m a)(pv:Value)(p:Pt)(C:PtV w pv p)(q:p.may=true)(L:p.hole=false)(z:∀x∈p.addrs,eF x D Z) :
 Calls prog 165 #[.pointer m,.agg (aE pv p).toArray] w (aH w (.int .i64 0)):=by
 have t:=aF (v:=pv) C.sum;obtain⟨U,T,A,-,-⟩:=C.rd.form;obtain⟨E,g⟩:=zX9 (aE pv p)
 have Q:Hid (∀u∈E,u.oneCell'=true):=O (by rw[←g,A];exact cE p);have y:=O g;have G:Hid (∃r,E=pv::r):=O ⟨_,g.symm⟩;rw[g] at t ⊢;have n:=O h;have f:=O M;have c:=O C;have F:=O q;have N:=O L;have H:=O z;have k:=lN w;have P:=O (aA.refl aB w);clear h M C g q L z A;go_in
 go_wp2_with refine bxM k (E.toArray) ?_
 intro K R b k;replace n:=O (n.keep0 b);replace f:=O (b.blk f.out id);replace c:=O (c.keep b fun _ _=>id);clear b;go_wp2_with fail;refine(CM R m a f.out).mono ?_;rintro e I ⟨rfl,b⟩;replace k:=kL k b;replace n:=O (n.keep0 b);replace f:=O (b.blk f.out id);replace c:=O (c.keep b fun _ _=>id);clear b
 go_wp2_with refine ldQ (k.b 0) t ?_
 refine((by rw[←y.out];exact iZ I pv p c.out:Ka I (lH I p.may))).mono ?_;rintro e J ⟨rfl,b⟩;replace k:=kL k b;replace n:=O (n.keep0 b);replace f:=O (b.blk f.out id);replace c:=O (c.keep b fun _ _=>id);clear b;rw[F.out]
 go_wp2_with ((with_reducible show WL _ _);refine aK (by rfl) 30 (.tmp 3) rfl K 0 rfl E _ (aD (k.b 0)) aI rfl (szP9 t) ?_)
 refine((by rw[←y.out];exact bK J pv p c.out:Ka J (aN J p.hole))).mono ?_;rintro e S ⟨rfl,b⟩;replace k:=kL k b;replace n:=O (n.keep0 b);replace f:=O (b.blk f.out id);replace c:=O (c.keep b fun _ _=>id);clear b;rw[N.out];have c1:S.cell? ⟨K,0,none⟩=some (pv):=(by obtain⟨r,e⟩:=G.out;exact aC (i:=0) (k.b 0) (by rw[e];rfl))
 go_wp2_with fail;clear c1;refine(xK n.out f.out pv p.addrs c.rd H.out).mono ?_;rintro e V ⟨rfl,b⟩;replace k:=kL k b;replace n:=O (n.keep0 b);replace f:=O (b.blk f.out id);replace c:=O (c.keep b fun _ _=>id);clear b;go_wp2;go_ret;exact aH.of k.keep
theorem M0(h:bQ w a B D Z Mm nw)(Q:eV w m a)(pv:Value)(p:Pt)(G:PtV w pv p)(q:p.may=true)(P:p.hole=false)(z:∀x∈p.addrs,eF x D Z)(t:p.addrs=⟨(d:Int),(s:Int)⟩::xT)(r:p.sum=dB (Mm d s)) :
 Calls prog 110 #[.pointer m,.agg (aE pv p).toArray] w (gH w (Mm d s)):=by
 have E:d<D/\s<Z:=by
  have:=z _ (by rw[t];exact List.mem_cons_self ..);obtain⟨d',s',Y,h1,h2,h3⟩:=mM this;cases Y
  omega
 have y:=aF (v:=pv) G.sum;obtain⟨oa,ca,F,-,-⟩:=G.rd.form;obtain⟨R,g⟩:=zX9 (aE pv p)
 have X:Hid (∀u∈R,u.oneCell'=true):=O (by rw[←g,F];exact cE p);have C:=O g;rw[g] at y ⊢;have n:=O h;have b:=O Q;have c:=O G;have H:=O q;have V:=O P;have J:=O z;have I:=O t;have K:=O r;have A:=O E;have k:=lN w;clear h Q G g q P z F t r E;go_in
 go_wp2_with refine bxM k (R.toArray) ?_
 intro b3 S f k;replace n:=O (n.keep0 f);replace b:=O (f.blk b.out id);replace c:=O (c.keep f fun _ _=>id);clear f
 go_wp2_with refine ldQ (k.b 0) y ?_
 refine((by rw[←C.out];exact Ky n.out b.out pv p c.out H.out V.out J.out:Ka S (aH S (.int .i64 0)))).mono ?_;rintro e T ⟨rfl,f⟩;replace k:=kL k f;replace n:=O (n.keep0 f);replace b:=O (f.blk b.out id);replace c:=O (c.keep f fun _ _=>id);clear f
 go_wp2_with refine ldQ (k.b 0) y ?_
 have L:=O k.keep.size;refine((by rw[←C.out];exact IN n.out b.out pv p c.out I.out A.1 A.2 K.out:Ka T (EU T (Mm d s)))).mono ?_;rintro e w3 ⟨v0,rfl,M,f⟩;obtain⟨av,cv,rfl,-,-⟩:=(Rd.of_owns M).form;replace k:=kL k f;replace n:=O (n.keep0 f);replace b:=O (f.blk b.out id);replace c:=O (c.keep f fun _ _=>id);clear f;have N:=k.keep.size;have W:=O (bA M L.out);clear M N;go_wp2_with fail;have U:=O k.keep
 go_loopw [30] (fun i wr=>i=.int .i64 0/\wr=w3) (fun _ _=>0)
 case atStart=>exact⟨rfl,rfl⟩
 case round =>
  obtain⟨rfl,rfl⟩:=hrel;clear k n b c;go_wp2
  go_ret2
  exact⟨_,rfl,W.out,U.out⟩
end
end Go.Proofs.YtoeinblfcbpcmaaGreat
