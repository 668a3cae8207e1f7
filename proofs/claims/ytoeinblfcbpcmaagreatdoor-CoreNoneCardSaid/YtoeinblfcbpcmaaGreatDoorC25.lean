import Derived.Test.YtoeinblfcbpcmaaGreatDoorC23
import Derived.Test.YtoeinblfcbpcmaaGreatDoorC24
namespace Go.Proofs.YtoeinblfcbpcmaaGreatDoor
open Tryz
set_option maxHeartbeats 0
set_option maxRecDepth 100000
set_option linter.unusedVariables false
section
open Go.RowKit Go.Maps Go.ChangeMaps
variable{w w0:World}{m a D Z nw d s j:Nat}{B:Nat->Prop}{Mm:Nat->Nat->List UInt8}{rest:List Ad}{o o':Obj}
theorem Nh:prog.underlying 198=some (.struct (prog.fieldsOf 198)):=by kernel_rfl
theorem AJ:(prog.info? 198).map (·.size)=some 2:=by kernel_rfl
theorem Ni(p:Option Addr)(n c:Nat)(w:World):(Instr.build 198 #[(0,.int .i64 0),(1,.slice p n c)]).run prog w=.ok (.agg #[.int .i64 0,.slice p n c]) w:=by kernel_rfl
def Fa(w:World)(b:List UInt8)(e:Ending)(c:World):Prop:=∃v,e=.returned (.agg #[.int .i64 0,v])/\c.ownsRow w.heap.size 5 1 v 256 (b.map vb)/\aA aB w c
theorem Nj(h:bE w a B D Z Mm nw)(hm:eQ w m a)(hd:d<D)(hs:s<Z)(sum:List UInt8)(A:sum=bU (Mm d s)) :
 Calls prog 176 #[.pointer m,.agg (aO ⟨(d:Int),(s:Int)⟩).toArray,.agg (sum.map vb).toArray] w (Fa w (Mm d s)):=by
 have Q:=h.len hd hs;have I:sum.length=32:=by rw[A,dB]
 have G:Hid (∀w,(binOp .neq 31 (.agg ((bU (Mm d s)).map vb).toArray) (.agg (sum.map vb).toArray)).run prog w=.ok (.bool false) w):=O (fun w=>by
  have:=uH (EH (bU (Mm d s)) sum (by rw[dB]) I w);rw[this,decide_eq_true A.symm];rfl)
 obtain⟨L,r⟩:=zX9 (sum.map vb)
 have qa:L.length=32:=by rw[←r,List.length_map,I]
 have qd:Hid (∀u∈L,u.oneCell'=true):=O (by rw[←r];exact bA _);rw[r] at G ⊢;obtain⟨dg,H⟩:=zX9 ((bU (Mm d s)).map vb)
 rw[H] at G;have U:=O H;have t:=O h;have f:=O hm;have P:=O Q;have k:=lN w;have qc:=O (aA.refl aB w);have qf:=Ni;clear h hm Q r H A I;go_in
 go_wp2_with refine bxM k ((aO ⟨(d:Int),(s:Int)⟩).toArray) ?_
 intro R w1 b k;replace t:=O (t.keep0 b);replace f:=O (b.blk f.out id);clear b
 go_wp2_with refine bxM k (L.toArray) ?_
 intro b5 w2 b k;replace t:=O (t.keep0 b);replace f:=O (b.blk f.out id);clear b
 go_wp2_with refine alM k E6 ?_
 intro X w3 b k;replace t:=O (t.keep0 b);replace f:=O (b.blk f.out id);clear b;go_wp2_with fail;refine dwA aB (by kernel_rfl) ?_;intro w4 S n z q p;replace k:=kL k p;replace t:=O (t.keep0 p);replace f:=O (p.blk f.out id);clear p;have x:=k;have T:=t;have F:=f;refine tna 0 (.pointer m) rfl q ?_;refine tnb 1 (.pointer m) rfl q ?_;refine tnb 2 (.pointer m) rfl q ?_;refine tnd 3 (.pointer a) rfl (.inl ⟨by rfl,fun E C=>by have c:World.cell? E ⟨m,0,none⟩=some (.pointer a):=(n E C).cell (eQ.c0 F.out) id;go_simp⟩) q ?_;refine tnb 4 (.pointer R) rfl q ?_;refine tnd 5 (.int .i64 (d:Int)) rfl (.inl ⟨by rfl,fun E C=>by have c:World.cell? E ⟨R,0,none⟩=some (.int .i64 (d:Int)):=(aC (i:=0) ((n E C).blk (x.b 2) id) rfl);go_simp⟩) q ?_;refine tnb 6 (.pointer (some ⟨R,1,none⟩)) rfl q ?_;refine tnd 7 (.int .i64 (s:Int)) rfl (.inl ⟨by rfl,fun E C=>by have c:World.cell? E ⟨R,1,none⟩=some (.int .i64 (s:Int)):=(aC (i:=1) ((n E C).blk (x.b 2) id) rfl);go_simp⟩) q ?_;refine wA9 8 ?_;go_wp2_with fail;have M:=O (k.lt 0).2;have N:=O (k.lt 0).1;refine(QP t.out hd hs).mono ?_;rintro e w5 ⟨v0,rfl,ho,b⟩;have g:=z.out _ ((n _ q).trans b);replace k:=kL k b;replace t:=O (t.keep0 b);replace f:=O (b.blk f.out id);clear q b;obtain⟨K,J,rfl,-,-⟩:=(Rd.of_owns ho).form;have y:=O ho;have W:=O (Nat.le_of_lt (Nat.lt_of_le_of_lt N.out M.out));have qe:X<w4.heap.size:=M.out;clear ho;go_wp2_with fail;refine⟨g,?_⟩;refine tna 9 (.tuple #[.slice K 256 J,.int .i64 0]) rfl g ?_;refine tnb 10 (.slice K 256 J) rfl g ?_;refine tnb 11 (.int .i64 0) rfl g ?_;refine tna 12 (.slice K 256 J) rfl g ?_;refine tna 13 (.int .i64 0) rfl g ?_;refine wpAnyH_done (by kernel_rfl) ?_ _;clear g n z x T F;clear t f;go_wp2_with fail;refine dwA aB (by kernel_rfl) ?_;intro w6 S n z q p;replace k:=kL k p;replace y:=O (p.owns y.out fun _ _=>id);clear p;have x:=k;have V:=y;refine tna 0 (.slice K 256 J) rfl q ?_;refine tnd 2 (.agg L.toArray) rfl (yieldsIf_load_mid (by rfl) 31 (.tmp 5) rfl b5 0 rfl L _ (fun E h=>aD ((n E h).blk (x.b 1) id)) underlying31 rfl (by rw[qa];exact oA)) q ?_;refine wA9 1 ?_;go_wp2_with fail;refine(yX _ (Mm d s) w6 (by rw[P.out];exact Rd.of_owns y.out) (by rw[P.out];decide)).mono ?_;rintro e w7 ⟨rfl,b⟩;have g:=z.out _ ((n _ q).trans b);replace k:=kL k b;replace y:=O (b.owns y.out fun _ _=>id);clear q b;rw[U.out];go_wp2_with fail;refine⟨g,?_⟩;refine tnd 3 (.bool false) rfl (rB (by rfl) 31 (.tmp 39) (.tmp 40) 31 rfl dg.toArray L.toArray rfl rfl O4 G.out) g ?_;refine tna 4 (.bool false) rfl g ?_;refine wpAnyH_done (by kernel_rfl) ?_ _;clear g n z x V
 go_wp2_with ((with_reducible show WL _ _);refine sta 198 (.tmp 6) (.tmp 48) X 0 ([.int .i64 0,.slice K 256 J]) (k.b 0) (by first|decide|(rw[rfl];exact Nat.le_refl _)|simp[]) AJ (by intro v hv;simp only[List.mem_cons,List.not_mem_nil,or_false] at hv;rcases hv with rfl|rfl<;>rfl) ?_)
 intro w8 b Y;rw[aI _ _ (by first|rfl|simp[])] at Y;replace k:=O (k.set 0 b Y);replace y:=O (b.owns y.out fun i hi e=>by have:=bG y.out hi;omega);clear b Y;have HP:Hid (Fa w (Mm d s) (.returned (.agg #[.int .i64 0,.slice K 256 J])) w8):=O ⟨_,rfl,aQ y.out (W.out),k.keep⟩;have HB:=O (k.b 0);clear y k;go_wp2_with fail;refine bodyPost_ret (results_cell_row rfl _ _ X _ _ _ _ rfl HB.out Nh rfl AJ) rfl ?_;exact HP.out
def Bu(b:Ad)(x:Option Addr×Nat):Array Value:=#[.agg (aO b).toArray,.agg #[.int .i64 0,.slice x.1 256 x.2]]
def CpR(b:List UInt8)(x:Option Addr×Nat)(A B:World):Prop:=aA aB A B/\B.ownsRow A.heap.size 5 1 (.slice x.1 256 x.2) 256 (b.map vb)
theorem Gj{R J T:Nat}{Res:Nat->Prop}(h:bE w a B D Z Mm nw)(hm:eQ w m a)(pv:Value)(p:Pt)(hp:PtV w pv p)(Y:p.addrs=⟨(d:Int),(s:Int)⟩::rest)(hd:d<D)(hs:s<Z)(I:p.sum=bU (Mm d s))
 (h4:w.heap[J]?=some (.cells (aL pv p).toArray 33 (0,0))) (h5:w.heap[T]?=some (.cells #[.int .i64 (-1)] 3 (0,0))) (h3:w.heap[R]?=some (.cells #[.pointer m] 68 (0,0))) (H:∀k,Res k->k<w.heap.size/\k≠R/\k≠J/\k≠T) (n:Nat) :
 ∀(l:Nat) (Jx:Option Addr×Nat->World->Prop) (W:World),aA aB w W->(∀x W1,CpR (Mm d s) x W W1->YieldAt Fence.wide (n-1) prog l (Bu ⟨(d:Int),(s:Int)⟩ x) W1 fun e W'=>e=.returned (.bool false)/\Jx x W'/\KpC Res W1 W') ->
  CallsIn Fence.wide n prog 175 (#[.func (.yield l) #[] #[]]++#[.pointer J,.pointer T,.pointer R]) W fun e W'=>(∃v,e=.returned v)/\∃x,Jx x W':=by
 intro l Jx W u hy;obtain⟨oa,ca,rfl,-,-⟩:=hp.rd.form;have qa:=(hp.keep u fun _ _=>id).rd;obtain⟨g,o,qk,hv,L⟩:=fT qa (k:=0) (x:=⟨(d:Int),(s:Int)⟩) (by rw[Y];rfl);obtain rfl:oa=some ⟨g,o,none⟩:=by cases hv;rfl
 rw[Nat.zero_mul,Nat.add_zero] at L;obtain⟨q,hq⟩:=zX9 p.addrs.length
 have ql:0<q:=by rw[←hq,Y];simp
 have qm:(0:Int)<(q:Int):=by omega
 have qc:p.sum.length=32:=hp.sum;rw[hq] at h4;have HX:=O L;have HD:=O hd;have HZ:=O hs;have qh:=O I;have qg:=O qc;have H4:=O (u.blk h4 id);have H5:=O (u.blk h5 id);have H3:=O (u.blk h3 id);have HA:=O (h.keep0 u);have qf:Hid (eQ W m a):=O (u.blk hm id);have HY:=O hy;have HR:=O H;have qi:=O u.size;have c0:W.cell? ⟨J,0,none⟩=some (.slice (some ⟨g,o,none⟩) q ca):=aC (i:=0) H4.out (by rw[List.getElem?_toArray];rfl);clear h hm I qc h4 h5 h3 u hy H qa hv L hp hq;refine callsIn_of_wp func175 rfl trivial ?_ rfl;simp only[ntmps175,List.size_toArray,List.length_cons,List.length_nil,Nat.reduceAdd,Nat.reduceSub,Array.replicate_succ,Array.replicate_zero,List.push_toArray,List.append_toArray,List.nil_append,List.cons_append]
 gi_wp2
 clear c0
 gi_loopw [10] (fun i wr=>i=.int .i64 0/\Hid (aA aB W wr)) (fun _ _=>0)
 case atStart=>exact⟨rfl,O (aA.refl _ _)⟩
 case round =>
  obtain⟨rfl,y⟩:=hrel;obtain⟨C,hC⟩:=zX9 wr.heap.size
  have qd:=y.rangeAt HX.out
  gi_wp2_with (first
   | (refine lF rfl 93 (.tmp 12) rfl g o rfl (aO ⟨(d:Int),(s:Int)⟩) _ qd bY rfl (by rw[bD];exact cK) ?_)
   | (refine lE rfl 93 rfl eN eI #[.int .i64 0,.int .i64 0] rfl ?_)
   | (refine kJ rfl 93 (.tmp 6) (.tmp 13) rfl wr.heap.size 0 (aO ⟨(d:Int),(s:Int)⟩) rfl rfl #[.int .i64 0,.int .i64 0] _ (heap_alloc_new _ _) (by rw[bD];simp) (by rw[bD];exact cK) (bV _) ?_;intro w3 G V
      rw[aI _ _ (by rw[bD];simp)] at G)
   | gi_in)
  have X:aA aB wr w3:=((aA.refl aB wr).alloc _).tT V (fun i hi e=>by omega);have N:=O y.size;replace y:=O (y.trans X);clear V qd X;rw[hC] at G N ⊢;have P:=O (And.intro G (And.intro (y.blk H4.out id) (And.intro (y.blk H5.out id) (y.blk H3.out id))));clear G hC H4 H5 H3;obtain⟨S,K⟩:∃S:World->Prop,S=fun r=>r.heap[C]?=some (.cells (aO ⟨(d:Int),(s:Int)⟩).toArray 93 (0,0))/\r.heap[J]?=some (.cells (aL (.slice (some ⟨g,o,none⟩) q ca) p).toArray 33 (0,0))/\r.heap[T]?=some (.cells #[.int .i64 (-1)] 3 (0,0))/\r.heap[R]?=some (.cells #[.pointer m] 68 (0,0)):=⟨_,rfl⟩
  have b:=O (show ∀r,S r->_ from fun r h=>by rw[K] at h;exact h);have E:=O (show ∀r,_->S r from fun r h=>by rw[K];exact h);have t:S w3.drew:=E.out _ (by have:=P.out;exact this);have M:=(aA.refl aB w3).drew;clear K P;refine zK (S:=S) (by kernel_rfl) ?_;change eG _ _ _ _ _ _ _ _ _ w3.drew;generalize w3.drew=w4 at t M ⊢;replace y:=O (y.trans M);clear M;refine tib 0 (.pointer (some ⟨C,0,none⟩)) rfl t ?_;refine tid 1 (.int .i64 (d:Int)) rfl (.inl ⟨by rfl,fun r A=>by have c:World.cell? r ⟨C,0,none⟩=some (.int .i64 (d:Int)):=aC (i:=0) (b r A).1 rfl;go_simp⟩) t ?_;refine tid 2 (.int .i64 (-1)) rfl (.inl ⟨by rfl,fun r A=>by have c:World.cell? r ⟨T,0,none⟩=some (.int .i64 (-1)):=aC (i:=0) (b r A).2.2.1 rfl;go_simp⟩) t ?_
  refine tid 3 (.bool true) rfl (.inl ⟨by rfl,fun r A=>by
   have e:(d:Int)≠-1:=by omega
   go_simp⟩) t ?_
  refine tia 4 (.bool true) rfl t ?_;refine tia 5 (.func (.yield l) #[] #[]) rfl t ?_;refine tid 6 (.agg (aO ⟨(d:Int),(s:Int)⟩).toArray) rfl (yieldsIf_load_mid (by rfl) 93 (.tmp 6) rfl C 0 rfl (aO ⟨(d:Int),(s:Int)⟩) _ (fun r h=>aD (b r h).1) bY rfl (by rw[bD];exact cK)) t ?_;refine tid 7 (.pointer m) rfl (.inl ⟨by rfl,fun r A=>by have c:World.cell? r ⟨R,0,none⟩=some (.pointer m):=aC (i:=0) (b r A).2.2.2 rfl;go_simp⟩) t ?_;refine tid 8 (.agg (aO ⟨(d:Int),(s:Int)⟩).toArray) rfl (yieldsIf_load_mid (by rfl) 93 (.tmp 6) rfl C 0 rfl (aO ⟨(d:Int),(s:Int)⟩) _ (fun r h=>aD (b r h).1) bY rfl (by rw[bD];exact cK)) t ?_;refine tib 9 (.pointer (some ⟨J,3,none⟩)) rfl t ?_;refine tid 10 (.agg (p.sum.map vb).toArray) rfl (yieldsIf_load_mid (by rfl) 31 (.tmp 23) rfl J 3 rfl (p.sum.map vb) _ (fun r h=>(dD (aD (b r h).2.1)).2.2.2) underlying31 rfl (by rw[List.length_map,qg.out];exact oA)) t ?_;refine E9 (k:=11) (f:=176) (args:=#[.pointer m,.agg (aO ⟨(d:Int),(s:Int)⟩).toArray,.agg (p.sum.map vb).toArray]) rfl (by kernel_rfl) (by kernel_rfl) (by kernel_rfl) (by first|rfl|go_simp) (Nj (HA.keep0 y.out) (y.blk qf.out id) HD.out HZ.out p.sum qh.out) ?_;rintro e w5 ⟨v0,rfl,ho,u⟩;obtain⟨qj,cv,rfl,-,-⟩:=(Rd.of_owns ho).form;have qe:=O (y.trans u);have z:S w5:=E.out _ ⟨u.blk (b _ t).1 id,u.blk (b _ t).2.1 id,u.blk (b _ t).2.2.1 id,u.blk (b _ t).2.2.2 id⟩;have Q:=O (HY (qj,cv) w5 ⟨qe.out,aQ ho y.size⟩);clear ho u t;refine⟨_,rfl,z,nrm ?_⟩;refine DQ (k:=12) (l:=l) rfl (by kernel_rfl) (by kernel_rfl) (by kernel_rfl) (by first|rfl|(unfold Bu;go_simp;done)|(unfold Bu;unfold execOp;simp[Act.put,resolve,invoke,go_sem,Act.eval];done)) Q.out ?_;rintro e w6 ⟨rfl,hj,U⟩;have F:S w6:=E.out _ ⟨U _ _ _ _ (fun e=>by have:=(HR _ e).1;have:=N.out;have:=qi.out;omega) (b _ z).1,U _ _ _ _ (fun e=>(HR _ e).2.2.1 rfl) (b _ z).2.1,U _ _ _ _ (fun e=>(HR _ e).2.2.2 rfl) (b _ z).2.2.1,U _ _ _ _ (fun e=>(HR _ e).2.1 rfl) (b _ z).2.2.2⟩;refine⟨_,rfl,F,nrm ?_⟩;refine tib 13 (.bool true) rfl F ?_;refine tia 14 (.bool true) rfl F ?_;refine E8 (by kernel_rfl) ?_ _;have HJ:=O hj;clear hj U z F b E Q
  gi_wp2
  refine bodyPost_ret (results_none rfl _ _ _) rfl ?_;exact⟨⟨_,rfl⟩,_,HJ.out⟩
def Pi(w:World)(m:Nat)(h:List Value)(e:Ending)(b:World):Prop:=∃c f g,e=.returned (.func (.func 175) #[] #[.pointer (some ⟨f,0,none⟩),.pointer (some ⟨g,0,none⟩),.pointer (some ⟨c,0,none⟩)])/\b.heap[f]?=some (.cells h.toArray 33 (0,0))/\b.heap[g]?=some (.cells #[.int .i64 (-1)] 3 (0,0))/\b.heap[c]?=some (.cells #[.pointer m] 68 (0,0))/\(w.heap.size≤c/\w.heap.size≤f/\w.heap.size≤g)/\aA aB w b
theorem IH(w:World)(m:Nat)(e:List Value)(l:e.length=35)(f:∀u∈e,u.oneCell'=true):Calls prog 123 #[.pointer m,.agg e.toArray,.int .i64 (-1)] w (Pi w m e):=by
 have g:=O f;have b:=lN w;clear f;go_in
 go_wp2_with refine bxM b (#[.pointer m]) ?_
 intro h n c b;clear c
 go_wp2_with refine bxM b (e.toArray) ?_
 intro i p c b;clear c
 go_wp2_with refine bxM b (#[.int .i64 (-1)]) ?_
 intro k q c b;clear c;go_wp2_with fail;go_wp2;go_ret;exact⟨h,i,k,rfl,b.b 1,b.b 0,b.b 2,⟨(b.lt 2).1,(b.lt 1).1,(b.lt 0).1⟩,b.keep⟩
theorem Loc.put{S:Nat->Prop}{l:List (Nat×Array Value×TypeId)}(h:Loc S B w0 w l)(c:w.heap[j]?=some o)(k:o.isCells=false)(q:w0.heap.size≤j):Loc S B w0 (w.putObj j o') l:=by
 have f:=aA.of_grown (grownBy_putObj' w j o');refine⟨h.keep.tT f (fun i p e=>by cases e;omega),h.ge,h.nd,fun x n=>?_,h.ap⟩;have b:=h.at_ x n;refine f.blk b (fun e=>?_);have g:j=x.1:=Option.some.inj e;rw[g,b] at c;cases c
 cases k
theorem AK{base n sz:Nat}{T:TypeId}{v:Value}{b:List Value}(h:w.ownsRow base T sz v n b)(g:w.heap[j]?=some o)(i:o.isCells=false):(w.putObj j o').ownsRow base T sz v n b:=
 (aA.of_grown (grownBy_putObj' w j o')).owns h fun k f e=>by
   cases e
   obtain⟨cur,c⟩:=aH h f;rw[g] at c;cases c
   cases i
theorem Ct{e:Func}{p q r:Tmp}{k l n:TypeId}(h:e.results=#[.cell p k,.cell q l,.cell r n])(tmps:Array Value)(P:Program)(w:World)(a b c:Addr)(x y z:Value)
 (f:tmps.getD p undef=.pointer (some a)) (g:tmps.getD q undef=.pointer (some b)) (i:tmps.getD r undef=.pointer (some c)) (t:(loadVar k a).run P w=.ok x w) (u:(loadVar l b).run P w=.ok y w) (v:(loadVar n c).run P w=.ok z w) :
 (results e tmps).run P w=.ok (.tuple #[x,y,z]) w:=by
 simp only[results,h];simp only[Array.getD_eq_getD_getElem?] at f g i;simp[Sem.run_bind,Result.andThen,asAddr,f,g,i,t,u,v]
structure FdI(w0:World)(b6 b7 b8:Nat)(bs:List UInt8)(W:World):Prop where
 v:∃v,W.heap[b6]?=some (.cells #[v] 22 (0,0))/\W.ownsRow w0.heap.size 5 1 v 256 (bs.map vb)
 n:W.heap[b7]?=some (.cells #[.slice none 0 0] 29 (0,0))
 z:W.heap[b8]?=some (.cells #[.int .i64 0] 37 (0,0))
 k:aA aB w0 W
theorem FdI.put{W:World}{c f g:Nat}{l:List UInt8}(h:FdI w0 c f g l W)(u:W.heap[j]?=some o)(x:o.isCells=false)(C:w0.heap.size≤j):FdI w0 c f g l (W.putObj j o'):=by
 obtain⟨⟨v,n,y⟩,p,q,z⟩:=h;have b:=aA.of_grown (grownBy_putObj' W j o')
 have no:∀{k:Nat}{cs:Array Value}{t:TypeId},W.heap[k]?=some (.cells cs t (0,0))->¬some j=some k:=fun r e=>by
  cases e;rw[u] at r;cases r;cases x
 exact⟨⟨v,b.blk n (no n),AK y u x⟩,b.blk p (no p),b.blk q (no q),z.tT b (fun i A e=>by cases e;omega)⟩
theorem KK(T:Array Value)(p q:Tmp)(a b:Value):((#[p,q].zip #[a,b]).foldl (fun(t:Array Value) (x:Tmp×Value)=>match x with|(p,v)=>t.setIfInBounds p v) T)=(T.setIfInBounds p a).setIfInBounds q b:=by simp
def Fb(w:World)(c:List UInt8)(e:Ending)(b:World):Prop:=∃v,e=.returned (.tuple #[v,.slice none 0 0,.int .i64 0])/\b.ownsRow w.heap.size 5 1 v 256 (c.map vb)/\aA aB w b
theorem II(h:bE w a B D Z Mm nw)(hm:eQ w m a)(pv:Value)(p:Pt)(hp:PtV w pv p)(qv:p.addrs=⟨(d:Int),(s:Int)⟩::rest)(hd:d<D)(hs:s<Z)(qc:p.sum=bU (Mm d s)) :
 Calls prog 128 #[.pointer m,.agg (aL pv p).toArray,.int .i64 (-1)] w (Fb w (Mm d s)):=by
 have qj:=bB (v:=pv) hp.sum;obtain⟨pc,H⟩:=zX9 (aL pv p)
 have qx:Hid (∀u∈pc,u.oneCell'=true):=O (by rw[←H];obtain⟨oa,ca,rfl,-,-⟩:=hp.rd.form;exact dE p);have qn:=O H;rw[H] at qj ⊢;have G:=O h;have g:=O hm;have q:=O hp;have qz:=O qv;have HD:=O hd;have HZ:=O hs;have q0:=O qc;have f:=lN w;clear h hm hp H qv hd hs qc;refine callsIn_wide.1 (callsIn_of_wp_marks (F:=Fence.wide) (n:=3) func128 rfl trivial (wpIn_wide.2 ?_));simp only[ntmps128,List.size_toArray,List.length_cons,List.length_nil,Nat.reduceAdd,Nat.reduceSub,Array.replicate_succ,Array.replicate_zero,List.push_toArray,List.append_toArray,List.nil_append,List.cons_append]
 go_wp2_with refine bxM f (pc.toArray) ?_
 intro b4 w1 b f;replace G:=O (G.keep0 b);replace g:=O (b.blk g.out id);replace q:=O (q.keep b fun _ _=>id);clear b
 go_wp2_with refine alS f Qg ?_
 intro K w2 b f;replace G:=O (G.keep0 b);replace g:=O (b.blk g.out id);replace q:=O (q.keep b fun _ _=>id);clear b
 go_wp2_with refine alS f Qh ?_
 intro L w3 b f;replace G:=O (G.keep0 b);replace g:=O (b.blk g.out id);replace q:=O (q.keep b fun _ _=>id);clear b
 go_wp2_with refine alS f qQ ?_
 intro M w4 b f;replace G:=O (G.keep0 b);replace g:=O (b.blk g.out id);replace q:=O (q.keep b fun _ _=>id);clear b
 go_wp2_with refine alS f Qh ?_
 intro b9 w5 b f;replace G:=O (G.keep0 b);replace g:=O (b.blk g.out id);replace q:=O (q.keep b fun _ _=>id);clear b
 go_wp2_with refine ldQ (f.b 4) qj ?_
 have Y:=f;refine(IH w5 m pc qj qx.out).mono ?_;rintro e w6 ⟨c3,c4,c5,rfl,h4,h5,h3,qt,b⟩;replace f:=kL f b;replace G:=O (G.keep0 b);replace g:=O (b.blk g.out id);replace q:=O (q.keep b fun _ _=>id);clear b;have H4:=O h4;have H5:=O h5;have H3:=O h3;have qw:=O qt;clear h4 h5 h3 qt;go_wp2_with fail;have q9:=qn.out;have q5:=qw.out;have qp:=(Y.lt 3);have qq:=Y.lt 2;have qr:=Y.lt 1;have ql:Hid (w6.heap[c4]?=some (.cells (aL pv p).toArray 33 (0,0))):=O (by rw[qn.out];exact H4.out);have qm:=Gj (Res:=fun k=>k=K\/k=L\/k=M) G.out g.out pv p q.out qz.out HD.out HZ.out q0.out ql.out H5.out H3.out (fun k b=>by have:=(f.lt 1).2;have:=(f.lt 2).2;have:=(f.lt 3).2;rcases b with rfl|rfl|rfl<;>omega) (3-1);have za:K<w6.heap.size:=(f.lt 3).2;have zd:L<w6.heap.size:=(f.lt 2).2;have zf:M<w6.heap.size:=(f.lt 1).2;have zh:b9<w6.heap.size:=(f.lt 0).2;have HW:=O f.keep.size;clear Y q g G H3 H4 ql H5 q5 qp qq qr q9;refine wpIn_wide (n:=3).1 ?_;refine DS rfl (by omega) (gf:=175) rfl trivial (enters_of func175 (by kernel_rfl) rfl) (encs:=Bu ⟨(d:Int),(s:Int)⟩) (R:=CpR (Mm d s)) (fun _ _ _ h=>h.1) qm (fun _=>rfl) (FdI w K L M (Mm d s)) (fun W l o hl hI U X o'=>hI.put U X (by have:=HW.out;omega)) ?round ?stop
 case round =>
  rintro l ⟨px,cx⟩ W W1 b ⟨qu,U⟩ hl;replace f:=O (f.keeps (b.trans qu));have r:=O U;have zi:=b.size;have zb:K<W.heap.size:=by omega
  have ze:L<W.heap.size:=by omega
  have zg:M<W.heap.size:=by omega
  have y:=O (aA.refl aB W1);clear b qu U qm;unfold Bu;dsimp only;rw[KK];simp only[List.setIfInBounds_toArray,List.set_cons_zero,List.set_cons_succ];refine wpIn_seq ?_;refine bS (by kernel_rfl) (fun ⟨_,_,h⟩=>h) ?_
  go_wp2_with refine alA xJ ?_
  intro q3 w7 N Q z
  go_wp2_with ((with_reducible show WL _ _);refine sta 93 (.tmp 10) (.tmp 16) q3 0 (aO ⟨(d:Int),(s:Int)⟩) z (by first|decide|(rw[List.size_toArray,bD];exact Nat.le_refl _)|simp[bD]) (by rw[bD];exact iV) (bV _) ?_)
  intro w8 b A;rw[aI _ _ (by first|rfl|(rw[List.size_toArray,bD];rfl)|simp[bD])] at A;replace b:=tX Q b (fun i P e=>by omega);replace f:=lW f N b A;replace y:=O (y.trans b);replace r:=O (b.owns r.out fun _ _=>id);clear N b A Q z;go_wp2_with fail;refine bS (by kernel_rfl) (fun ⟨_,_,h⟩=>h) ?_
  go_wp2_with refine alA E6 ?_
  intro qe w9 N Q z
  go_wp2_with ((with_reducible show WL _ _);refine sta 198 (.tmp 11) (.tmp 17) qe 0 ([.int .i64 0,.slice px 256 cx]) z (by first|decide|(rw[List.size_toArray,rfl];exact Nat.le_refl _)|simp[]) AJ (by intro v hv;simp only[List.mem_cons,List.not_mem_nil,or_false] at hv;rcases hv with rfl|rfl<;>rfl) ?_)
  intro wa b A;rw[aI _ _ (by first|rfl|(rw[List.size_toArray,rfl];rfl)|simp[])] at A;replace b:=tX Q b (fun i P e=>by omega);replace f:=lW f N b A;replace y:=O (y.trans b);replace r:=O (b.owns r.out fun _ _=>id);clear N b A Q z;go_wp2_with fail;refine⟨cW y.out (fun _ _ _ h=>h.elim),KpC.of y.out (fun _ h=>h.elim),fun o o' qi X=>?_⟩;have q7:w.heap.size≤l:=by have:=HW.out;omega
  replace f:=O (f.put (o':=o') qi X q7);replace r:=O (AK (o':=o') r.out qi X);clear y;generalize World.putObj wa l o'=V at f r ⊢;have qd:=f;have y:Hid (aA (fun k=>k=K\/k=L\/k=M) V V):=O (aA.refl _ _);clear qi X;refine wpIn_block ?_;refine wpIn_seq ?_;refine bS (by kernel_rfl) (fun ⟨_,_,h⟩=>h) ?_;have c1:=cD f 0
  go_wp2_with fail;clear c1;refine wpIn_block ?_;refine wpIn_seq ?_;refine bS (by kernel_rfl) (fun ⟨_,_,h⟩=>h) ?_;go_wp2_with fail;refine wpIn_cond_true rfl ?_;refine wpIn_seq ?_;go_wp2_with fail;obtain⟨S,qa⟩:∃S:World->Prop,S=fun E=>aA (fun k=>k=K\/k=L\/k=M) V.drew E:=⟨_,rfl⟩
  have C:=O (show ∀E,S E->aA (fun k=>k=K\/k=L\/k=M) V.drew E from fun E h=>by rw[qa] at h;exact h);have J:=O (show ∀E,aA (fun k=>k=K\/k=L\/k=M) V.drew E->S E from fun E h=>by rw[qa];exact h);have hS:S V.drew:=by rw[qa];exact aA.refl _ _
  have T:=(aA.refl aB V).drew;clear qa;refine wN (by kernel_rfl) (by kernel_rfl) (fun ⟨_,_,h⟩=>h) (wpAny_of_held (S:=S) _ _ _ _ ?_);change wpAnyH _ _ _ _ _ _ _ _ V.drew;generalize V.drew=wb at C J hS T ⊢;replace f:=kL f T;replace y:=O (y.trans (aA.any T));replace r:=O (T.owns r.out fun _ _=>id);clear T;have x:=f;have q1:=y;have qy:=r;refine tnb 0 (.pointer (some ⟨qe,1,none⟩)) rfl hS ?_;refine tnd 1 (.slice px 256 cx) rfl (.inl ⟨by rfl,fun E qk=>by have c:World.cell? E ⟨qe,1,none⟩=some (.slice px 256 cx):=aC (i:=1) ((C E qk).blk (x.b 0) (fun e=>by rcases e with e|e|e<;>first|exact fH (i:=5) x.nd rfl 0 (by decide) rfl e|exact fH (i:=4) x.nd rfl 0 (by decide) rfl e|exact fH (i:=3) x.nd rfl 0 (by decide) rfl e)) rfl;go_simp⟩) hS ?_;refine tnd 2 (.slice none 0 0) rfl (.inl ⟨by rfl,fun E qk=>by have c:World.cell? E ⟨b9,0,none⟩=some (.slice none 0 0):=aC (i:=0) ((C E qk).blk (x.b 2) (fun e=>by rcases e with e|e|e<;>first|exact fH (i:=5) x.nd rfl 2 (by decide) rfl e|exact fH (i:=4) x.nd rfl 2 (by decide) rfl e|exact fH (i:=3) x.nd rfl 2 (by decide) rfl e)) rfl;go_simp⟩) hS ?_;refine wA9 3 ?_;refine stV (.slice px 256 cx) (f.b 5) ?_;intro wc b A;have qg:=J.out _ ((C _ hS).tT b (fun i P e=>(.inl e)));clear hS;replace f:=O (f.set 5 b A);replace y:=O (y.tT b (fun i _ e=>by first|exact .inl e|exact .inr (.inl e)|exact .inr (.inr e)));replace r:=O (b.owns r.out fun i P e=>by have:=bG r.out P;omega);clear b A;refine wpList_nil ?_;refine⟨qg,?_⟩;refine wA9 4 ?_;refine stV (.slice none 0 0) (f.b 4) ?_;intro wd b A;have qh:=J.out _ ((C _ qg).tT b (fun i P e=>(.inr (.inl e))));clear qg;replace f:=O (f.set 4 b A);replace y:=O (y.tT b (fun i _ e=>by first|exact .inl e|exact .inr (.inl e)|exact .inr (.inr e)));replace r:=O (b.owns r.out fun i P e=>by have:=bG r.out P;omega);clear b A;refine wpList_nil ?_;refine⟨qh,?_⟩;refine wA9 5 ?_;refine stV (.int .i64 0) (f.b 3) ?_;intro we b A;have qo:=J.out _ ((C _ qh).tT b (fun i P e=>(.inr (.inr (e)))));clear qh;replace f:=O (f.set 3 b A);replace y:=O (y.tT b (fun i _ e=>by first|exact .inl e|exact .inr (.inl e)|exact .inr (.inr e)));replace r:=O (b.owns r.out fun i P e=>by have:=bG r.out P;omega);clear b A;refine wpList_nil ?_;refine⟨qo,?_⟩;refine wpAnyH_done (by kernel_rfl) ?_ _;clear qo C J x q1 qy;refine wpIn_ret ?_;have HF:Hid (FdI w K L M (Mm d s) we):=O ⟨⟨_,f.b 5,aQ r.out (by have:=HW.out;omega)⟩,f.b 4,f.b 3,f.keep⟩;refine⟨cW y.out ?_,KpC.of y.out (fun _ h=>h),HF.out⟩;rintro j o U (rfl|rfl|rfl)
  ·rw[qd.b 5] at U;cases U;rfl
  ·rw[qd.b 4] at U;cases U;rfl
  ·rw[qd.b 3] at U;cases U;rfl
 case stop =>
  intro D W q4 hI qf;obtain⟨⟨v,h1,h2⟩,h3,h4,h5⟩:=hI;have hz:w.heap.size≤D:=Nat.le_trans HW.out q4
  have no:∀{k:Nat}{cs:Array Value}{t:TypeId},W.heap[k]?=some (.cells cs t (0,0))->D≠k:=fun hc e=>by
   cases e;rw[qf] at hc;cases hc
  have I:∀{k:Nat}{cs:Array Value}{t:TypeId},W.heap[k]?=some (.cells cs t (0,0))->(W.putObj D (.deferred none)).heap[k]?=some (.cells cs t (0,0)):=fun hc=>(World.putObj_heap_other (by have:=no hc;omega)).trans hc
  obtain⟨av,cv,rfl,-,-⟩:=(Rd.of_owns h2).form;have c6:(W.putObj D (.deferred none)).cell? ⟨K,0,none⟩=some (.slice av 256 cv):=aC (i:=0) (I h1) rfl;have c7:(W.putObj D (.deferred none)).cell? ⟨L,0,none⟩=some (.slice none 0 0):=aC (i:=0) (I h3) rfl;have c8:(W.putObj D (.deferred none)).cell? ⟨M,0,none⟩=some (.int .i64 0):=aC (i:=0) (I h4) rfl;have HP:Hid (Fb w (Mm d s) (.returned (.tuple #[.slice av 256 cv,.slice none 0 0,.int .i64 0])) (W.putObj D (.deferred none))):=O ⟨_,rfl,AK h2 qf rfl,h5.tT (aA.of_grown (grownBy_putObj' W D _)) (fun i P e=>by cases e;omega)⟩;clear h1 h2 h3 h4 h5 no I;show bodyPostM _ _ _ _ _ .ret _ _;refine⟨by simp,.inl ⟨_,_,rfl,run_takeDeferred qf,?_⟩⟩;refine⟨_,Ct rfl _ _ _ ⟨K,0,none⟩ ⟨L,0,none⟩ ⟨M,0,none⟩ (.slice av 256 cv) (.slice none 0 0) (.int .i64 0) rfl rfl rfl (by go_simp) (by go_simp) (by go_simp),HP.out⟩
def mC(w:World)(c:List UInt8)(e:Ending)(b:World):Prop:=∃v,e=.returned (.tuple #[v,.int .i64 0])/\b.ownsRow w.heap.size 5 1 v 256 (c.map vb)/\aA aB w b
theorem KL(h:bE w a B D Z Mm nw)(N:eQ w m a)(q:Value)(p:Pt)(E:PtV w q p)(t:p.may=true)(M:p.hole=false)(A:∀x∈p.addrs,bW x D Z) :
 Calls prog 122 #[.pointer m,.agg (aL q p).toArray] w (aN w (.int .i64 0)):=by
 have y:=bB (v:=q) E.sum;obtain⟨V,U,C,-,-⟩:=E.rd.form;obtain⟨F,g⟩:=zX9 (aL q p)
 have R:Hid (∀u∈F,u.oneCell'=true):=O (by rw[←g,C];exact dE p);have z:=O g;have H:Hid (∃r,F=q::r):=O ⟨_,g.symm⟩;rw[g] at y ⊢;have n:=O h;have f:=O N;have c:=O E;have G:=O t;have P:=O M;have I:=O A;have k:=lN w;have Q:=O (aA.refl aB w);clear h N E g t M A C;go_in
 go_wp2_with refine bxM k (F.toArray) ?_
 intro L S b k;replace n:=O (n.keep0 b);replace f:=O (b.blk f.out id);replace c:=O (c.keep b fun _ _=>id);clear b;go_wp2_with fail;refine(C6 S m a f.out).mono ?_;rintro e J ⟨rfl,b⟩;replace k:=kL k b;replace n:=O (n.keep0 b);replace f:=O (b.blk f.out id);replace c:=O (c.keep b fun _ _=>id);clear b
 go_wp2_with refine ldQ (k.b 0) y ?_
 refine((by rw[←z.out];exact qC J q p c.out:Ka J (rF J p.may))).mono ?_;rintro e K ⟨rfl,b⟩;replace k:=kL k b;replace n:=O (n.keep0 b);replace f:=O (b.blk f.out id);replace c:=O (c.keep b fun _ _=>id);clear b;rw[G.out]
 go_wp2_with ((with_reducible show WL _ _);refine aP (by rfl) 33 (.tmp 3) rfl L 0 rfl F _ (aD (k.b 0)) bJ rfl (szP9 y) ?_)
 refine((by rw[←z.out];exact rE K q p c.out:Ka K (bM K p.hole))).mono ?_;rintro e T ⟨rfl,b⟩;replace k:=kL k b;replace n:=O (n.keep0 b);replace f:=O (b.blk f.out id);replace c:=O (c.keep b fun _ _=>id);clear b;rw[P.out];have c1:T.cell? ⟨L,0,none⟩=some (q):=(by obtain⟨r,e⟩:=H.out;exact aC (i:=0) (k.b 0) (by rw[e];rfl))
 go_wp2_with fail;clear c1;refine(xO n.out f.out q p.addrs c.rd I.out).mono ?_;rintro e W ⟨rfl,b⟩;replace k:=kL k b;replace n:=O (n.keep0 b);replace f:=O (b.blk f.out id);replace c:=O (c.keep b fun _ _=>id);clear b;go_wp2;go_ret;exact aN.of k.keep
theorem Nk(h:bE w a B D Z Mm nw)(R:eQ w m a)(A:Value)(p:Pt)(H:PtV w A p)(q:p.may=true)(Q:p.hole=false)(z:∀x∈p.addrs,bW x D Z)(t:p.addrs=⟨(d:Int),(s:Int)⟩::rest)(r:p.sum=bU (Mm d s)) :
 Calls prog 83 #[.pointer m,.agg (aL A p).toArray] w (mC w (Mm d s)):=by
 have F:d<D/\s<Z:=by
  have:=z _ (by rw[t];exact List.mem_cons_self ..);obtain⟨d',s',he,h1,h2,h3⟩:=nA this;cases he
  omega
 have y:=bB (v:=A) H.sum;obtain⟨oa,ca,G,-,-⟩:=H.rd.form;obtain⟨S,g⟩:=zX9 (aL A p)
 have Y:Hid (∀u∈S,u.oneCell'=true):=O (by rw[←g,G];exact dE p);have E:=O g;rw[g] at y ⊢;have n:=O h;have b:=O R;have c:=O H;have I:=O q;have W:=O Q;have K:=O z;have J:=O t;have L:=O r;have C:=O F;have k:=lN w;clear h R H g q Q z G t r F;go_in
 go_wp2_with refine bxM k (S.toArray) ?_
 intro b3 T f k;replace n:=O (n.keep0 f);replace b:=O (f.blk b.out id);replace c:=O (c.keep f fun _ _=>id);clear f
 go_wp2_with refine ldQ (k.b 0) y ?_
 refine((by rw[←E.out];exact KL n.out b.out A p c.out I.out W.out K.out:Ka T (aN T (.int .i64 0)))).mono ?_;rintro e U ⟨rfl,f⟩;replace k:=kL k f;replace n:=O (n.keep0 f);replace b:=O (f.blk b.out id);replace c:=O (c.keep f fun _ _=>id);clear f
 go_wp2_with refine ldQ (k.b 0) y ?_
 have M:=O k.keep.size;refine((by rw[←E.out];exact II n.out b.out A p c.out J.out C.1 C.2 L.out:Ka U (Fb U (Mm d s)))).mono ?_;rintro e w3 ⟨v0,rfl,N,f⟩;obtain⟨av,cv,rfl,-,-⟩:=(Rd.of_owns N).form;replace k:=kL k f;replace n:=O (n.keep0 f);replace b:=O (f.blk b.out id);replace c:=O (c.keep f fun _ _=>id);clear f;have P:=k.keep.size;have X:=O (aQ N M.out);clear N P;go_wp2_with fail;have V:=O k.keep
 go_loopw [30] (fun i wr=>i=.int .i64 0/\wr=w3) (fun _ _=>0)
 case atStart=>exact⟨rfl,rfl⟩
 case round =>
  obtain⟨rfl,rfl⟩:=hrel;clear k n b c;go_wp2
  go_ret2
  exact⟨_,rfl,X.out,V.out⟩
end
end Go.Proofs.YtoeinblfcbpcmaaGreatDoor
