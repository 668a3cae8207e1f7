import Derived.Test.YtoeinblfcbpcmaaGreatR18
import Derived.Test.YtoeinblfcbpcmaaGreatR19
namespace Go.Proofs.YtoeinblfcbpcmaaGreat
open Tryz
set_option maxHeartbeats 0
set_option maxRecDepth 100000
set_option linter.unusedVariables false
section
open Go.RowKit Go.Maps Go.ChangeMaps
def aH(w:World)(v:Value)(e:Ending)(w':World):Prop:=e=.returned v/\aA aB w w'
variable{w w':World}{v:Value}{k a dv dc D Z nw n d s b G:Nat}{T B:Nat->Prop}{st:Int}{f:Nat->Nat}{F M:Nat->Nat->List UInt8}{P:Program}{ops:Array Oper}{xT:List Oper}{Q:Exit->Act->World->Prop}{t T2:TypeId}{cs:List Value}{e:Ending}{c0 c1:Value×TypeId}
theorem aH.of(k:aA aB w w'):aH w v (.returned v) w':=⟨rfl,k⟩
structure Lw where
 dev:Nat
 at_:Nat
 b:List UInt8
def eX(x:Lw):List Value:=.int .i64 (x.dev:Int)::.int .i64 (x.at_:Int)::x.b.map vb
def dH(l:List Lw):List Value:=l.flatMap eX
def yH(D Z:Nat)(l:List Lw):Prop:=∀x∈l,x.b.length=256/\x.dev<D/\x.at_<Z
theorem lS{x:Lw}(h:x.b.length=256):(eX x).length=258:=by simp[eX,h]
def gM(M:Nat->Nat->List UInt8)(d s:Nat)(b:List UInt8):Nat->Nat->List UInt8:=fun c g=>if c=d/\g=s then b else M c g
def eB:List Lw->Nat->Nat->List UInt8->List UInt8
 | [],_,_,b=>b
 | x::l,d,s,b=>eB l d s (if x.dev=d/\x.at_=s then x.b else b)
theorem pX(x:Lw):∀(l:List Lw) (d s:Nat) (b:List UInt8),eB (l++[x]) d s b=if x.dev=d/\x.at_=s then x.b else eB l d s b
 | [],_,_,_=>rfl
 | y::l,d,s,b=>pX x l d s _
theorem IE{l:List Lw}{x:Lw}(h:l[k]?=some x)(d s:Nat)(b:List UInt8):eB (l.take (k+1)) d s b=if x.dev=d/\x.at_=s then x.b else eB (l.take k) d s b:=by
 rw[List.take_add_one,h];exact pX x _ d s b
def AX(f:Nat->Nat)(Z d:Nat):List Value:=[.slice (some ⟨f d,0,none⟩) Z Z,.bool false,.int .u8 0,.int .i64 0,.int .i64 0]
def iH(f:Nat->Nat)(Z D:Nat):List Value:=(List.range D).flatMap (AX f Z)
def dI(F:Nat->List UInt8)(Z:Nat):List Value:=(List.range Z).flatMap fun s=>(F s).map vb
abbrev fO:TypeId:=96
abbrev gA:TypeId:=100
abbrev WrT:TypeId:=209
abbrev iI:TypeId:=207
structure bU(w:World)(a dv:Nat)(dc:Nat)(lv:Value)(st:Int)(f:Nat->Nat)(F:Nat->Nat->List UInt8)(W:List Lw)(D Z:Nat):Prop where
 top:w.heap[a]?=some (.cells #[.slice (some ⟨dv,0,none⟩) D dc,lv,.int .i64 (-1),.bool false,.int .i64 st] fO (0,0))
 devs:w.ownsRow 0 gA 5 (.slice (some ⟨dv,0,none⟩) D dc) D (iH f Z D)
 firm:∀d,d<D->w.heap[f d]?=some (.cells (dI (F d) Z).toArray iI (0,0))
 inj:∀d e,d<D->e<D->f d=f e->d=e
 loose:w.ownsRow 0 WrT 258 lv W.length (dH W)
 wok:yH D Z W
 fok:∀d s,d<D->s<Z->(F d s).length=256
 bd:2≤D/\D≤8/\8≤Z/\Z≤4096
def dU(a dv:Nat)(lv:Value)(f:Nat->Nat)(D:Nat)(k:Nat):Prop:=k=a\/k=dv\/lv.ownBlock=some k\/∃d,d<D/\k=f d
def bQ(w:World)(a:Nat)(B:Nat->Prop)(D Z:Nat)(M:Nat->Nat->List UInt8)(nw:Nat):Prop:=
 ∃dv dc lv st f F W,bU w a dv dc lv st f F W D Z/\B=dU a dv lv f D/\W.length=nw/\∀d s,d<D->s<Z->M d s=eB W d s (F d s)
theorem bU.keep{lv:Value}{W:List Lw}(h:bU w a dv dc lv st f F W D Z)(k:aA T w w')(c:∀i,T i->¬dU a dv lv f D i):bU w' a dv dc lv st f F W D Z:=
 ⟨k.blk h.top fun t=>c _ t (.inl rfl),k.owns h.devs fun i g t=>c _ t (.inr (.inl (by cases g;rfl))),fun d j=>k.blk (h.firm d j) fun t=>c _ t (.inr (.inr (.inr ⟨d,j,rfl⟩))),h.inj,k.owns h.loose fun i g t=>c _ t (.inr (.inr (.inl g))),h.wok,h.fok,h.bd⟩
theorem bQ.keep(h:bQ w a B D Z M nw)(k:aA T w w')(l:∀i,T i->¬B i):bQ w' a B D Z M nw:=by
 obtain⟨dv,dc,lv,st,f,F,W,c,rfl,g,j⟩:=h;exact⟨dv,dc,lv,st,f,F,W,c.keep k l,rfl,g,j⟩
theorem bQ.keep0(h:bQ w a B D Z M nw)(k:aA aB w w'):bQ w' a B D Z M nw:=h.keep k fun _ h=>h.elim
theorem bQ.lt(h:bQ w a B D Z M nw)(i:B k):k<w.heap.size:=by
 obtain⟨dv,dc,lv,st,f,F,W,c,rfl,l,m⟩:=h;rcases i with rfl|rfl|i|⟨d,j,rfl⟩
 ·exact lt_of_block c.top
 ·obtain⟨cur,g⟩:=aJ c.devs (k:=k) rfl
  exact lt_of_block g
 ·obtain⟨cur,g⟩:=aJ c.loose i
  exact lt_of_block g
 ·exact lt_of_block (c.firm d j)
theorem bQ.bd(h:bQ w a B D Z M nw):2≤D/\D≤8/\8≤Z/\Z≤4096:=by
 obtain⟨dv,dc,lv,st,f,F,W,c,rfl,g,i⟩:=h;exact c.bd
theorem gP{α:Type}{c:α->List Value}:∀{l:List α}(i:∀x∈l,(c x).length=n){k:Nat}{x:α}(g:l[k]?=some x){j:Nat}{v:Value}(h:(c x)[j]?=some v),(l.flatMap c)[k*n+j]?=some v
 | [],_,k,x,g,_,_,_=>by simp at g
 | y::l,i,0,x,g,j,v,h=>by
   simp only[List.getElem?_cons_zero,Option.some.injEq] at g;subst g;rw[List.flatMap_cons,Nat.zero_mul,Nat.zero_add,List.getElem?_append_left (List.getElem?_eq_some_iff.1 h).1];exact h
 | y::l,i,k+1,x,g,j,v,h=>by
   rw[List.getElem?_cons_succ] at g;have m:=i y (List.mem_cons_self ..);rw[List.flatMap_cons,List.getElem?_append_right (by rw[m,Nat.succ_mul];omega),m,show (k+1)*n+j-n=k*n+j by rw[Nat.succ_mul];omega];exact gP (fun z o=>i z (List.mem_cons_of_mem _ o)) g h
theorem pB{α:Type}{c:α->List Value}:∀{l:List α}(g:∀x∈l,(c x).length=n),(l.flatMap c).length=l.length*n
 | [],_=>by simp
 | y::l,g=>by
   rw[List.flatMap_cons,List.length_append,g y (List.mem_cons_self ..),pB fun z h=>g z (List.mem_cons_of_mem _ h),List.length_cons,Nat.succ_mul];omega
theorem PX{l:List Lw}(h:yH D Z l):(dH l).length=l.length*258:=pB fun x c=>lS (h x c).1
theorem jA(h:d<D):(List.range D)[d]?=some d:=by rw[List.getElem?_range h]
theorem bU.dev{lv:Value}{W:List Lw}(h:bU w a dv dc lv st f F W D Z)(q:d<D):w.rangeAt dv (d*5) (AX f Z d):=fun j v i=>by
 obtain⟨u,z,l,r,A,C,E,m⟩:=Rd.of_owns h.devs;have y:=(List.getElem?_eq_some_iff.1 i).1;obtain⟨g,o,rfl,p⟩:=m (by rw[u];omega);cases r
 have:=p (d*5+j) v (gP (c:=AX f Z) (fun x _=>rfl) (jA q) i)
 rwa [Nat.zero_add] at this
theorem bU.sec{lv:Value}{W:List Lw}(h:bU w a dv dc lv st f F W D Z)(g:d<D)(i:s<Z):w.rangeAt (f d) (s*256) ((F d s).map vb):=fun j v l=>by
 have:=gP (c:=fun s=>(F d s).map vb) (n:=256) (fun x m=>by rw[List.length_map];exact h.fok d x g (List.mem_range.1 m)) (jA i) l;exact aC (h.firm d g) (by rw[List.getElem?_toArray];exact this)
theorem bU.wr{lv:Value}{W:List Lw}(h:bU w a dv dc lv st f F W D Z){x:Lw}(m:W[k]?=some x):∃g i,lv=.slice (some ⟨g,0,none⟩) W.length i/\w.rangeAt g (k*258) (eX x):=by
 have z:=(List.getElem?_eq_some_iff.1 m).1;have A:=Rd.of_owns h.loose;rcases h.loose.2 with⟨-,h0⟩|⟨g,i,cur,rfl,-,-,-⟩
 ·omega
 ·refine⟨g,i,rfl,fun j v p=>?_⟩
  have o:=(List.getElem?_eq_some_iff.1 p).1;obtain⟨u,E,H,l,-,-,-,q⟩:=A;cases l
  obtain⟨I,J,l,r⟩:=q (by rw[u];omega);cases l
  have:=r (k*258+j) v (gP (c:=eX) (n:=258) (fun y C=>lS (h.wok y C).1) m p)
  rwa [Nat.zero_add] at this
theorem bU.lv{lv:Value}{W:List Lw}(h:bU w a dv dc lv st f F W D Z):∃p c,lv=.slice p W.length c:=by
 rcases h.loose.2 with⟨rfl,h0⟩|⟨g,c,cur,rfl,-,-,-⟩
 ·exact⟨_,_,by rw[h0]⟩
 ·exact⟨_,_,rfl⟩
def dV:List Value:=List.replicate 256 (.int .u8 0)
def nK:List Value:=.int .i64 0::.int .i64 0::dV
def aX:List Value:=aE (.slice none 0 0) zPt
def xB:List Value:=.int .i64 0::(aX++aX++aX++aX)
def PY:List Value:=[.int .i64 0,.int .i64 0]
theorem MI:Hid (∀w,(zeroValue 207).run prog w=.ok (.agg dV.toArray) w):=O fun w=>by kernel_rfl
theorem qW:dV.length=256:=rfl
theorem BT:Hid (∀w,(zeroValue 209).run prog w=.ok (.agg nK.toArray) w):=O fun w=>by kernel_rfl
theorem sN:nK.length=258:=rfl
theorem aZ:Hid (∀w,(zeroValue 30).run prog w=.ok (.agg aX.toArray) w):=O fun w=>by kernel_rfl
theorem aG:aX.length=35:=rfl
theorem gV:Hid (∀w,(zeroValue 89).run prog w=.ok (.agg xB.toArray) w):=O fun w=>by kernel_rfl
theorem cW:xB.length=141:=rfl
theorem xC:Hid (∀w,(zeroValue 59).run prog w=.ok (.agg PY.toArray) w):=O fun w=>by kernel_rfl
theorem lT:(prog.info? 207).map (·.size)=some 256:=by kernel_rfl
theorem kU:(prog.info? 209).map (·.size)=some 258:=by kernel_rfl
theorem bX:(prog.info? 30).map (·.size)=some 35:=by kernel_rfl
theorem szP9 {l:List Value}(h:l.length=35):(prog.info? 30).map (·.size)=some l.length:=by rw[h];exact bX
theorem ldM{a:Act}{d:Option Tmp}{T:TypeId}{s:String}{f:Array Edge}{x:Operand}(b o:Nat)(cs:List Value){D:TypeDesc}(c:w.rangeAt b o cs)(j:P.underlying T=some D)(i:(P.info? T).map (·.size)=some cs.length)(h:wpList P ops Q xT (a.put d (.agg cs.toArray)) w)(g:D.isRow=true:=by rfl)(l:a.eval x=.pointer (some ⟨b,o,none⟩):=by rfl):wpList P ops Q (⟨d,.load T x,t,s,f,none⟩::xT) a w:=wpList_load_mid rfl T x rfl b o l cs D c j g i h
theorem ldR{a:Act}{d:Option Tmp}{T:TypeId}{s:String}{f:Array Edge}{x:Operand}{D:TypeDesc}(c:w.heap[b]?=some (.cells cs.toArray T2 (0,0)))(j:P.underlying T=some D)(i:(P.info? T).map (·.size)=some cs.length)(h:wpList P ops Q xT (a.put d (.agg cs.toArray)) w)(g:D.isRow=true:=by rfl)(l:a.eval x=.pointer b:=by rfl):wpList P ops Q (⟨d,.load T x,t,s,f,none⟩::xT) a w:=ldM b 0 cs (aD c) j i h g l
theorem ldP{a:Act}{d:Option Tmp}{s:String}{f:Array Edge}{x:Operand}(b o:Nat)(cs:List Value)(c:w.rangeAt b o cs)(g:cs.length=35)(h:wpList prog ops Q xT (a.put d (.agg cs.toArray)) w)(i:a.eval x=.pointer (some ⟨b,o,none⟩):=by rfl):wpList prog ops Q (⟨d,.load 30 x,t,s,f,none⟩::xT) a w:=ldM b o cs c aI (szP9 g) h rfl i
theorem ldQ{a:Act}{d:Option Tmp}{s:String}{f:Array Edge}{x:Operand}(c:w.heap[b]?=some (.cells cs.toArray T2 (0,0)))(g:cs.length=35)(h:wpList prog ops Q xT (a.put d (.agg cs.toArray)) w)(i:a.eval x=.pointer b:=by rfl):wpList prog ops Q (⟨d,.load 30 x,t,s,f,none⟩::xT) a w:=ldP b 0 cs (aD c) g h i
theorem cU:(prog.info? 89).map (·.size)=some 141:=by kernel_rfl
theorem jK:(prog.info? 59).map (·.size)=some 2:=by kernel_rfl
theorem xD:(prog.info? 28).map (·.size)=some 32:=by kernel_rfl
theorem pC:(prog.info? 111).map (·.size)=some 69:=by kernel_rfl
theorem qG:prog.underlying 209=some (.struct (prog.fieldsOf 209)):=by kernel_rfl
theorem N6:Hid (∀w,(zeroValue 3).run prog w=.ok (.int .i64 0) w):=O fun w=>by kernel_rfl
theorem kV:Hid (∀w,(zeroValue 41).run prog w=.ok (.int .i64 0) w):=O fun w=>by kernel_rfl
theorem PZ:Hid (∀w,(zeroValue 68).run prog w=.ok (.slice none 0 0) w):=O fun w=>by kernel_rfl
theorem P0:Hid (∀w,(zeroValue 26).run prog w=.ok (.slice none 0 0) w):=O fun w=>by kernel_rfl
theorem uQ(x:Lw):∀u∈eX x,u.oneCell'=true:=by
 intro u c;unfold eX at c;rcases List.mem_cons.1 c with rfl|c
 ·rfl
 rcases List.mem_cons.1 c with rfl|c
 ·rfl
 exact bR _ u c
variable {w:World}{a dv dc D Z:Nat}{lv:Value}{st:Int}{f:Nat->Nat}{F:Nat->Nat->List UInt8}{W:List Lw}
theorem DP(h:bU w a dv dc lv st f F W D Z):Calls prog 82 #[.pointer a] w (aH w (.bool false)):=by
 have c0:=aC (i:=0) h.top rfl;have c:=h.bd;have g:((D:Int) == 0)=false:=by rw[beq_eq_false_iff_ne];omega
 clear h c;go_in;go_wp2;go_ret;exact aH.of (by first|exact aA.refl _ _|exact HK.out)
theorem kW(w:World)(b:Bool)(e:Int):Calls prog 136 #[.bool b,.int .i64 e] w (aH w (.int .i64 (if b then 0 else e))):=by
 cases b
 all_goals
  go_in;go_wp2;go_ret;exact aH.of (aA.refl _ _)
theorem MJ(h:bU w a dv dc lv st f F W D Z)(d:Int):Calls prog 86 #[.pointer a,.int .i64 d] w (aH w (.bool (decide (0≤d) && decide (d<(D:Int))))):=by
 have c0:=aC (i:=0) h.top rfl;clear h
 by_cases j:0≤d
 ·have c:decide (0≤d)=true:=by simpa using j
  rw[c,Bool.true_and];obtain⟨bb,g⟩:=zX9 (decide (d<(D:Int)))
  rw[g];go_in;go_wp2;go_ret;exact aH.of (aA.refl _ _)
 ·have c:decide (0≤d)=false:=by simpa using j
  rw[c,Bool.false_and];go_in;go_wp2;go_ret;exact aH.of (aA.refl _ _)
theorem QH(h:bU w a dv dc lv st f F W D Z):Calls prog 40 #[.pointer a] w (aH w (.int .i64 (D:Int))):=by
 have l:=O (DP h);have c0:=aC (i:=0) h.top rfl;have g:=O h.top;clear h c0;go_in;go_wp2_with fail;refine l.mono ?_;rintro e m ⟨rfl,c⟩;have j:=O c;have c0:=aC (i:=0) (c.blk g.out id) rfl;clear c;go_wp2;go_ret;exact aH.of (by first|exact aA.refl _ _|exact j.out)
theorem DQ(h:bU w a dv dc lv st f F W D Z):Calls prog 88 #[.pointer a] w (aH w (.int .i64 (Z:Int))):=by
 have l:=O (DP h);have g:=O h;have o:=h.bd;clear h;go_in;go_wp2_with fail;refine l.mono ?_;rintro e m ⟨rfl,c⟩;have j:=O c;have c0:=aC (i:=0) (c.blk g.top id) rfl;have c1:m.cell? ⟨dv,0,none⟩=some (.slice (some ⟨f 0,0,none⟩) Z Z):=c.cell (by have:=g.dev (d:=0) (by omega) 0 _ rfl;simpa using this) id;clear c;go_wp2;go_ret;exact aH.of (by first|exact aA.refl _ _|exact j.out)
theorem DS(h:bU w a dv dc lv st f F W D Z):Calls prog 113 #[.pointer a] w (aH w (.int .i64 0)):=by
 have g:=O (DP h);clear h;go_in;go_wp2_with fail;refine g.mono ?_;rintro e l ⟨rfl,i⟩;go_wp2_with fail;refine(kW l true 1).mono ?_;rintro e m ⟨rfl,c⟩;have j:=O (i.trans c);clear i c g;go_wp2;go_ret;exact aH.of j.out
theorem DT(h:bU w a dv dc lv st f F W D Z):Calls prog 114 #[.pointer a] w (aH w (.int .i64 0)):=by
 have c3:=aC (i:=3) h.top rfl;clear h;go_in;go_wp2_with fail;refine(kW w true 10).mono ?_;rintro e j ⟨rfl,c⟩;have g:=O c;clear c;go_wp2;go_ret;exact aH.of g.out
variable {w:World}{a dv dc D Z:Nat}{lv:Value}{st:Int}{f:Nat->Nat}{F:Nat->Nat->List UInt8}{W:List Lw}
theorem EC(w:World)(x y:Int):(Instr.build 245 #[(0,.int .i64 x),(1,.int .i64 y)]).run prog w=.ok (.agg #[.int .i64 x,.int .i64 y]) w:=by kernel_rfl
def AY(I:Nat->World->Prop)(c:Nat->Int)(dev:Int)(n m:Nat)(e:Ending)(w':World):Prop:=
 (m=n->e=.returned .nilIface)/\(m<n->e=.returned (.iface 245 (.agg #[.int .i64 (c m),.int .i64 dev])))/\I (min n (m+1)) w'
theorem pY(w:World)(dev:Int)(g n m:Nat)(fs:Array Value)(c:Nat->Int)(I:Nat->World->Prop)(hn:n≤100)(hm:m≤n)(X:∀k wr,I k wr->wr.heap[g]?=some (.cells fs 131 (0,0)))
 (K:∀k,k<n->fs[k]?=some (fs.getD k .nilFunc)) (h0:I 0 w) (q:∀k,k<m->c k=0) (J:m<n->c m≠0)
 (Y:∀k,k<n->k≤m->∃G x,(fs.getD k .nilFunc=.func (.func G) #[] x\/fs.getD k .nilFunc=.func (.func G) x #[])/\(∀w,Sem.run prog (callFunc G x) w=.ok (.enter G x) w)/\∀wr,I k wr->Calls prog G x wr fun e w'=>e=.returned (.int .i64 (c k))/\I (k+1) w') :
 Calls prog 112 #[.int .i64 dev,.slice g n n] w (AY I c dev n m):=by
 have V:=O h0;have HF:=O Y;have p:=O q;have H:=O J;clear h0 Y q J;go_in;go_wp2_with fail
 go_loopw [10] (fun i wr=>∃k:Nat,k≤m/\i=.int .i64 k/\Hid (I k wr)) (fun i _=>n-(intOf i).toNat)
 case atStart=>exact⟨0,by omega,rfl,V⟩
 case round =>
  clear V;obtain⟨k,hk,rfl,hR⟩:=hrel
  by_cases l:k<n
  ·obtain⟨G,x,A,j,N⟩:=HF.out k l hk
   rcases A with A|A
   ·skip
    have r:wr.cell? ⟨g,k,none⟩=some (.func (.func G) #[] x):=by have:=aC (X k wr hR.out) (K k l);rwa [A] at this
    have u:(0:Int)≤(k:Int):=by omega
    have y:(k:Int)<(n:Int):=by omega
    clear A;go_wp2_with fail;refine(N wr hR.out).mono ?_;rintro e U ⟨rfl,E⟩;have h:=O E;clear E r j N
    by_cases z:k<m
    ·have q:=p.out k z
     rw[q];clear q;go_wp2
     go_roundw
     case rel=>exact⟨k+1,by omega,by go_num,h⟩
     case measure=>simp[intOf];omega
    ·obtain rfl:m=k:=by omega
     have o:=H.out l;have L:(c m != 0)=true:=by simpa using o
     have C:Hid (AY I c dev n m (.returned (.iface 245 (.agg #[.int .i64 (c m),.int .i64 dev]))) U):=O ⟨fun e=>absurd e (by omega),fun _=>rfl,by rw[Nat.min_eq_right (by omega)];exact h.out⟩;have R:=fun w=>EC w (c m) dev
     clear o u y;go_wp2;go_ret;exact C.out
   ·skip
    have r:wr.cell? ⟨g,k,none⟩=some (.func (.func G) x #[]):=by have:=aC (X k wr hR.out) (K k l);rwa [A] at this
    have u:(0:Int)≤(k:Int):=by omega
    have y:(k:Int)<(n:Int):=by omega
    clear A;go_wp2_with fail;refine(N wr hR.out).mono ?_;rintro e U ⟨rfl,E⟩;have h:=O E;clear E r j N
    by_cases z:k<m
    ·have q:=p.out k z
     rw[q];clear q;go_wp2
     go_roundw
     case rel=>exact⟨k+1,by omega,by go_num,h⟩
     case measure=>simp[intOf];omega
    ·obtain rfl:m=k:=by omega
     have o:=H.out l;have L:(c m != 0)=true:=by simpa using o
     have C:Hid (AY I c dev n m (.returned (.iface 245 (.agg #[.int .i64 (c m),.int .i64 dev]))) U):=O ⟨fun e=>absurd e (by omega),fun _=>rfl,by rw[Nat.min_eq_right (by omega)];exact h.out⟩;have R:=fun w=>EC w (c m) dev
     clear o u y;go_wp2;go_ret;exact C.out
  ·obtain rfl:n=k:=by omega
   have S:m=n:=by omega
   have C:Hid (AY I c dev n m (.returned .nilIface) wr):=O ⟨fun _=>rfl,fun e=>absurd e (by omega),by rw[Nat.min_eq_left (by omega)];exact hR.out⟩;clear S hR;go_wp2;go_ret;exact C.out
variable {w:World}{a dv dc D Z:Nat}{lv:Value}{st:Int}{f:Nat->Nat}{F:Nat->Nat->List UInt8}{W:List Lw}
def nL(d s:Int)(D Z:Nat):Bool:=(decide (0≤d) && decide (d<(D:Int))) && decide (0≤s) && decide (s<(Z:Int))
theorem P1(h:bU w a dv dc lv st f F W D Z)(d s:Int):Calls prog 171 #[.pointer a,.int .i64 d,.int .i64 s] w (aH w (.bool (nL d s D Z))):=by
 have i:=O (MJ h d);have o:=O h;obtain⟨r,g⟩:=zX9 (nL d s D Z)
 obtain⟨b1,l⟩:=zX9 ((decide (0≤d) && decide (d<(D:Int))))
 rw[g];unfold nL at g;rw[l] at i g;clear l h;cases b1
 ·obtain rfl:r=false:=by rw[←g];rfl
  clear g;go_in;go_wp2_with fail;refine i.mono ?_;rintro e x ⟨rfl,c⟩;have j:=O c;have p:=O (DQ (o.keep c fun _ h=>h.elim));clear c i;go_wp2;go_ret;exact aH.of j.out
 ·by_cases u:0≤s
  ·obtain⟨y,q⟩:=zX9 (decide (s<(Z:Int)))
   obtain rfl:r=y:=by rw[←g,←q,decide_eq_true u];rfl
   clear g;go_in;go_wp2_with fail;refine i.mono ?_;rintro e x ⟨rfl,c⟩;have j:=O c;have p:=O (DQ (o.keep c fun _ h=>h.elim));clear c i;go_wp2_with fail;refine p.mono ?_;rintro e z ⟨rfl,m⟩;replace j:=O (j.trans m);clear m;go_wp2;go_ret;exact aH.of j.out
  ·obtain rfl:r=false:=by rw[←g,decide_eq_false u];rfl
   clear g;go_in;go_wp2_with fail;refine i.mono ?_;rintro e x ⟨rfl,c⟩;have j:=O c;have p:=O (DQ (o.keep c fun _ h=>h.elim));clear c i;go_wp2;go_ret;exact aH.of j.out
theorem aup(h:bU w a dv dc lv st f F W D Z)(d:Int):Calls prog 46 #[.pointer a,.int .i64 d] w (aH w (.bool (decide (0≤d) && decide (d<(D:Int))))):=by
 have u:=O (DP h);have y:=O h;clear h;obtain⟨b1,l⟩:=zX9 ((decide (0≤d) && decide (d<(D:Int))))
 have r:=O l;rw[l];clear l;go_in;go_wp2_with fail;refine u.mono ?_;rintro e I ⟨rfl,q⟩;have z:=O q;have g:=y.keep q fun _ h=>h.elim
 have c:=O g;have c3:=aC (i:=3) g.top rfl;clear q u g;go_wp2_with fail;refine(MJ c.out d).mono ?_;rintro e H ⟨rfl,m⟩;rw[r.out];have o:=O (z.trans m);have j:=c.keep m fun _ h=>h.elim
 have p:=O j;have c0:=aC (i:=0) j.top rfl;clear m c3 c j;cases b1
 ·go_wp2
  go_ret;exact aH.of o.out
 ·have x:=r.out
  rw[Bool.and_eq_true,decide_eq_true_eq,decide_eq_true_eq] at x;obtain⟨d,rfl⟩:∃n:Nat,d=(n:Int):=⟨d.toNat,by omega⟩
  have A:d<D:=by omega
  have E:(d:Int)<(D:Int):=by omega
  have C:(0:Int)≤(d:Int):=by omega
  have c1:H.cell? ⟨dv,d*5+1,none⟩=some (.bool false):=p.dev A 1 _ rfl;clear x;go_wp2;go_ret;exact aH.of o.out
def lU(w:World)(G:Nat)(cs:List (Value×TypeId))(e:Ending)(w':World):Prop:=
 ∃g:List Nat,e=.returned (.func (.func G) #[] (g.map fun b=>.pointer (some ⟨b,0,none⟩)).toArray)/\g.length=cs.length/\(∀(i b:Nat) (c:Value×TypeId),g[i]?=some b->cs[i]?=some c->w'.heap[b]?=some (.cells #[c.1] c.2 (0,0)))/\aA aB w w'/\∀b∈g,w.heap.size≤b
theorem xE(w:World)(a:Nat)(d s:Int):Calls prog 115 #[.pointer a,.int .i64 d,.int .i64 s] w (lU w 170 [(Value.pointer a,60),(.int .i64 d,3),(.int .i64 s,3)]):=by
 have g:=lN w;go_in
 go_wp2_with refine bxM g (#[.pointer a]) ?_
 intro m q l g;clear l
 go_wp2_with refine bxM g (#[.int .i64 d]) ?_
 intro o r l g;clear l
 go_wp2_with refine bxM g (#[.int .i64 s]) ?_
 intro p u l g;clear l;go_wp2;go_ret;refine⟨[m,o,p],rfl,rfl,?_,g.keep,?_⟩
 ·intro i b c h j
  match i,h,j with
  | 0,h,j=>cases h;cases j;exact g.b 2
  | 1,h,j=>cases h;cases j;exact g.b 1
  | 2,h,j=>cases h;cases j;exact g.b 0
  | i+3,h,_=>simp at h
 ·intro b h
  simp only[List.mem_cons,List.not_mem_nil,or_false] at h;rcases h with rfl|rfl|rfl
  ·exact(g.lt 2).1
  ·exact(g.lt 1).1
  ·exact(g.lt 0).1
theorem pZ(w:World)(a:Nat)(d:Int):Calls prog 116 #[.pointer a,.int .i64 d] w (lU w 172 [(Value.pointer a,60),(.int .i64 d,3)]):=by
 have h:=lN w;go_in
 go_wp2_with refine bxM h (#[.pointer a]) ?_
 intro m p l h;clear l
 go_wp2_with refine bxM h (#[.int .i64 d]) ?_
 intro o q l h;clear l;go_wp2;go_ret;refine⟨[m,o],rfl,rfl,?_,h.keep,?_⟩
 ·intro i b c g j
  match i,g,j with
  | 0,g,j=>cases g;cases j;exact h.b 1
  | 1,g,j=>cases g;cases j;exact h.b 0
  | i+2,g,_=>simp at g
 ·intro b g
  simp only[List.mem_cons,List.not_mem_nil,or_false] at g;rcases g with rfl|rfl
  ·exact(h.lt 1).1
  ·exact(h.lt 0).1
theorem IF(w:World)(a:Nat)(d:Int):Calls prog 139 #[.pointer a,.int .i64 d] w (lU w 184 [(Value.pointer a,60),(.int .i64 d,3)]):=by
 have h:=lN w;go_in
 go_wp2_with refine bxM h (#[.pointer a]) ?_
 intro m p l h;clear l
 go_wp2_with refine bxM h (#[.int .i64 d]) ?_
 intro o q l h;clear l;go_wp2;go_ret;refine⟨[m,o],rfl,rfl,?_,h.keep,?_⟩
 ·intro i b c g j
  match i,g,j with
  | 0,g,j=>cases g;cases j;exact h.b 1
  | 1,g,j=>cases g;cases j;exact h.b 0
  | i+2,g,_=>simp at g
 ·intro b g
  simp only[List.mem_cons,List.not_mem_nil,or_false] at g;rcases g with rfl|rfl
  ·exact(h.lt 1).1
  ·exact(h.lt 0).1
theorem uS(h:bU w a dv dc lv st f F W D Z)(d s:Int)(q r u:Nat)(j:w.heap[q]?=some (.cells #[.pointer a] 60 (0,0)))(l:w.heap[r]?=some (.cells #[.int .i64 d] 3 (0,0)))(m:w.heap[u]?=some (.cells #[.int .i64 s] 3 (0,0))):Calls prog 170 #[.pointer q,.pointer r,.pointer u] w (aH w (.int .i64 (if nL d s D Z then 0 else 5))):=by
 have o:=O (P1 h d s);have y:=aC (i:=0) j rfl;have z:=aC (i:=0) l rfl;have A:=aC (i:=0) m rfl;obtain⟨bb,c⟩:=zX9 (nL d s D Z)
 rw[c] at o ⊢;clear h j l m c;cases bb
 all_goals
  go_in;go_wp2_with fail;refine o.mono ?_;rintro e C ⟨rfl,p⟩;go_wp2_with fail;refine(kW C _ 5).mono ?_;rintro e E ⟨rfl,g⟩;have x:=O (p.trans g);clear p g o y z A;go_wp2;go_ret;exact aH.of x.out
theorem Gc(h:bU w a dv dc lv st f F W D Z)(d:Int)(p q:Nat)(j:w.heap[p]?=some (.cells #[.pointer a] 60 (0,0)))(l:w.heap[q]?=some (.cells #[.int .i64 d] 3 (0,0))):Calls prog 184 #[.pointer p,.pointer q] w (aH w (.int .i64 (if (decide (0≤d) && decide (d<(D:Int))) then 0 else 5))):=by
 have m:=O (MJ h d);have u:=aC (i:=0) j rfl;have x:=aC (i:=0) l rfl;obtain⟨bb,c⟩:=zX9 ((decide (0≤d) && decide (d<(D:Int))))
 rw[c] at m ⊢;clear h j l c;cases bb
 all_goals
  go_in;go_wp2_with fail;refine m.mono ?_;rintro e y ⟨rfl,o⟩;go_wp2_with fail;refine(kW y _ 5).mono ?_;rintro e z ⟨rfl,g⟩;have r:=O (o.trans g);clear o g m u x;go_wp2;go_ret;exact aH.of r.out
theorem sO(h:bU w a dv dc lv st f F W D Z)(R:d<D)(L N:Nat)(I:w.heap[L]?=some (.cells #[.pointer a] 60 (0,0)))(J:w.heap[N]?=some (.cells #[.int .i64 d] 3 (0,0))):Calls prog 172 #[.pointer L,.pointer N] w (aH w (.int .i64 0)):=by
 have y:=lN w;have m:=O I;have o:=O J;have z:=O h.top;have C:=O (h.dev R);clear I J h;have V:(d:Int)<(D:Int):=by omega
 have U:(0:Int)≤(d:Int):=by omega
 go_in;go_wp2_with fail;refine dwA aB (by kernel_rfl) ?_;intro X S j H p l;replace y:=kL y l;replace m:=O (l.blk m.out id);replace o:=O (l.blk o.out id);replace z:=O (l.blk z.out id);replace C:=O (l.rangeAt C.out);clear l;have K:=y;have q:=m;have r:=o;have A:=z;have E:=C;refine tnd 0 (.pointer a) rfl (.inl ⟨by rfl,fun w' g=>by have c:=(j w' g).cell (aC (i:=0) q.out rfl) id;go_simp⟩) p ?_;refine tnb 1 (.pointer a) rfl p ?_;refine tnb 2 (.pointer a) rfl p ?_;refine tnd 3 (.slice dv D dc) rfl (.inl ⟨by rfl,fun w' g=>by have c:=(j w' g).cell (aC (i:=0) A.out rfl) id;go_simp⟩) p ?_;refine tnd 4 (.int .i64 (d:Int)) rfl (.inl ⟨by rfl,fun w' g=>by have c:=(j w' g).cell (aC (i:=0) r.out rfl) id;go_simp⟩) p ?_;refine tnb 5 (.pointer (some ⟨dv,d*5,none⟩)) rfl p ?_;refine tnb 6 (.pointer (some ⟨dv,d*5+1,none⟩)) rfl p ?_;refine tnd 7 (.bool false) rfl (.inl ⟨by rfl,fun w' g=>by have c:=(j w' g).cell (show World.cell? _ ⟨dv,d*5+1,none⟩=some (.bool false) from E.out 1 _ rfl) id;go_simp⟩) p ?_;refine tnb 8 (.bool true) rfl p ?_;refine wA9 9 ?_;go_wp2_with fail;refine(kW X true 14).mono ?_;rintro e Y ⟨rfl,x⟩;have u:=H.out _ ((j _ p).trans x);replace y:=kL y x;replace m:=O (x.blk m.out id);replace o:=O (x.blk o.out id);replace z:=O (x.blk z.out id);replace C:=O (x.rangeAt C.out);clear p x;go_wp2_with fail;refine⟨u,?_⟩;refine tna 10 (.int .i64 0) rfl u ?_;refine wpAnyH_done (by kernel_rfl) ?_ _;clear u j H K q r A E;go_wp2;go_ret;exact aH.of y.keep
theorem Kr(w:World)(p n c:Nat)(q:Option Addr)(l:w.heap[p]?=some (.cells #[.slice q n c] 68 (0,0))):Calls prog 135 #[.pointer p] w (aH w (.int .i64 (if n=256 then 0 else 2))):=by
 have r:=aC (i:=0) l rfl;obtain⟨bb,g⟩:=zX9 (decide (n=256))
 have o:((n:Int) == 256)=bb:=by rw[←g,Bool.eq_iff_iff,beq_iff_eq,decide_eq_true_eq];omega
 have j:(if n=256 then (0:Int) else 2)=if bb then 0 else 2:=by rw[←g];simp
 rw[j];clear l g j;cases bb
 all_goals
  go_in;go_wp2_with fail;refine(kW w _ 2).mono ?_;rintro e u ⟨rfl,h⟩;have m:=O h;clear h r o;go_wp2;go_ret;exact aH.of m.out
theorem Ks(h:bU w a dv dc lv st f F W D Z)(L:d<D)(J K:Nat)(x:w.heap[J]?=some (.cells #[.pointer a] 60 (0,0)))(y:w.heap[K]?=some (.cells #[.int .i64 d] 3 (0,0))):Calls prog 117 #[.pointer J,.pointer K] w (aH w (.int .i64 0)):=by
 have A:=lN w;have q:=O x;have r:=O y;have C:=O h.top;have z:=O (h.dev L);clear x y h;have R:(d:Int)<(D:Int):=by omega
 have N:(0:Int)≤(d:Int):=by omega
 go_in;go_wp2_with fail;refine dwA aB (by kernel_rfl) ?_;intro U S l I p g;replace A:=kL A g;replace q:=O (g.blk q.out id);replace r:=O (g.blk r.out id);replace C:=O (g.blk C.out id);replace z:=O (g.rangeAt z.out);clear g;have H:=A;have m:=q;have o:=r;have u:=C;have E:=z;refine tnd 0 (.pointer a) rfl (.inl ⟨by rfl,fun w' j=>by have c:=(l w' j).cell (aC (i:=0) m.out rfl) id;go_simp⟩) p ?_;refine tnb 1 (.pointer a) rfl p ?_;refine tnb 2 (.pointer a) rfl p ?_;refine tnd 3 (.slice dv D dc) rfl (.inl ⟨by rfl,fun w' j=>by have c:=(l w' j).cell (aC (i:=0) u.out rfl) id;go_simp⟩) p ?_;refine tnd 4 (.int .i64 (d:Int)) rfl (.inl ⟨by rfl,fun w' j=>by have c:=(l w' j).cell (aC (i:=0) o.out rfl) id;go_simp⟩) p ?_;refine tnb 5 (.pointer (some ⟨dv,d*5,none⟩)) rfl p ?_;refine tna 6 (.pointer (some ⟨dv,d*5,none⟩)) rfl p ?_;refine wpAnyH_done (by kernel_rfl) ?_ _;clear p l I H m o u E;have c4:U.cell? ⟨dv,d*5+4,none⟩=some (.int .i64 0):=z.out 4 _ rfl;go_wp2;go_ret;exact aH.of A.keep
variable {w:World}{a dv dc D Z:Nat}{lv:Value}{st:Int}{f:Nat->Nat}{F:Nat->Nat->List UInt8}{W:List Lw}
theorem ED{x:Lw}(h:w.heap[b]?=some (.cells (eX x).toArray WrT (0,0))):w.rangeAt b 2 (x.b.map vb):=fun j v c=>by
 have:=aD h (2+j) v (by unfold eX;rw[Nat.add_comm 2 j];exact c)
 rwa [Nat.zero_add] at this
theorem uT:∀{l:List Lw}{b:List UInt8},yH D Z l->b.length=256->(eB l d s b).length=256
 | [],b,_,c=>c
 | y::l,b,g,c=>by
   refine uT (l:=l) (fun z h=>g z (List.mem_cons_of_mem _ h)) ?_;split
   ·exact(g y (List.mem_cons_self ..)).1
   ·exact c
def MK(w:World)(b:List UInt8)(e:Ending)(w':World):Prop:=∃v,e=.returned v/\w'.ownsRow w.heap.size 5 1 v 256 (b.map vb)/\aA aB w w'
theorem CH(h:bU w a dv dc lv st f F W D Z)(hd:d<D)(hs:s<Z):Calls prog 119 #[.pointer a,.int .i64 (d:Int),.int .i64 (s:Int)] w (MK w (eB W d s (F d s))):=by
 obtain⟨p,qi,rfl⟩:=h.lv;have q:=lN w;have HH:=O h;have L:=O h.top;have HD:=O (h.dev hd);have V:=O (h.sec hd hs);have qc:W.length≤maxLen:=by obtain⟨_,a',c',h1,h2,h3,-⟩:=Rd.of_owns h.loose;omega
 unfold maxLen at qc;have qt:(d:Int)<(D:Int):=by omega
 have qr:(0:Int)≤(d:Int):=by omega
 have qw:(s:Int)<(Z:Int):=by omega
 have qv:(0:Int)≤(s:Int):=by omega
 have qo:=O h.bd;have C:=O (h.fok d s hd hs);obtain⟨b0,l⟩:=zX9 ((F d s).map vb)
 have qd:=O l;have E:b0.length=256:=by rw[←l,List.length_map];exact C.out
 have HO:Hid (∀u∈b0,u.oneCell'=true):=O (by rw[←l];exact bR _);rw[l] at V;obtain⟨n,hn⟩:=zX9 W.length
 have HN:=O hn;rw[hn] at qc L;clear h l hd hs hn;go_in;have c1:w.cell? ⟨a,0,none⟩=some (.slice dv D dc):=(aC (i:=0) L.out rfl)
 have c2:w.cell? ⟨dv,d*5,none⟩=some (.slice (some ⟨f d,0,none⟩) Z Z):=(HD 0 _ rfl)
 go_wp2_with (first
  | refine ldM (f d) (s*256) b0 V.out underlying207 (by rw[E];exact lT) ?_
  | refine alA MI ?_)
 clear c1 c2;intro b7 w1 c r j
 go_wp2_with ((with_reducible show WL _ _);refine stW j E qW (by rw[E];exact lT) HO.out ?_)
 intro w2 o A;replace o:=tX r o (fun i hi e=>by omega);replace q:=lW q c o A;replace L:=O (o.blk L.out id);replace HD:=O (o.rangeAt HD.out);replace V:=O (o.rangeAt V.out);clear c o A r j;have c1:w2.cell? ⟨a,1,none⟩=some (.slice p n qi):=(aC (i:=1) L.out rfl)
 go_wp2_with fail;clear c1
 go_loopw [26] (fun i wr=>∃k:Nat,k≤n/\i=.int .i64 k/\Hid (Loc aB aB w wr [(b7,((eB (W.take k) d s (F d s)).map vb).toArray,iI)])) (fun i _=>n-(intOf i).toNat)
 case atStart=>exact⟨0,by omega,rfl,by rw[List.take_zero];show Hid (Loc _ _ _ _ [(_,((F d s).map vb).toArray,_)]);rw[qd.out];exact q⟩
 case round =>
  clear q V L HD;obtain⟨k,o,rfl,hR⟩:=hrel
  by_cases ql:k<n
  ·obtain⟨x,hx⟩:∃x,W[k]?=some x:=⟨W[k]'(by rw[HN.out];exact ql),List.getElem?_eq_getElem _⟩
   have J:=HH.wok x (List.mem_of_getElem? hx);obtain⟨g,X,hv,Y⟩:=HH.wr hx;cases hv
   have HX:=O (hR.out.keep.rangeAt Y);have qp:=O hx;have q:=hR;have H:=lS J.1;have K:(x.b.map vb).length=256:=by rw[List.length_map];exact J.1
   obtain⟨bk,m⟩:=zX9 ((eB (W.take k) d s (F d s)).map vb)
   have R:=O m;have qk:bk.length=256:=by rw[←m,List.length_map];exact uT (fun y hy=>HH.wok y (List.mem_of_mem_take hy)) C.out
   have HO:Hid (∀u∈bk,u.oneCell'=true):=O (by rw[←m];exact bR _);rw[m] at q;have r:(0:Int)≤(k:Int):=by omega
   have qu:(k:Int)<(n:Int):=by omega
   have HT:=O (IE hx d s (F d s));clear hR m Y hx J
   go_wp2_with (first
    | refine ldM g (k*258) (eX x) HX.out qG (by rw[H];exact kU) ?_
    | refine alA BT ?_)
   intro b9 w3 c r j
   go_wp2_with ((with_reducible show WL _ _);refine stW j H sN (by rw[H];exact kU) (uQ x) ?_)
   intro w4 o A;replace o:=tX r o (fun i hi e=>by omega);replace q:=lW q c o A;replace HX:=O (o.rangeAt HX.out);clear c o A r j;have N:=O (q.b 0);have c1:w4.cell? ⟨b9,0,none⟩=some (.int .i64 (x.dev:Int)):=aC (i:=0) N.out (by rw[List.getElem?_toArray];rfl);have c2:w4.cell? ⟨b9,1,none⟩=some (.int .i64 (x.at_:Int)):=aC (i:=1) N.out (by rw[List.getElem?_toArray];rfl);have z:=O (ED N.out)
   by_cases h1:x.dev=d
   ·have e1:((x.dev:Int) == (d:Int))=true:=by rw[beq_iff_eq];omega
    by_cases h2:x.at_=s
    ·have e2:((x.at_:Int) == (s:Int))=true:=by rw[beq_iff_eq];omega
     clear N
     go_wp2_with (first
      | refine ldM b9 2 (x.b.map vb) z.out underlying207 (by rw[K];exact lT) ?_
      | refine stW (q.b 1) K qk (by rw[K];exact lT) (bR _) ?_)
     intro w5 o A;replace q:=O (q.set 1 o A);clear o A;clear c1 c2 z;go_wp2
     go_roundw
     case rel=>exact⟨k+1,by omega,by go_num,by rw[HT.out,if_pos ⟨h1,h2⟩];exact O q.tail⟩
     case measure=>simp[intOf];omega
    ·have e2:((x.at_:Int) == (s:Int))=false:=by rw[beq_eq_false_iff_ne];omega
     clear N z;go_wp2
     go_roundw
     case rel=>exact⟨k+1,by omega,by go_num,by rw[HT.out,if_neg (fun e=>h2 e.2),R.out];exact O q.tail⟩
     case measure=>simp[intOf];omega
   ·have e1:((x.dev:Int) == (d:Int))=false:=by rw[beq_eq_false_iff_ne];omega
    clear N z;go_wp2
    go_roundw
    case rel=>exact⟨k+1,by omega,by go_num,by rw[HT.out,if_neg (fun e=>h1 e.1),R.out];exact O q.tail⟩
    case measure=>simp[intOf];omega
  ·obtain rfl:n=k:=by omega
   rw[List.take_of_length_le (by rw[HN.out];exact Nat.le_refl _)] at hR;have qa:=hR.out.b 0;have hl:=uT (d:=d) (s:=s) HH.wok C.out;have U:Hid (Rd wr 1 (.slice b7 256 256) 256 ((eB W d s (F d s)).map vb)):=O (dX (n:=256) (size:=1) qa (by rw[List.length_map,hl]) (by unfold maxLen;omega));have S:=O hR.out.keep;obtain⟨bs,c⟩:=zX9 ((eB W d s (F d s)).map vb)
   have qq:bs.length=256:=by rw[←c,List.length_map,hl]
   have qg:Hid (∀u∈bs,u.oneCell'=true):=O (by rw[←c];exact bR _);rw[c] at U;have qe:=O c;clear hR qa hl c
   go_wp2_with (at_builtin;refine aM rfl (.const (.slice none 0 0)) (.tmp 43) 68 rfl wr.heap.size 5 (.int .u8 0) 1 1 underlying68 gJ rfl (by omega) (.slice none 0 0) 0 [] rfl (World.ownsRow_nil _ _ _ _) (.slice b7 256 256) 256 bs rfl U.out qg.out (by unfold maxLen;omega) (by omega) (Nat.le_refl _) ?_)
   intro v2 w3 I qb qm qj;have qf:=O (S.trans (qb.mono (T:=aB) fun k _ e=>by cases e));obtain⟨g',X,rfl⟩:=ownsRow_succ I;have qh:=O I;have qn:=S.size;clear I qb qm qj;go_wp2;go_ret;exact⟨_,rfl,by rw[qe.out];exact bA qh.out qn,qf.out⟩
variable {w:World}{a dv dc D Z:Nat}{lv:Value}{st:Int}{f:Nat->Nat}{F:Nat->Nat->List UInt8}{W:List Lw}
theorem lU.three{c2:Value×TypeId}(h:lU w G [c0,c1,c2] e w'):∃c g i,e=.returned (.func (.func G) #[] #[.pointer (some ⟨c,0,none⟩),.pointer (some ⟨g,0,none⟩),.pointer (some ⟨i,0,none⟩)]) /\
 w'.heap[c]?=some (.cells #[c0.1] c0.2 (0,0))/\w'.heap[g]?=some (.cells #[c1.1] c1.2 (0,0))/\w'.heap[i]?=some (.cells #[c2.1] c2.2 (0,0))/\aA aB w w':=by
 obtain⟨l,rfl,o,j,m,-⟩:=h
 match l,o with
 | [c,g,i],_=>exact⟨c,g,i,rfl,j 0 _ _ rfl rfl,j 1 _ _ rfl rfl,j 2 _ _ rfl rfl,m⟩
theorem lU.two(h:lU w G [c0,c1] e w'):∃c g,e=.returned (.func (.func G) #[] #[.pointer (some ⟨c,0,none⟩),.pointer (some ⟨g,0,none⟩)]) /\
 w'.heap[c]?=some (.cells #[c0.1] c0.2 (0,0))/\w'.heap[g]?=some (.cells #[c1.1] c1.2 (0,0))/\aA aB w w':=by
 obtain⟨j,rfl,m,i,l,-⟩:=h
 match j,m with
 | [c,g],_=>exact⟨c,g,rfl,i 0 _ _ rfl rfl,i 1 _ _ rfl rfl,l⟩
theorem ckc{W:World}{x:Array Value}{c:Int}(j:v=.func (.func G) #[] x\/v=.func (.func G) x #[])(i:∀w,Sem.run prog (callFunc G x) w=.ok (.enter G x) w)(g:∀wr,aA aB W wr->Calls prog G x wr (aH wr (.int .i64 c))) :
 ∃G x,(v=.func (.func G) #[] x\/v=.func (.func G) x #[])/\(∀w,Sem.run prog (callFunc G x) w=.ok (.enter G x) w)/\∀wr,aA aB W wr->Calls prog G x wr fun e w'=>e=.returned (.int .i64 c)/\aA aB W w':=
 ⟨G,x,j,i,fun wr k=>(g wr k).mono fun e w' h=>⟨h.1,k.trans h.2⟩⟩
theorem rkb{F:Nat}{x:Array Value}{p q:Bool}(e:p=q)(h:Calls prog F x w (aH w (.bool p))):Calls prog F x w (aH w (.bool q)):=e▸h
theorem rki{F:Nat}{x:Array Value}{p q:Int}(e:p=q)(h:Calls prog F x w (aH w (.int .i64 p))):Calls prog F x w (aH w (.int .i64 q)):=e▸h
def uU(w:World)(b:List UInt8)(y:Value)(e:Ending)(w':World):Prop:=∃v,e=.returned (.tuple #[v,y])/\w'.ownsRow w.heap.size 5 1 v 256 (b.map vb)/\aA aB w w'
theorem ML(h:bU w a dv dc lv st f F W D Z)(p:d<D)(r:s<Z):Calls prog 197 #[.pointer a,.int .i64 (d:Int),.int .i64 (s:Int)] w (uU w (eB W d s (F d s)) (.bool true)):=by
 have g:=lN w;have i:=O h;have m:(decide (0≤(d:Int)) && decide ((d:Int)<(D:Int)))=true:=by rw[Bool.and_eq_true,decide_eq_true_eq,decide_eq_true_eq];omega
 have j:nL d s D Z=true:=by unfold nL;rw[m,Bool.true_and,Bool.and_eq_true,decide_eq_true_eq,decide_eq_true_eq];omega
 have m:=O m;have j:=O j;clear h;go_in;go_wp2_with fail;refine(rkb m.out (aup i.out (d:Int))).mono ?_;rintro e u ⟨rfl,c⟩;replace g:=kL g c;replace i:=O (i.keep c fun _ h=>h.elim);clear c;go_wp2_with fail;refine(rkb j.out (P1 i.out (d:Int) (s:Int))).mono ?_;rintro e x ⟨rfl,c⟩;replace g:=kL g c;replace i:=O (i.keep c fun _ h=>h.elim);clear c;go_wp2_with fail;have l:=O g.keep.size;refine(CH i.out p r).mono ?_;rintro e y ⟨v,rfl,q,c⟩;replace g:=kL g c;go_wp2_with fail;have o:=l.out;clear l
 go_ret2
 exact⟨_,rfl,bA q (o),g.keep⟩
theorem OK(h:bU w a dv dc lv st f F W D Z)(hd:d<D)(hs:s<Z):Calls prog 83 #[.pointer a,.int .i64 (d:Int),.int .i64 (s:Int)] w (uU w (eB W d s (F d s)) (.int .i64 0)):=by
 have I:nL d s D Z=true:=by unfold nL;simp only[Bool.and_eq_true,decide_eq_true_eq];omega
 replace I:=O I;have m:=lN w;have o:=O h;clear h;go_in
 go_wp2_with refine bxM m (#[.pointer a]) ?_
 intro V w1 g m;replace o:=O (o.keep g fun _ h=>h.elim);clear g
 go_wp2_with refine bxM m (#[.int .i64 (d:Int)]) ?_
 intro X w2 g m;replace o:=O (o.keep g fun _ h=>h.elim);clear g;go_wp2_with fail;refine dwA aB (by kernel_rfl) ?_;intro w3 S l C A R;replace m:=kL m R;replace o:=O (o.keep R fun _ h=>h.elim);clear R;have z:=m;have qc:=o;refine tnd 0 (.int .i64 (d:Int)) rfl (.inl ⟨by rfl,fun w' j=>by have c:=aC (i:=0) ((l w' j).blk (z.b 0) id) rfl;go_simp⟩) A ?_;refine tnd 1 (.pointer a) rfl (.inl ⟨by rfl,fun w' j=>by have c:=aC (i:=0) ((l w' j).blk (z.b 1) id) rfl;go_simp⟩) A ?_;refine tnb 2 (.func (.func 113) #[.pointer a] #[]) rfl A ?_;refine tnd 3 (.pointer a) rfl (.inl ⟨by rfl,fun w' j=>by have c:=aC (i:=0) ((l w' j).blk (z.b 1) id) rfl;go_simp⟩) A ?_;refine tnb 4 (.func (.func 114) #[.pointer a] #[]) rfl A ?_;refine tnd 5 (.pointer a) rfl (.inl ⟨by rfl,fun w' j=>by have c:=aC (i:=0) ((l w' j).blk (z.b 1) id) rfl;go_simp⟩) A ?_;refine tnd 6 (.int .i64 (d:Int)) rfl (.inl ⟨by rfl,fun w' j=>by have c:=aC (i:=0) ((l w' j).blk (z.b 0) id) rfl;go_simp⟩) A ?_;refine tna 7 (.int .i64 (s:Int)) rfl A ?_;refine tnd 9 (.pointer a) rfl (.inl ⟨by rfl,fun w' j=>by have c:=aC (i:=0) ((l w' j).blk (z.b 1) id) rfl;go_simp⟩) A ?_;refine tnd 10 (.int .i64 (d:Int)) rfl (.inl ⟨by rfl,fun w' j=>by have c:=aC (i:=0) ((l w' j).blk (z.b 0) id) rfl;go_simp⟩) A ?_;refine tnb 12 (.func (.func 117) #[] #[.pointer V,.pointer X]) rfl A ?_;refine wA9 8 ?_;go_wp2_with fail;refine(xE w3 a (d:Int) (s:Int)).mono ?_;rintro e w4 hp;obtain⟨p0,p1,p2,rfl,p,q,r,g⟩:=hp.three;have J:=C.out _ ((l _ A).trans g);replace m:=kL m g;replace o:=O (o.keep g fun _ h=>h.elim);clear A g;replace p:=O p;replace q:=O q;replace r:=O r;go_wp2_with fail;refine⟨J,?_⟩;refine wA9 11 ?_;go_wp2_with fail;refine(pZ w4 a (d:Int)).mono ?_;rintro e w5 hp;obtain⟨q0,q1,rfl,u,y,g⟩:=hp.two;have K:=C.out _ ((l _ J).trans g);replace m:=kL m g;replace o:=O (o.keep g fun _ h=>h.elim);replace p:=O (g.blk p.out id);replace q:=O (g.blk q.out id);replace r:=O (g.blk r.out id);clear J g;replace u:=O u;replace y:=O y;go_wp2_with fail;refine⟨K,?_⟩;refine wA9 13 ?_;obtain⟨w6,U,g,hb,-⟩:=aP w5 #[.func (.func 113) #[.pointer a] #[],.func (.func 114) #[.pointer a] #[],.func (.func 170) #[] #[.pointer p0,.pointer p1,.pointer p2],.func (.func 172) #[] #[.pointer q0,.pointer q1],.func (.func 117) #[] #[.pointer V,.pointer X]] 131;obtain⟨qd,H⟩:=zX9 w5.heap.size
 rw[H] at hb;have L:=C.out _ ((l _ K).trans g);clear K;replace m:=lW m H g hb;have E:=O H;replace o:=O (o.keep g fun _ h=>h.elim);replace p:=O (g.blk p.out id);replace q:=O (g.blk q.out id);replace r:=O (g.blk r.out id);replace u:=O (g.blk u.out id);replace y:=O (g.blk y.out id);clear g hb H;go_wp2_with fail;clear U;rw[E.out];refine⟨L,?_⟩;refine wA9 14 ?_;go_wp2_with fail;have qa:=O (m.b 0)
 have Y:Hid (∀k,k<5->k≤5->∃G x,((#[.func (.func 113) #[.pointer a] #[],.func (.func 114) #[.pointer a] #[],.func (.func 170) #[] #[.pointer p0,.pointer p1,.pointer p2],.func (.func 172) #[] #[.pointer q0,.pointer q1],.func (.func 117) #[] #[.pointer V,.pointer X]]:Array Value).getD k .nilFunc=.func (.func G) #[] x\/(#[.func (.func 113) #[.pointer a] #[],.func (.func 114) #[.pointer a] #[],.func (.func 170) #[] #[.pointer p0,.pointer p1,.pointer p2],.func (.func 172) #[] #[.pointer q0,.pointer q1],.func (.func 117) #[] #[.pointer V,.pointer X]]:Array Value).getD k .nilFunc=.func (.func G) x #[])/\(∀w,Sem.run prog (callFunc G x) w=.ok (.enter G x) w)/\∀wr,aA aB w6 wr->Calls prog G x wr fun e w'=>e=.returned (.int .i64 (0))/\aA aB w6 w'):=O (by
  intro k g hm
  match k,g,hm with
  | 0,_,_=>exact ckc (.inr rfl) (fun w=>by rfl) fun wr k=>DS (o.keep k fun _ h=>h.elim)
  | 1,_,_=>exact ckc (.inr rfl) (fun w=>by rfl) fun wr k=>DT (o.keep k fun _ h=>h.elim)
  | 2,_,_=>exact ckc (.inl rfl) (fun w=>by rfl) fun wr k=>rki (by rw[I.out];rfl) (uS (o.keep k fun _ h=>h.elim) (d:Int) (s:Int) p0 p1 p2 (k.blk p.out id) (k.blk q.out id) (k.blk r.out id))
  | 3,_,_=>exact ckc (.inl rfl) (fun w=>by rfl) fun wr k=>sO (o.keep k fun _ h=>h.elim) hd q0 q1 (k.blk u.out id) (k.blk y.out id)
  | 4,_,_=>exact ckc (.inl rfl) (fun w=>by rfl) fun wr k=>Ks (o.keep k fun _ h=>h.elim) hd V X (k.blk (m.b 2) id) (k.blk (m.b 1) id))
 refine(pY w6 (d:Int) qd 5 5 #[.func (.func 113) #[.pointer a] #[],.func (.func 114) #[.pointer a] #[],.func (.func 170) #[] #[.pointer p0,.pointer p1,.pointer p2],.func (.func 172) #[] #[.pointer q0,.pointer q1],.func (.func 117) #[] #[.pointer V,.pointer X]] (fun k=>0) (fun _ wr=>aA aB w6 wr) (by decide) (by decide) (fun k wr g=>g.blk qa.out id) (by intro k g;match k,g with
  | 0,_=>rfl
  | 1,_=>rfl
  | 2,_=>rfl
  | 3,_=>rfl
  | 4,_=>rfl) (aA.refl _ _) (by intro k g;rfl) (by decide) Y.out).mono ?_
 rintro e w7 ⟨h1,h2,g⟩;clear Y qa;obtain rfl:=h1 rfl;clear h1 h2;have N:=C.out _ ((l _ L).trans g);replace m:=kL m g;replace o:=O (o.keep g fun _ h=>h.elim);replace p:=O (g.blk p.out id);replace q:=O (g.blk q.out id);replace r:=O (g.blk r.out id);replace u:=O (g.blk u.out id);replace y:=O (g.blk y.out id);clear L g;go_wp2_with fail;refine⟨N,?_⟩;refine tna 15 .nilIface rfl N ?_;refine wpAnyH_done (by kernel_rfl) ?_ _;clear N l C z qc;have c1:=cD m 2
 have c2:=cD m 1
 go_wp2_with fail;clear c1 c2;have qb:=O m.keep.size;refine(CH o.out hd hs).mono ?_;rintro e w8 ⟨v,rfl,ho,g⟩;replace m:=kL m g;replace o:=O (o.keep g fun _ h=>h.elim);replace p:=O (g.blk p.out id);replace q:=O (g.blk q.out id);replace r:=O (g.blk r.out id);replace u:=O (g.blk u.out id);replace y:=O (g.blk y.out id);clear g;go_wp2_with fail;have qe:=qb.out;clear qb
 go_ret2
 exact⟨_,rfl,bA ho qe,m.keep⟩
theorem lK:(prog.info? 30).map (fun i=>(i.zero,i.size,i.bytes))=some (some (.agg aX.toArray),35,72):=by kernel_rfl
def mT(t:Int):Bool:=decide (1≤t) && decide (t≤2147483648)
def jH(t:Int):Int:=if mT t=true then 1+t % 4 else 0
def AC(w:World)(t:Int)(e:Ending)(w':World):Prop:=e=.returned (.tuple #[.int .i64 (jH t),.bool (mT t)])/\aA aB w w'
theorem NM(w:World)(t:Int)(x:-9223372036854775808≤t)(y:t≤9223372036854775807):Calls prog 104 #[.int .i64 t] w (AC w t):=by
 unfold AC
 by_cases m:t<1
 ·have c:mT t=false:=by unfold mT;rw[decide_eq_false (by omega)];rfl
  rw[show jH t=0 by unfold jH;rw[c];rfl,c];clear c;go_in;go_wp2
  go_ret2
  exact⟨rfl,aA.refl _ _⟩
 ·by_cases r:2147483648<t
  ·have c:mT t=false:=by unfold mT;rw[decide_eq_false (p:=t≤2147483648) (by omega)];simp
   rw[show jH t=0 by unfold jH;rw[c];rfl,c];clear c;have i:decide (t<1)=false:=decide_eq_false m;go_in;go_wp2
   go_ret2
   exact⟨rfl,aA.refl _ _⟩
  ·have c:mT t=true:=by unfold mT;rw[decide_eq_true (by omega),decide_eq_true (by omega)];rfl
   rw[show jH t=1+t % 4 by unfold jH;rw[c];rfl,c];clear c;have i:decide (t<1)=false:=decide_eq_false m;have u:decide (2147483648<t)=false:=decide_eq_false r;have o:t.tmod 4=t % 4:=Int.tmod_eq_emod_of_nonneg (by omega);have g:wrap64 (1+t % 4)=1+t % 4:=by unfold wrap64;omega
   have h:wrap64 (t % 4)=t % 4:=by unfold wrap64;omega
   have l:=O o;have j:=O g;have q:=O h;clear o g h;go_in;go_wp2
   go_ret2
   refine⟨?_,aA.refl _ _⟩
   first|rfl|(rw[l.out,j.out];rfl)|(rw[l.out,q.out,j.out];rfl)
end
end Go.Proofs.YtoeinblfcbpcmaaGreat
