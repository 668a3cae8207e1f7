import Derived.Test.YtoeinblfcbpcmaaGreatDoorC18
import Derived.Test.YtoeinblfcbpcmaaGreatDoorC20
namespace Go.Proofs.YtoeinblfcbpcmaaGreatDoor
open Tryz
set_option maxHeartbeats 0
set_option maxRecDepth 100000
set_option linter.unusedVariables false
section
open Go.RowKit Go.Maps Go.ChangeMaps
def aN(w:World)(v:Value)(e:Ending)(w':World):Prop:=e=.returned v/\aA aB w w'
variable{w w':World}{v:Value}{k a dv dc D Z nw n d s b G:Nat}{T B:Nat->Prop}{st:Int}{f:Nat->Nat}{F M:Nat->Nat->List UInt8}{P:Program}{ops:Array Oper}{rest:List Oper}{Q:Exit->Act->World->Prop}{t T2:TypeId}{cs:List Value}{e:Ending}{c0 c1:Value×TypeId}
theorem aN.of(k:aA aB w w'):aN w v (.returned v) w':=⟨rfl,k⟩
structure Lw where
 dev:Nat
 at_:Nat
 b:List UInt8
def eO(x:Lw):List Value:=.int .i64 (x.dev:Int)::.int .i64 (x.at_:Int)::x.b.map vb
def dJ(l:List Lw):List Value:=l.flatMap eO
def zC(D Z:Nat)(l:List Lw):Prop:=∀x∈l,x.b.length=256/\x.dev<D/\x.at_<Z
theorem lZ{x:Lw}(h:x.b.length=256):(eO x).length=258:=by simp[eO,h]
def fN(M:Nat->Nat->List UInt8)(d s:Nat)(b:List UInt8):Nat->Nat->List UInt8:=fun c g=>if c=d/\g=s then b else M c g
def eB:List Lw->Nat->Nat->List UInt8->List UInt8
 | [],_,_,b=>b
 | x::l,d,s,b=>eB l d s (if x.dev=d/\x.at_=s then x.b else b)
theorem qE(x:Lw):∀(l:List Lw) (d s:Nat) (b:List UInt8),eB (l++[x]) d s b=if x.dev=d/\x.at_=s then x.b else eB l d s b
 | [],_,_,_=>rfl
 | y::l,d,s,b=>qE x l d s _
theorem IA{l:List Lw}{x:Lw}(h:l[k]?=some x)(d s:Nat)(b:List UInt8):eB (l.take (k+1)) d s b=if x.dev=d/\x.at_=s then x.b else eB (l.take k) d s b:=by
 rw[List.take_add_one,h];exact qE x _ d s b
def uZ(f:Nat->Nat)(Z d:Nat):List Value:=[.slice (some ⟨f d,0,none⟩) Z Z,.bool false,.int .u8 0,.int .i64 0,.int .i64 0]
def gS(f:Nat->Nat)(Z D:Nat):List Value:=(List.range D).flatMap (uZ f Z)
def dK(F:Nat->List UInt8)(Z:Nat):List Value:=(List.range Z).flatMap fun s=>(F s).map vb
abbrev fO:TypeId:=78
abbrev fS:TypeId:=107
abbrev WrT:TypeId:=148
abbrev iJ:TypeId:=146
structure bQ(w:World)(a dv:Nat)(dc:Nat)(lv:Value)(st:Int)(f:Nat->Nat)(F:Nat->Nat->List UInt8)(W:List Lw)(D Z:Nat):Prop where
 top:w.heap[a]?=some (.cells #[.slice (some ⟨dv,0,none⟩) D dc,lv,.int .i64 (-1),.bool false,.int .i64 st] fO (0,0))
 devs:w.ownsRow 0 fS 5 (.slice (some ⟨dv,0,none⟩) D dc) D (gS f Z D)
 firm:∀d,d<D->w.heap[f d]?=some (.cells (dK (F d) Z).toArray iJ (0,0))
 inj:∀d e,d<D->e<D->f d=f e->d=e
 loose:w.ownsRow 0 WrT 258 lv W.length (dJ W)
 wok:zC D Z W
 fok:∀d s,d<D->s<Z->(F d s).length=256
 bd:2≤D/\D≤8/\8≤Z/\Z≤4096
def dN(a dv:Nat)(lv:Value)(f:Nat->Nat)(D:Nat)(k:Nat):Prop:=k=a\/k=dv\/lv.ownBlock=some k\/∃d,d<D/\k=f d
def bE(w:World)(a:Nat)(B:Nat->Prop)(D Z:Nat)(M:Nat->Nat->List UInt8)(nw:Nat):Prop:=
 ∃dv dc lv st f F W,bQ w a dv dc lv st f F W D Z/\B=dN a dv lv f D/\W.length=nw/\∀d s,d<D->s<Z->M d s=eB W d s (F d s)
theorem bQ.keep{lv:Value}{W:List Lw}(h:bQ w a dv dc lv st f F W D Z)(k:aA T w w')(c:∀i,T i->¬dN a dv lv f D i):bQ w' a dv dc lv st f F W D Z:=
 ⟨k.blk h.top fun t=>c _ t (.inl rfl),k.owns h.devs fun i g t=>c _ t (.inr (.inl (by cases g;rfl))),fun d j=>k.blk (h.firm d j) fun t=>c _ t (.inr (.inr (.inr ⟨d,j,rfl⟩))),h.inj,k.owns h.loose fun i g t=>c _ t (.inr (.inr (.inl g))),h.wok,h.fok,h.bd⟩
theorem bE.keep(h:bE w a B D Z M nw)(k:aA T w w')(l:∀i,T i->¬B i):bE w' a B D Z M nw:=by
 obtain⟨dv,dc,lv,st,f,F,W,c,rfl,g,j⟩:=h;exact⟨dv,dc,lv,st,f,F,W,c.keep k l,rfl,g,j⟩
theorem bE.keep0(h:bE w a B D Z M nw)(k:aA aB w w'):bE w' a B D Z M nw:=h.keep k fun _ h=>h.elim
theorem bE.lt(h:bE w a B D Z M nw)(i:B k):k<w.heap.size:=by
 obtain⟨dv,dc,lv,st,f,F,W,c,rfl,l,m⟩:=h;rcases i with rfl|rfl|i|⟨d,j,rfl⟩
 ·exact lt_of_block c.top
 ·obtain⟨cur,g⟩:=aH c.devs (k:=k) rfl
  exact lt_of_block g
 ·obtain⟨cur,g⟩:=aH c.loose i
  exact lt_of_block g
 ·exact lt_of_block (c.firm d j)
theorem bE.bd(h:bE w a B D Z M nw):2≤D/\D≤8/\8≤Z/\Z≤4096:=by
 obtain⟨dv,dc,lv,st,f,F,W,c,rfl,g,i⟩:=h;exact c.bd
theorem gP{α:Type}{c:α->List Value}:∀{l:List α}(i:∀x∈l,(c x).length=n){k:Nat}{x:α}(g:l[k]?=some x){j:Nat}{v:Value}(h:(c x)[j]?=some v),(l.flatMap c)[k*n+j]?=some v
 | [],_,k,x,g,_,_,_=>by simp at g
 | y::l,i,0,x,g,j,v,h=>by
   simp only[List.getElem?_cons_zero,Option.some.injEq] at g;subst g;rw[List.flatMap_cons,Nat.zero_mul,Nat.zero_add,List.getElem?_append_left (List.getElem?_eq_some_iff.1 h).1];exact h
 | y::l,i,k+1,x,g,j,v,h=>by
   rw[List.getElem?_cons_succ] at g;have m:=i y (List.mem_cons_self ..);rw[List.flatMap_cons,List.getElem?_append_right (by rw[m,Nat.succ_mul];omega),m,show (k+1)*n+j-n=k*n+j by rw[Nat.succ_mul];omega];exact gP (fun z o=>i z (List.mem_cons_of_mem _ o)) g h
theorem pF{α:Type}{c:α->List Value}:∀{l:List α}(g:∀x∈l,(c x).length=n),(l.flatMap c).length=l.length*n
 | [],_=>by simp
 | y::l,g=>by
   rw[List.flatMap_cons,List.length_append,g y (List.mem_cons_self ..),pF fun z h=>g z (List.mem_cons_of_mem _ h),List.length_cons,Nat.succ_mul];omega
theorem Qe{l:List Lw}(h:zC D Z l):(dJ l).length=l.length*258:=pF fun x c=>lZ (h x c).1
theorem jI(h:d<D):(List.range D)[d]?=some d:=by rw[List.getElem?_range h]
theorem bQ.dev{lv:Value}{W:List Lw}(h:bQ w a dv dc lv st f F W D Z)(q:d<D):w.rangeAt dv (d*5) (uZ f Z d):=fun j v i=>by
 obtain⟨u,z,l,r,A,C,E,m⟩:=Rd.of_owns h.devs;have y:=(List.getElem?_eq_some_iff.1 i).1;obtain⟨g,o,rfl,p⟩:=m (by rw[u];omega);cases r
 have:=p (d*5+j) v (gP (c:=uZ f Z) (fun x _=>rfl) (jI q) i)
 rwa [Nat.zero_add] at this
theorem bQ.sec{lv:Value}{W:List Lw}(h:bQ w a dv dc lv st f F W D Z)(g:d<D)(i:s<Z):w.rangeAt (f d) (s*256) ((F d s).map vb):=fun j v l=>by
 have:=gP (c:=fun s=>(F d s).map vb) (n:=256) (fun x m=>by rw[List.length_map];exact h.fok d x g (List.mem_range.1 m)) (jI i) l;exact aC (h.firm d g) (by rw[List.getElem?_toArray];exact this)
theorem bQ.wr{lv:Value}{W:List Lw}(h:bQ w a dv dc lv st f F W D Z){x:Lw}(m:W[k]?=some x):∃g i,lv=.slice (some ⟨g,0,none⟩) W.length i/\w.rangeAt g (k*258) (eO x):=by
 have z:=(List.getElem?_eq_some_iff.1 m).1;have A:=Rd.of_owns h.loose;rcases h.loose.2 with⟨-,h0⟩|⟨g,i,cur,rfl,-,-,-⟩
 ·omega
 ·refine⟨g,i,rfl,fun j v p=>?_⟩
  have o:=(List.getElem?_eq_some_iff.1 p).1;obtain⟨u,E,H,l,-,-,-,q⟩:=A;cases l
  obtain⟨I,J,l,r⟩:=q (by rw[u];omega);cases l
  have:=r (k*258+j) v (gP (c:=eO) (n:=258) (fun y C=>lZ (h.wok y C).1) m p)
  rwa [Nat.zero_add] at this
theorem bQ.lv{lv:Value}{W:List Lw}(h:bQ w a dv dc lv st f F W D Z):∃p c,lv=.slice p W.length c:=by
 rcases h.loose.2 with⟨rfl,h0⟩|⟨g,c,cur,rfl,-,-,-⟩
 ·exact⟨_,_,by rw[h0]⟩
 ·exact⟨_,_,rfl⟩
def eT:List Value:=List.replicate 256 (.int .u8 0)
def nZ:List Value:=.int .i64 0::.int .i64 0::eT
def eK:List Value:=aL (.slice none 0 0) zPt
def Qf:List Value:=[.int .i64 0,.int .i64 0]
theorem M2:Hid (∀w,(zeroValue 146).run prog w=.ok (.agg eT.toArray) w):=O fun w=>by kernel_rfl
theorem ET:eT.length=256:=rfl
theorem Cq:Hid (∀w,(zeroValue 148).run prog w=.ok (.agg nZ.toArray) w):=O fun w=>by kernel_rfl
theorem sX:nZ.length=258:=rfl
theorem eX:Hid (∀w,(zeroValue 33).run prog w=.ok (.agg eK.toArray) w):=O fun w=>by kernel_rfl
theorem aW:eK.length=35:=rfl
theorem xJ:Hid (∀w,(zeroValue 93).run prog w=.ok (.agg Qf.toArray) w):=O fun w=>by kernel_rfl
theorem mA:(prog.info? 146).map (·.size)=some 256:=by kernel_rfl
theorem kY:(prog.info? 148).map (·.size)=some 258:=by kernel_rfl
theorem mI:(prog.info? 33).map (·.size)=some 35:=by kernel_rfl
theorem szP9 {l:List Value}(h:l.length=35):(prog.info? 33).map (·.size)=some l.length:=by rw[h];exact mI
theorem ldM{a:Act}{d:Option Tmp}{T:TypeId}{s:String}{f:Array Edge}{x:Operand}(b o:Nat)(cs:List Value){D:TypeDesc}(c:w.rangeAt b o cs)(j:P.underlying T=some D)(i:(P.info? T).map (·.size)=some cs.length)(h:wpList P ops Q rest (a.put d (.agg cs.toArray)) w)(g:D.isRow=true:=by rfl)(l:a.eval x=.pointer (some ⟨b,o,none⟩):=by rfl):wpList P ops Q (⟨d,.load T x,t,s,f,none⟩::rest) a w:=wpList_load_mid rfl T x rfl b o l cs D c j g i h
theorem ldR{a:Act}{d:Option Tmp}{T:TypeId}{s:String}{f:Array Edge}{x:Operand}{D:TypeDesc}(c:w.heap[b]?=some (.cells cs.toArray T2 (0,0)))(j:P.underlying T=some D)(i:(P.info? T).map (·.size)=some cs.length)(h:wpList P ops Q rest (a.put d (.agg cs.toArray)) w)(g:D.isRow=true:=by rfl)(l:a.eval x=.pointer b:=by rfl):wpList P ops Q (⟨d,.load T x,t,s,f,none⟩::rest) a w:=ldM b 0 cs (aD c) j i h g l
theorem ldP{a:Act}{d:Option Tmp}{s:String}{f:Array Edge}{x:Operand}(b o:Nat)(cs:List Value)(c:w.rangeAt b o cs)(g:cs.length=35)(h:wpList prog ops Q rest (a.put d (.agg cs.toArray)) w)(i:a.eval x=.pointer (some ⟨b,o,none⟩):=by rfl):wpList prog ops Q (⟨d,.load 33 x,t,s,f,none⟩::rest) a w:=ldM b o cs c bJ (szP9 g) h rfl i
theorem ldQ{a:Act}{d:Option Tmp}{s:String}{f:Array Edge}{x:Operand}(c:w.heap[b]?=some (.cells cs.toArray T2 (0,0)))(g:cs.length=35)(h:wpList prog ops Q rest (a.put d (.agg cs.toArray)) w)(i:a.eval x=.pointer b:=by rfl):wpList prog ops Q (⟨d,.load 33 x,t,s,f,none⟩::rest) a w:=ldP b 0 cs (aD c) g h i
theorem G0:(prog.info? 112).map (·.size)=some 37:=by kernel_rfl
theorem iV:(prog.info? 93).map (·.size)=some 2:=by kernel_rfl
theorem oA:(prog.info? 31).map (·.size)=some 32:=by kernel_rfl
theorem gB:(prog.info? 71).map (·.size)=some 69:=by kernel_rfl
theorem qP:prog.underlying 148=some (.struct (prog.fieldsOf 148)):=by kernel_rfl
theorem QL:Hid (∀w,(zeroValue 3).run prog w=.ok (.int .i64 0) w):=O fun w=>by kernel_rfl
theorem qQ:Hid (∀w,(zeroValue 37).run prog w=.ok (.int .i64 0) w):=O fun w=>by kernel_rfl
theorem Qg:Hid (∀w,(zeroValue 22).run prog w=.ok (.slice none 0 0) w):=O fun w=>by kernel_rfl
theorem Qh:Hid (∀w,(zeroValue 29).run prog w=.ok (.slice none 0 0) w):=O fun w=>by kernel_rfl
theorem vA(x:Lw):∀u∈eO x,u.oneCell'=true:=by
 intro u c;unfold eO at c;rcases List.mem_cons.1 c with rfl|c
 ·rfl
 rcases List.mem_cons.1 c with rfl|c
 ·rfl
 exact bA _ u c
variable {w:World}{a dv dc D Z:Nat}{lv:Value}{st:Int}{f:Nat->Nat}{F:Nat->Nat->List UInt8}{W:List Lw}
theorem Ea(h:bQ w a dv dc lv st f F W D Z):Calls prog 115 #[.pointer a] w (aN w (.bool false)):=by
 have c0:=aC (i:=0) h.top rfl;have c:=h.bd;have g:((D:Int) == 0)=false:=by rw[beq_eq_false_iff_ne];omega
 clear h c;go_in;go_wp2;go_ret;exact aN.of (by first|exact aA.refl _ _|exact HK.out)
theorem jJ(w:World)(b:Bool)(e:Int):Calls prog 90 #[.bool b,.int .i64 e] w (aN w (.int .i64 (if b then 0 else e))):=by
 cases b
 all_goals
  go_in;go_wp2;go_ret;exact aN.of (aA.refl _ _)
theorem M4(h:bQ w a dv dc lv st f F W D Z)(d:Int):Calls prog 111 #[.pointer a,.int .i64 d] w (aN w (.bool (decide (0≤d) && decide (d<(D:Int))))):=by
 have c0:=aC (i:=0) h.top rfl;clear h
 by_cases j:0≤d
 ·have c:decide (0≤d)=true:=by simpa using j
  rw[c,Bool.true_and];obtain⟨l,g⟩:=zX9 (decide (d<(D:Int)))
  rw[g];go_in;go_wp2;go_ret;exact aN.of (aA.refl _ _)
 ·have c:decide (0≤d)=false:=by simpa using j
  rw[c,Bool.false_and];go_in;go_wp2;go_ret;exact aN.of (aA.refl _ _)
theorem QM(h:bQ w a dv dc lv st f F W D Z):Calls prog 59 #[.pointer a] w (aN w (.int .i64 (D:Int))):=by
 have l:=O (Ea h);have c0:=aC (i:=0) h.top rfl;have g:=O h.top;clear h c0;go_in;go_wp2_with fail;refine l.mono ?_;rintro e m ⟨rfl,c⟩;have j:=O c;have c0:=aC (i:=0) (c.blk g.out id) rfl;clear c;go_wp2;go_ret;exact aN.of (by first|exact aA.refl _ _|exact j.out)
theorem Eb(h:bQ w a dv dc lv st f F W D Z):Calls prog 56 #[.pointer a] w (aN w (.int .i64 (Z:Int))):=by
 have l:=O (Ea h);have g:=O h;have o:=h.bd;clear h;go_in;go_wp2_with fail;refine l.mono ?_;rintro e m ⟨rfl,c⟩;have j:=O c;have c0:=aC (i:=0) (c.blk g.top id) rfl;have c1:m.cell? ⟨dv,0,none⟩=some (.slice (some ⟨f 0,0,none⟩) Z Z):=c.cell (by have:=g.dev (d:=0) (by omega) 0 _ rfl;simpa using this) id;clear c;go_wp2;go_ret;exact aN.of (by first|exact aA.refl _ _|exact j.out)
theorem Bo(h:bQ w a dv dc lv st f F W D Z):Calls prog 54 #[.pointer a] w (aN w (.int .i64 0)):=by
 have g:=O (Ea h);clear h;go_in;go_wp2_with fail;refine g.mono ?_;rintro e l ⟨rfl,i⟩;go_wp2_with fail;refine(jJ l true 1).mono ?_;rintro e m ⟨rfl,c⟩;have j:=O (i.trans c);clear i c g;go_wp2;go_ret;exact aN.of j.out
theorem Ec(h:bQ w a dv dc lv st f F W D Z):Calls prog 146 #[.pointer a] w (aN w (.int .i64 0)):=by
 have c3:=aC (i:=3) h.top rfl;clear h;go_in;go_wp2_with fail;refine(jJ w true 10).mono ?_;rintro e j ⟨rfl,c⟩;have g:=O c;clear c;go_wp2;go_ret;exact aN.of g.out
variable {w:World}{a dv dc D Z:Nat}{lv:Value}{st:Int}{f:Nat->Nat}{F:Nat->Nat->List UInt8}{W:List Lw}
theorem EU(w:World)(x y:Int):(Instr.build 188 #[(0,.int .i64 x),(1,.int .i64 y)]).run prog w=.ok (.agg #[.int .i64 x,.int .i64 y]) w:=by kernel_rfl
def Bp(I:Nat->World->Prop)(c:Nat->Int)(dev:Int)(n m:Nat)(e:Ending)(w':World):Prop:=
 (m=n->e=.returned .nilIface)/\(m<n->e=.returned (.iface 188 (.agg #[.int .i64 (c m),.int .i64 dev])))/\I (min n (m+1)) w'
theorem mY(w:World)(dev:Int)(g n m:Nat)(fs:Array Value)(c:Nat->Int)(I:Nat->World->Prop)(hn:n≤100)(hm:m≤n)(Y:∀k wr,I k wr->wr.heap[g]?=some (.cells fs 43 (0,0)))
 (L:∀k,k<n->fs[k]?=some (fs.getD k .nilFunc)) (h0:I 0 w) (q:∀k,k<m->c k=0) (K:m<n->c m≠0)
 (hf:∀k,k<n->k≤m->∃G x,(fs.getD k .nilFunc=.func (.func G) #[] x\/fs.getD k .nilFunc=.func (.func G) x #[])/\(∀w,Sem.run prog (callFunc G x) w=.ok (.enter G x) w)/\∀wr,I k wr->Calls prog G x wr fun e w'=>e=.returned (.int .i64 (c k))/\I (k+1) w') :
 Calls prog 53 #[.int .i64 dev,.slice g n n] w (Bp I c dev n m):=by
 have X:=O h0;have HF:=O hf;have p:=O q;have J:=O K;clear h0 hf q K;go_in;go_wp2_with fail
 go_loopw [10] (fun i wr=>∃k:Nat,k≤m/\i=.int .i64 k/\Hid (I k wr)) (fun i _=>n-(intOf i).toNat)
 case atStart=>exact⟨0,by omega,rfl,X⟩
 case round =>
  clear X;obtain⟨k,hk,rfl,C⟩:=hrel
  by_cases l:k<n
  ·obtain⟨G,x,A,j,R⟩:=HF.out k l hk
   rcases A with A|A
   ·skip
    have r:wr.cell? ⟨g,k,none⟩=some (.func (.func G) #[] x):=by have:=aC (Y k wr C.out) (L k l);rwa [A] at this
    have u:(0:Int)≤(k:Int):=by omega
    have y:(k:Int)<(n:Int):=by omega
    clear A;go_wp2_with fail;refine(R wr C.out).mono ?_;rintro e V ⟨rfl,H⟩;have h:=O H;clear H r j R
    by_cases z:k<m
    ·have q:=p.out k z
     rw[q];clear q;go_wp2
     go_roundw
     case rel=>exact⟨k+1,by omega,by go_num,h⟩
     case measure=>simp[intOf];omega
    ·obtain rfl:m=k:=by omega
     have o:=J.out l;have N:(c m != 0)=true:=by simpa using o
     have E:Hid (Bp I c dev n m (.returned (.iface 188 (.agg #[.int .i64 (c m),.int .i64 dev]))) V):=O ⟨fun e=>absurd e (by omega),fun _=>rfl,by rw[Nat.min_eq_right (by omega)];exact h.out⟩;have S:=fun w=>EU w (c m) dev
     clear o u y;go_wp2;go_ret;exact E.out
   ·skip
    have r:wr.cell? ⟨g,k,none⟩=some (.func (.func G) x #[]):=by have:=aC (Y k wr C.out) (L k l);rwa [A] at this
    have u:(0:Int)≤(k:Int):=by omega
    have y:(k:Int)<(n:Int):=by omega
    clear A;go_wp2_with fail;refine(R wr C.out).mono ?_;rintro e V ⟨rfl,H⟩;have h:=O H;clear H r j R
    by_cases z:k<m
    ·have q:=p.out k z
     rw[q];clear q;go_wp2
     go_roundw
     case rel=>exact⟨k+1,by omega,by go_num,h⟩
     case measure=>simp[intOf];omega
    ·obtain rfl:m=k:=by omega
     have o:=J.out l;have N:(c m != 0)=true:=by simpa using o
     have E:Hid (Bp I c dev n m (.returned (.iface 188 (.agg #[.int .i64 (c m),.int .i64 dev]))) V):=O ⟨fun e=>absurd e (by omega),fun _=>rfl,by rw[Nat.min_eq_right (by omega)];exact h.out⟩;have S:=fun w=>EU w (c m) dev
     clear o u y;go_wp2;go_ret;exact E.out
  ·obtain rfl:n=k:=by omega
   have U:m=n:=by omega
   have E:Hid (Bp I c dev n m (.returned .nilIface) wr):=O ⟨fun _=>rfl,fun e=>absurd e (by omega),by rw[Nat.min_eq_left (by omega)];exact C.out⟩;clear U C;go_wp2;go_ret;exact E.out
variable {w:World}{a dv dc D Z:Nat}{lv:Value}{st:Int}{f:Nat->Nat}{F:Nat->Nat->List UInt8}{W:List Lw}
def oB(d s:Int)(D Z:Nat):Bool:=(decide (0≤d) && decide (d<(D:Int))) && decide (0≤s) && decide (s<(Z:Int))
theorem Qi(h:bQ w a dv dc lv st f F W D Z)(d s:Int):Calls prog 163 #[.pointer a,.int .i64 d,.int .i64 s] w (aN w (.bool (oB d s D Z))):=by
 have i:=O (M4 h d);have o:=O h;obtain⟨r,g⟩:=zX9 (oB d s D Z)
 obtain⟨y,l⟩:=zX9 ((decide (0≤d) && decide (d<(D:Int))))
 rw[g];unfold oB at g;rw[l] at i g;clear l h;cases y
 ·obtain rfl:r=false:=by rw[←g];rfl
  clear g;go_in;go_wp2_with fail;refine i.mono ?_;rintro e x ⟨rfl,c⟩;have j:=O c;have p:=O (Eb (o.keep c fun _ h=>h.elim));clear c i;go_wp2;go_ret;exact aN.of j.out
 ·by_cases u:0≤s
  ·obtain⟨z,q⟩:=zX9 (decide (s<(Z:Int)))
   obtain rfl:r=z:=by rw[←g,←q,decide_eq_true u];rfl
   clear g;go_in;go_wp2_with fail;refine i.mono ?_;rintro e x ⟨rfl,c⟩;have j:=O c;have p:=O (Eb (o.keep c fun _ h=>h.elim));clear c i;go_wp2_with fail;refine p.mono ?_;rintro e A ⟨rfl,m⟩;replace j:=O (j.trans m);clear m;go_wp2;go_ret;exact aN.of j.out
  ·obtain rfl:r=false:=by rw[←g,decide_eq_false u];rfl
   clear g;go_in;go_wp2_with fail;refine i.mono ?_;rintro e x ⟨rfl,c⟩;have j:=O c;have p:=O (Eb (o.keep c fun _ h=>h.elim));clear c i;go_wp2;go_ret;exact aN.of j.out
theorem aup(h:bQ w a dv dc lv st f F W D Z)(d:Int):Calls prog 60 #[.pointer a,.int .i64 d] w (aN w (.bool (decide (0≤d) && decide (d<(D:Int))))):=by
 have u:=O (Ea h);have y:=O h;clear h;obtain⟨A,l⟩:=zX9 ((decide (0≤d) && decide (d<(D:Int))))
 have r:=O l;rw[l];clear l;go_in;go_wp2_with fail;refine u.mono ?_;rintro e J ⟨rfl,q⟩;have z:=O q;have g:=y.keep q fun _ h=>h.elim
 have c:=O g;have c3:=aC (i:=3) g.top rfl;clear q u g;go_wp2_with fail;refine(M4 c.out d).mono ?_;rintro e I ⟨rfl,m⟩;rw[r.out];have o:=O (z.trans m);have j:=c.keep m fun _ h=>h.elim
 have p:=O j;have c0:=aC (i:=0) j.top rfl;clear m c3 c j;cases A
 ·go_wp2
  go_ret;exact aN.of o.out
 ·have x:=r.out
  rw[Bool.and_eq_true,decide_eq_true_eq,decide_eq_true_eq] at x;obtain⟨d,rfl⟩:∃n:Nat,d=(n:Int):=⟨d.toNat,by omega⟩
  have C:d<D:=by omega
  have H:(d:Int)<(D:Int):=by omega
  have E:(0:Int)≤(d:Int):=by omega
  have c1:I.cell? ⟨dv,d*5+1,none⟩=some (.bool false):=p.dev C 1 _ rfl;clear x;go_wp2;go_ret;exact aN.of o.out
def mB(w:World)(G:Nat)(cs:List (Value×TypeId))(e:Ending)(w':World):Prop:=
 ∃g:List Nat,e=.returned (.func (.func G) #[] (g.map fun b=>.pointer (some ⟨b,0,none⟩)).toArray)/\g.length=cs.length/\(∀(i b:Nat) (c:Value×TypeId),g[i]?=some b->cs[i]?=some c->w'.heap[b]?=some (.cells #[c.1] c.2 (0,0)))/\aA aB w w'/\∀b∈g,w.heap.size≤b
theorem xK(w:World)(a:Nat)(d s:Int):Calls prog 147 #[.pointer a,.int .i64 d,.int .i64 s] w (mB w 208 [(Value.pointer a,25),(.int .i64 d,3),(.int .i64 s,3)]):=by
 have g:=lN w;go_in
 go_wp2_with refine bxM g (#[.pointer a]) ?_
 intro m q l g;clear l
 go_wp2_with refine bxM g (#[.int .i64 d]) ?_
 intro o r l g;clear l
 go_wp2_with refine bxM g (#[.int .i64 s]) ?_
 intro p u l g;clear l;go_wp2;go_ret;refine⟨[m,o,p],rfl,rfl,?_,g.keep,?_⟩
 ·intro i b c h j
  match i,h,j with
  | 0,h,j=>cases h;cases j;exact g.b 2
  | 1,h,j=>cases h;cases j;exact g.b 1
  | 2,h,j=>cases h;cases j;exact g.b 0
  | i+3,h,_=>simp at h
 ·intro b h
  simp only[List.mem_cons,List.not_mem_nil,or_false] at h;rcases h with rfl|rfl|rfl
  ·exact(g.lt 2).1
  ·exact(g.lt 1).1
  ·exact(g.lt 0).1
theorem qF(w:World)(a:Nat)(d:Int):Calls prog 107 #[.pointer a,.int .i64 d] w (mB w 161 [(Value.pointer a,25),(.int .i64 d,3)]):=by
 have h:=lN w;go_in
 go_wp2_with refine bxM h (#[.pointer a]) ?_
 intro m p l h;clear l
 go_wp2_with refine bxM h (#[.int .i64 d]) ?_
 intro o q l h;clear l;go_wp2;go_ret;refine⟨[m,o],rfl,rfl,?_,h.keep,?_⟩
 ·intro i b c g j
  match i,g,j with
  | 0,g,j=>cases g;cases j;exact h.b 1
  | 1,g,j=>cases g;cases j;exact h.b 0
  | i+2,g,_=>simp at g
 ·intro b g
  simp only[List.mem_cons,List.not_mem_nil,or_false] at g;rcases g with rfl|rfl
  ·exact(h.lt 1).1
  ·exact(h.lt 0).1
theorem IB(w:World)(a:Nat)(d:Int):Calls prog 48 #[.pointer a,.int .i64 d] w (mB w 110 [(Value.pointer a,25),(.int .i64 d,3)]):=by
 have h:=lN w;go_in
 go_wp2_with refine bxM h (#[.pointer a]) ?_
 intro m p l h;clear l
 go_wp2_with refine bxM h (#[.int .i64 d]) ?_
 intro o q l h;clear l;go_wp2;go_ret;refine⟨[m,o],rfl,rfl,?_,h.keep,?_⟩
 ·intro i b c g j
  match i,g,j with
  | 0,g,j=>cases g;cases j;exact h.b 1
  | 1,g,j=>cases g;cases j;exact h.b 0
  | i+2,g,_=>simp at g
 ·intro b g
  simp only[List.mem_cons,List.not_mem_nil,or_false] at g;rcases g with rfl|rfl
  ·exact(h.lt 1).1
  ·exact(h.lt 0).1
theorem vB(h:bQ w a dv dc lv st f F W D Z)(d s:Int)(q r u:Nat)(j:w.heap[q]?=some (.cells #[.pointer a] 25 (0,0)))(l:w.heap[r]?=some (.cells #[.int .i64 d] 3 (0,0)))(m:w.heap[u]?=some (.cells #[.int .i64 s] 3 (0,0))):Calls prog 208 #[.pointer q,.pointer r,.pointer u] w (aN w (.int .i64 (if oB d s D Z then 0 else 5))):=by
 have o:=O (Qi h d s);have z:=aC (i:=0) j rfl;have A:=aC (i:=0) l rfl;have C:=aC (i:=0) m rfl;obtain⟨y,c⟩:=zX9 (oB d s D Z)
 rw[c] at o ⊢;clear h j l m c;cases y
 all_goals
  go_in;go_wp2_with fail;refine o.mono ?_;rintro e E ⟨rfl,p⟩;go_wp2_with fail;refine(jJ E _ 5).mono ?_;rintro e H ⟨rfl,g⟩;have x:=O (p.trans g);clear p g o z A C;go_wp2;go_ret;exact aN.of x.out
theorem Gh(h:bQ w a dv dc lv st f F W D Z)(d:Int)(p q:Nat)(j:w.heap[p]?=some (.cells #[.pointer a] 25 (0,0)))(l:w.heap[q]?=some (.cells #[.int .i64 d] 3 (0,0))):Calls prog 110 #[.pointer p,.pointer q] w (aN w (.int .i64 (if (decide (0≤d) && decide (d<(D:Int))) then 0 else 5))):=by
 have m:=O (M4 h d);have x:=aC (i:=0) j rfl;have y:=aC (i:=0) l rfl;obtain⟨u,c⟩:=zX9 ((decide (0≤d) && decide (d<(D:Int))))
 rw[c] at m ⊢;clear h j l c;cases u
 all_goals
  go_in;go_wp2_with fail;refine m.mono ?_;rintro e z ⟨rfl,o⟩;go_wp2_with fail;refine(jJ z _ 5).mono ?_;rintro e A ⟨rfl,g⟩;have r:=O (o.trans g);clear o g m x y;go_wp2;go_ret;exact aN.of r.out
theorem sY(h:bQ w a dv dc lv st f F W D Z)(R:d<D)(L N:Nat)(I:w.heap[L]?=some (.cells #[.pointer a] 25 (0,0)))(J:w.heap[N]?=some (.cells #[.int .i64 d] 3 (0,0))):Calls prog 161 #[.pointer L,.pointer N] w (aN w (.int .i64 0)):=by
 have y:=lN w;have m:=O I;have o:=O J;have z:=O h.top;have C:=O (h.dev R);clear I J h;have V:(d:Int)<(D:Int):=by omega
 have U:(0:Int)≤(d:Int):=by omega
 go_in;go_wp2_with fail;refine dwA aB (by kernel_rfl) ?_;intro X S j H p l;replace y:=kL y l;replace m:=O (l.blk m.out id);replace o:=O (l.blk o.out id);replace z:=O (l.blk z.out id);replace C:=O (l.rangeAt C.out);clear l;have K:=y;have q:=m;have r:=o;have A:=z;have E:=C;refine tnd 0 (.pointer a) rfl (.inl ⟨by rfl,fun w' g=>by have c:=(j w' g).cell (aC (i:=0) q.out rfl) id;go_simp⟩) p ?_;refine tnb 1 (.pointer a) rfl p ?_;refine tnb 2 (.pointer a) rfl p ?_;refine tnd 3 (.slice dv D dc) rfl (.inl ⟨by rfl,fun w' g=>by have c:=(j w' g).cell (aC (i:=0) A.out rfl) id;go_simp⟩) p ?_;refine tnd 4 (.int .i64 (d:Int)) rfl (.inl ⟨by rfl,fun w' g=>by have c:=(j w' g).cell (aC (i:=0) r.out rfl) id;go_simp⟩) p ?_;refine tnb 5 (.pointer (some ⟨dv,d*5,none⟩)) rfl p ?_;refine tnb 6 (.pointer (some ⟨dv,d*5+1,none⟩)) rfl p ?_;refine tnd 7 (.bool false) rfl (.inl ⟨by rfl,fun w' g=>by have c:=(j w' g).cell (show World.cell? _ ⟨dv,d*5+1,none⟩=some (.bool false) from E.out 1 _ rfl) id;go_simp⟩) p ?_;refine tnb 8 (.bool true) rfl p ?_;refine wA9 9 ?_;go_wp2_with fail;refine(jJ X true 14).mono ?_;rintro e Y ⟨rfl,x⟩;have u:=H.out _ ((j _ p).trans x);replace y:=kL y x;replace m:=O (x.blk m.out id);replace o:=O (x.blk o.out id);replace z:=O (x.blk z.out id);replace C:=O (x.rangeAt C.out);clear p x;go_wp2_with fail;refine⟨u,?_⟩;refine tna 10 (.int .i64 0) rfl u ?_;refine wpAnyH_done (by kernel_rfl) ?_ _;clear u j H K q r A E;go_wp2;go_ret;exact aN.of y.keep
theorem KD(w:World)(p n c:Nat)(q:Option Addr)(m:w.heap[p]?=some (.cells #[.slice q n c] 22 (0,0))):Calls prog 145 #[.pointer p] w (aN w (.int .i64 (if n=256 then 0 else 2))):=by
 have u:=aC (i:=0) m rfl;obtain⟨j,g⟩:=zX9 (decide (n=256))
 have r:((n:Int) == 256)=j:=by rw[←g,Bool.eq_iff_iff,beq_iff_eq,decide_eq_true_eq];omega
 have l:(if n=256 then (0:Int) else 2)=if j then 0 else 2:=by rw[←g];simp
 rw[l];clear m g l;cases j
 all_goals
  go_in;go_wp2_with fail;refine(jJ w _ 2).mono ?_;rintro e x ⟨rfl,h⟩;have o:=O h;clear h u r;go_wp2;go_ret;exact aN.of o.out
theorem KE(h:bQ w a dv dc lv st f F W D Z)(L:d<D)(J K:Nat)(x:w.heap[J]?=some (.cells #[.pointer a] 25 (0,0)))(y:w.heap[K]?=some (.cells #[.int .i64 d] 3 (0,0))):Calls prog 194 #[.pointer J,.pointer K] w (aN w (.int .i64 0)):=by
 have A:=lN w;have q:=O x;have r:=O y;have C:=O h.top;have z:=O (h.dev L);clear x y h;have R:(d:Int)<(D:Int):=by omega
 have N:(0:Int)≤(d:Int):=by omega
 go_in;go_wp2_with fail;refine dwA aB (by kernel_rfl) ?_;intro U S l I p g;replace A:=kL A g;replace q:=O (g.blk q.out id);replace r:=O (g.blk r.out id);replace C:=O (g.blk C.out id);replace z:=O (g.rangeAt z.out);clear g;have H:=A;have m:=q;have o:=r;have u:=C;have E:=z;refine tnd 0 (.pointer a) rfl (.inl ⟨by rfl,fun w' j=>by have c:=(l w' j).cell (aC (i:=0) m.out rfl) id;go_simp⟩) p ?_;refine tnb 1 (.pointer a) rfl p ?_;refine tnb 2 (.pointer a) rfl p ?_;refine tnd 3 (.slice dv D dc) rfl (.inl ⟨by rfl,fun w' j=>by have c:=(l w' j).cell (aC (i:=0) u.out rfl) id;go_simp⟩) p ?_;refine tnd 4 (.int .i64 (d:Int)) rfl (.inl ⟨by rfl,fun w' j=>by have c:=(l w' j).cell (aC (i:=0) o.out rfl) id;go_simp⟩) p ?_;refine tnb 5 (.pointer (some ⟨dv,d*5,none⟩)) rfl p ?_;refine tna 6 (.pointer (some ⟨dv,d*5,none⟩)) rfl p ?_;refine wpAnyH_done (by kernel_rfl) ?_ _;clear p l I H m o u E;have V:U.cell? ⟨dv,d*5+4,none⟩=some (.int .i64 0):=z.out 4 _ rfl;go_wp2;go_ret;exact aN.of A.keep
variable {w:World}{a dv dc D Z:Nat}{lv:Value}{st:Int}{f:Nat->Nat}{F:Nat->Nat->List UInt8}{W:List Lw}
theorem EV{x:Lw}(h:w.heap[b]?=some (.cells (eO x).toArray WrT (0,0))):w.rangeAt b 2 (x.b.map vb):=fun j v c=>by
 have:=aD h (2+j) v (by unfold eO;rw[Nat.add_comm 2 j];exact c)
 rwa [Nat.zero_add] at this
theorem vC:∀{l:List Lw}{b:List UInt8},zC D Z l->b.length=256->(eB l d s b).length=256
 | [],b,_,c=>c
 | y::l,b,g,c=>by
   refine vC (l:=l) (fun z h=>g z (List.mem_cons_of_mem _ h)) ?_;split
   ·exact(g y (List.mem_cons_self ..)).1
   ·exact c
def M5(w:World)(b:List UInt8)(e:Ending)(w':World):Prop:=∃v,e=.returned v/\w'.ownsRow w.heap.size 5 1 v 256 (b.map vb)/\aA aB w w'
theorem C3(h:bQ w a dv dc lv st f F W D Z)(hd:d<D)(hs:s<Z):Calls prog 164 #[.pointer a,.int .i64 (d:Int),.int .i64 (s:Int)] w (M5 w (eB W d s (F d s))):=by
 obtain⟨p,qk,rfl⟩:=h.lv;have q:=lN w;have HH:=O h;have N:=O h.top;have HD:=O (h.dev hd);have X:=O (h.sec hd hs);have qe:W.length≤maxLen:=by obtain⟨_,a',c',h1,h2,h3,-⟩:=Rd.of_owns h.loose;omega
 unfold maxLen at qe;have qv:(d:Int)<(D:Int):=by omega
 have qu:(0:Int)≤(d:Int):=by omega
 have qy:(s:Int)<(Z:Int):=by omega
 have qx:(0:Int)≤(s:Int):=by omega
 have qq:=O h.bd;have C:=O (h.fok d s hd hs);obtain⟨b0,l⟩:=zX9 ((F d s).map vb)
 have qf:=O l;have H:b0.length=256:=by rw[←l,List.length_map];exact C.out
 have HO:Hid (∀u∈b0,u.oneCell'=true):=O (by rw[←l];exact bA _);rw[l] at X;obtain⟨n,hn⟩:=zX9 W.length
 have HN:=O hn;rw[hn] at qe N;clear h l hd hs hn;go_in;have c1:w.cell? ⟨a,0,none⟩=some (.slice dv D dc):=(aC (i:=0) N.out rfl)
 have c2:w.cell? ⟨dv,d*5,none⟩=some (.slice (some ⟨f d,0,none⟩) Z Z):=(HD 0 _ rfl)
 go_wp2_with (first
  | refine ldM (f d) (s*256) b0 X.out underlying146 (by rw[H];exact mA) ?_
  | refine alA M2 ?_)
 clear c1 c2;intro b7 w1 c r j
 go_wp2_with ((with_reducible show WL _ _);refine stW j H ET (by rw[H];exact mA) HO.out ?_)
 intro w2 o A;replace o:=tX r o (fun i hi e=>by omega);replace q:=lW q c o A;replace N:=O (o.blk N.out id);replace HD:=O (o.rangeAt HD.out);replace X:=O (o.rangeAt X.out);clear c o A r j;have c1:w2.cell? ⟨a,1,none⟩=some (.slice p n qk):=(aC (i:=1) N.out rfl)
 go_wp2_with fail;clear c1
 go_loopw [26] (fun i wr=>∃k:Nat,k≤n/\i=.int .i64 k/\Hid (Loc aB aB w wr [(b7,((eB (W.take k) d s (F d s)).map vb).toArray,iJ)])) (fun i _=>n-(intOf i).toNat)
 case atStart=>exact⟨0,by omega,rfl,by rw[List.take_zero];show Hid (Loc _ _ _ _ [(_,((F d s).map vb).toArray,_)]);rw[qf.out];exact q⟩
 case round =>
  clear q X N HD;obtain⟨k,o,rfl,E⟩:=hrel
  by_cases qn:k<n
  ·obtain⟨x,hx⟩:∃x,W[k]?=some x:=⟨W[k]'(by rw[HN.out];exact qn),List.getElem?_eq_getElem _⟩
   have K:=HH.wok x (List.mem_of_getElem? hx);obtain⟨g,Y,hv,qa⟩:=HH.wr hx;cases hv
   have HX:=O (E.out.keep.rangeAt qa);have qr:=O hx;have q:=E;have I:=lZ K.1;have L:(x.b.map vb).length=256:=by rw[List.length_map];exact K.1
   obtain⟨bk,m⟩:=zX9 ((eB (W.take k) d s (F d s)).map vb)
   have S:=O m;have qm:bk.length=256:=by rw[←m,List.length_map];exact vC (fun y hy=>HH.wok y (List.mem_of_mem_take hy)) C.out
   have HO:Hid (∀u∈bk,u.oneCell'=true):=O (by rw[←m];exact bA _);rw[m] at q;have r:(0:Int)≤(k:Int):=by omega
   have qw:(k:Int)<(n:Int):=by omega
   have HT:=O (IA hx d s (F d s));clear E m qa hx K
   go_wp2_with (first
    | refine ldM g (k*258) (eO x) HX.out qP (by rw[I];exact kY) ?_
    | refine alA Cq ?_)
   intro b9 w3 c r j
   go_wp2_with ((with_reducible show WL _ _);refine stW j I sX (by rw[I];exact kY) (vA x) ?_)
   intro w4 o A;replace o:=tX r o (fun i hi e=>by omega);replace q:=lW q c o A;replace HX:=O (o.rangeAt HX.out);clear c o A r j;have R:=O (q.b 0);have c1:w4.cell? ⟨b9,0,none⟩=some (.int .i64 (x.dev:Int)):=aC (i:=0) R.out (by rw[List.getElem?_toArray];rfl);have c2:w4.cell? ⟨b9,1,none⟩=some (.int .i64 (x.at_:Int)):=aC (i:=1) R.out (by rw[List.getElem?_toArray];rfl);have z:=O (EV R.out)
   by_cases h1:x.dev=d
   ·have e1:((x.dev:Int) == (d:Int))=true:=by rw[beq_iff_eq];omega
    by_cases h2:x.at_=s
    ·have e2:((x.at_:Int) == (s:Int))=true:=by rw[beq_iff_eq];omega
     clear R
     go_wp2_with (first
      | refine ldM b9 2 (x.b.map vb) z.out underlying146 (by rw[L];exact mA) ?_
      | refine stW (q.b 1) L qm (by rw[L];exact mA) (bA _) ?_)
     intro w5 o A;replace q:=O (q.set 1 o A);clear o A;clear c1 c2 z;go_wp2
     go_roundw
     case rel=>exact⟨k+1,by omega,by go_num,by rw[HT.out,if_pos ⟨h1,h2⟩];exact O q.tail⟩
     case measure=>simp[intOf];omega
    ·have e2:((x.at_:Int) == (s:Int))=false:=by rw[beq_eq_false_iff_ne];omega
     clear R z;go_wp2
     go_roundw
     case rel=>exact⟨k+1,by omega,by go_num,by rw[HT.out,if_neg (fun e=>h2 e.2),S.out];exact O q.tail⟩
     case measure=>simp[intOf];omega
   ·have e1:((x.dev:Int) == (d:Int))=false:=by rw[beq_eq_false_iff_ne];omega
    clear R z;go_wp2
    go_roundw
    case rel=>exact⟨k+1,by omega,by go_num,by rw[HT.out,if_neg (fun e=>h1 e.1),S.out];exact O q.tail⟩
    case measure=>simp[intOf];omega
  ·obtain rfl:n=k:=by omega
   rw[List.take_of_length_le (by rw[HN.out];exact Nat.le_refl _)] at E;have qc:=E.out.b 0;have hl:=vC (d:=d) (s:=s) HH.wok C.out;have V:Hid (Rd wr 1 (.slice b7 256 256) 256 ((eB W d s (F d s)).map vb)):=O (eL (n:=256) (size:=1) qc (by rw[List.length_map,hl]) (by unfold maxLen;omega));have U:=O E.out.keep;obtain⟨bs,c⟩:=zX9 ((eB W d s (F d s)).map vb)
   have qt:bs.length=256:=by rw[←c,List.length_map,hl]
   have qi:Hid (∀u∈bs,u.oneCell'=true):=O (by rw[←c];exact bA _);rw[c] at V;have qg:=O c;clear E qc hl c
   go_wp2_with (at_builtin;refine aK rfl (.const (.slice none 0 0)) (.tmp 43) 22 rfl wr.heap.size 5 (.int .u8 0) 1 1 underlying22 eW rfl (by omega) (.slice none 0 0) 0 [] rfl (World.ownsRow_nil _ _ _ _) (.slice b7 256 256) 256 bs rfl V.out qi.out (by unfold maxLen;omega) (by omega) (Nat.le_refl _) ?_)
   intro v2 w3 J qd qo ql;have qh:=O (U.trans (qd.mono (T:=aB) fun k _ e=>by cases e));obtain⟨g',Y,rfl⟩:=ownsRow_succ J;have qj:=O J;have qp:=U.size;clear J qd qo ql;go_wp2;go_ret;exact⟨_,rfl,by rw[qg.out];exact aQ qj.out qp,qh.out⟩
variable {w:World}{a dv dc D Z:Nat}{lv:Value}{st:Int}{f:Nat->Nat}{F:Nat->Nat->List UInt8}{W:List Lw}
theorem mB.three{c2:Value×TypeId}(h:mB w G [c0,c1,c2] e w'):∃c g i,e=.returned (.func (.func G) #[] #[.pointer (some ⟨c,0,none⟩),.pointer (some ⟨g,0,none⟩),.pointer (some ⟨i,0,none⟩)]) /\
 w'.heap[c]?=some (.cells #[c0.1] c0.2 (0,0))/\w'.heap[g]?=some (.cells #[c1.1] c1.2 (0,0))/\w'.heap[i]?=some (.cells #[c2.1] c2.2 (0,0))/\aA aB w w':=by
 obtain⟨l,rfl,o,j,m,-⟩:=h
 match l,o with
 | [c,g,i],_=>exact⟨c,g,i,rfl,j 0 _ _ rfl rfl,j 1 _ _ rfl rfl,j 2 _ _ rfl rfl,m⟩
theorem mB.two(h:mB w G [c0,c1] e w'):∃c g,e=.returned (.func (.func G) #[] #[.pointer (some ⟨c,0,none⟩),.pointer (some ⟨g,0,none⟩)]) /\
 w'.heap[c]?=some (.cells #[c0.1] c0.2 (0,0))/\w'.heap[g]?=some (.cells #[c1.1] c1.2 (0,0))/\aA aB w w':=by
 obtain⟨j,rfl,m,i,l,-⟩:=h
 match j,m with
 | [c,g],_=>exact⟨c,g,rfl,i 0 _ _ rfl rfl,i 1 _ _ rfl rfl,l⟩
theorem ckc{W:World}{x:Array Value}{c:Int}(j:v=.func (.func G) #[] x\/v=.func (.func G) x #[])(i:∀w,Sem.run prog (callFunc G x) w=.ok (.enter G x) w)(g:∀wr,aA aB W wr->Calls prog G x wr (aN wr (.int .i64 c))) :
 ∃G x,(v=.func (.func G) #[] x\/v=.func (.func G) x #[])/\(∀w,Sem.run prog (callFunc G x) w=.ok (.enter G x) w)/\∀wr,aA aB W wr->Calls prog G x wr fun e w'=>e=.returned (.int .i64 c)/\aA aB W w':=
 ⟨G,x,j,i,fun wr k=>(g wr k).mono fun e w' h=>⟨h.1,k.trans h.2⟩⟩
theorem rkb{F:Nat}{x:Array Value}{p q:Bool}(e:p=q)(h:Calls prog F x w (aN w (.bool p))):Calls prog F x w (aN w (.bool q)):=e▸h
theorem rki{F:Nat}{x:Array Value}{p q:Int}(e:p=q)(h:Calls prog F x w (aN w (.int .i64 p))):Calls prog F x w (aN w (.int .i64 q)):=e▸h
def vD(w:World)(b:List UInt8)(y:Value)(e:Ending)(w':World):Prop:=∃v,e=.returned (.tuple #[v,y])/\w'.ownsRow w.heap.size 5 1 v 256 (b.map vb)/\aA aB w w'
theorem M6(h:bQ w a dv dc lv st f F W D Z)(p:d<D)(r:s<Z):Calls prog 112 #[.pointer a,.int .i64 (d:Int),.int .i64 (s:Int)] w (vD w (eB W d s (F d s)) (.bool true)):=by
 have g:=lN w;have i:=O h;have m:(decide (0≤(d:Int)) && decide ((d:Int)<(D:Int)))=true:=by rw[Bool.and_eq_true,decide_eq_true_eq,decide_eq_true_eq];omega
 have j:oB d s D Z=true:=by unfold oB;rw[m,Bool.true_and,Bool.and_eq_true,decide_eq_true_eq,decide_eq_true_eq];omega
 have m:=O m;have j:=O j;clear h;go_in;go_wp2_with fail;refine(rkb m.out (aup i.out (d:Int))).mono ?_;rintro e u ⟨rfl,c⟩;replace g:=kL g c;replace i:=O (i.keep c fun _ h=>h.elim);clear c;go_wp2_with fail;refine(rkb j.out (Qi i.out (d:Int) (s:Int))).mono ?_;rintro e x ⟨rfl,c⟩;replace g:=kL g c;replace i:=O (i.keep c fun _ h=>h.elim);clear c;go_wp2_with fail;have l:=O g.keep.size;refine(C3 i.out p r).mono ?_;rintro e y ⟨v,rfl,q,c⟩;replace g:=kL g c;go_wp2_with fail;have o:=l.out;clear l
 go_ret2
 exact⟨_,rfl,aQ q (o),g.keep⟩
theorem Pb(h:bQ w a dv dc lv st f F W D Z)(hd:d<D)(hs:s<Z):Calls prog 129 #[.pointer a,.int .i64 (d:Int),.int .i64 (s:Int)] w (vD w (eB W d s (F d s)) (.int .i64 0)):=by
 have I:oB d s D Z=true:=by unfold oB;simp only[Bool.and_eq_true,decide_eq_true_eq];omega
 replace I:=O I;have m:=lN w;have o:=O h;clear h;go_in
 go_wp2_with refine bxM m (#[.pointer a]) ?_
 intro V w1 g m;replace o:=O (o.keep g fun _ h=>h.elim);clear g
 go_wp2_with refine bxM m (#[.int .i64 (d:Int)]) ?_
 intro X w2 g m;replace o:=O (o.keep g fun _ h=>h.elim);clear g;go_wp2_with fail;refine dwA aB (by kernel_rfl) ?_;intro w3 S l C A R;replace m:=kL m R;replace o:=O (o.keep R fun _ h=>h.elim);clear R;have z:=m;have qd:=o;refine tnd 0 (.int .i64 (d:Int)) rfl (.inl ⟨by rfl,fun w' j=>by have c:=aC (i:=0) ((l w' j).blk (z.b 0) id) rfl;go_simp⟩) A ?_;refine tnd 1 (.pointer a) rfl (.inl ⟨by rfl,fun w' j=>by have c:=aC (i:=0) ((l w' j).blk (z.b 1) id) rfl;go_simp⟩) A ?_;refine tnb 2 (.func (.func 54) #[.pointer a] #[]) rfl A ?_;refine tnd 3 (.pointer a) rfl (.inl ⟨by rfl,fun w' j=>by have c:=aC (i:=0) ((l w' j).blk (z.b 1) id) rfl;go_simp⟩) A ?_;refine tnb 4 (.func (.func 146) #[.pointer a] #[]) rfl A ?_;refine tnd 5 (.pointer a) rfl (.inl ⟨by rfl,fun w' j=>by have c:=aC (i:=0) ((l w' j).blk (z.b 1) id) rfl;go_simp⟩) A ?_;refine tnd 6 (.int .i64 (d:Int)) rfl (.inl ⟨by rfl,fun w' j=>by have c:=aC (i:=0) ((l w' j).blk (z.b 0) id) rfl;go_simp⟩) A ?_;refine tna 7 (.int .i64 (s:Int)) rfl A ?_;refine tnd 9 (.pointer a) rfl (.inl ⟨by rfl,fun w' j=>by have c:=aC (i:=0) ((l w' j).blk (z.b 1) id) rfl;go_simp⟩) A ?_;refine tnd 10 (.int .i64 (d:Int)) rfl (.inl ⟨by rfl,fun w' j=>by have c:=aC (i:=0) ((l w' j).blk (z.b 0) id) rfl;go_simp⟩) A ?_;refine tnb 12 (.func (.func 194) #[] #[.pointer V,.pointer X]) rfl A ?_;refine wA9 8 ?_;go_wp2_with fail;refine(xK w3 a (d:Int) (s:Int)).mono ?_;rintro e w4 hp;obtain⟨p0,p1,p2,rfl,p,q,r,g⟩:=hp.three;have J:=C.out _ ((l _ A).trans g);replace m:=kL m g;replace o:=O (o.keep g fun _ h=>h.elim);clear A g;replace p:=O p;replace q:=O q;replace r:=O r;go_wp2_with fail;refine⟨J,?_⟩;refine wA9 11 ?_;go_wp2_with fail;refine(qF w4 a (d:Int)).mono ?_;rintro e w5 hp;obtain⟨q0,q1,rfl,u,y,g⟩:=hp.two;have K:=C.out _ ((l _ J).trans g);replace m:=kL m g;replace o:=O (o.keep g fun _ h=>h.elim);replace p:=O (g.blk p.out id);replace q:=O (g.blk q.out id);replace r:=O (g.blk r.out id);clear J g;replace u:=O u;replace y:=O y;go_wp2_with fail;refine⟨K,?_⟩;refine wA9 13 ?_;obtain⟨w6,U,g,hb,-⟩:=aM w5 #[.func (.func 54) #[.pointer a] #[],.func (.func 146) #[.pointer a] #[],.func (.func 208) #[] #[.pointer p0,.pointer p1,.pointer p2],.func (.func 161) #[] #[.pointer q0,.pointer q1],.func (.func 194) #[] #[.pointer V,.pointer X]] 43;obtain⟨qe,H⟩:=zX9 w5.heap.size
 rw[H] at hb;have L:=C.out _ ((l _ K).trans g);clear K;replace m:=lW m H g hb;have E:=O H;replace o:=O (o.keep g fun _ h=>h.elim);replace p:=O (g.blk p.out id);replace q:=O (g.blk q.out id);replace r:=O (g.blk r.out id);replace u:=O (g.blk u.out id);replace y:=O (g.blk y.out id);clear g hb H;go_wp2_with fail;clear U;rw[E.out];refine⟨L,?_⟩;refine wA9 14 ?_;go_wp2_with fail;have qa:=O (m.b 0)
 have Y:Hid (∀k,k<5->k≤5->∃G x,((#[.func (.func 54) #[.pointer a] #[],.func (.func 146) #[.pointer a] #[],.func (.func 208) #[] #[.pointer p0,.pointer p1,.pointer p2],.func (.func 161) #[] #[.pointer q0,.pointer q1],.func (.func 194) #[] #[.pointer V,.pointer X]]:Array Value).getD k .nilFunc=.func (.func G) #[] x\/(#[.func (.func 54) #[.pointer a] #[],.func (.func 146) #[.pointer a] #[],.func (.func 208) #[] #[.pointer p0,.pointer p1,.pointer p2],.func (.func 161) #[] #[.pointer q0,.pointer q1],.func (.func 194) #[] #[.pointer V,.pointer X]]:Array Value).getD k .nilFunc=.func (.func G) x #[])/\(∀w,Sem.run prog (callFunc G x) w=.ok (.enter G x) w)/\∀wr,aA aB w6 wr->Calls prog G x wr fun e w'=>e=.returned (.int .i64 (0))/\aA aB w6 w'):=O (by
  intro k g hm
  match k,g,hm with
  | 0,_,_=>exact ckc (.inr rfl) (fun w=>by rfl) fun wr k=>Bo (o.keep k fun _ h=>h.elim)
  | 1,_,_=>exact ckc (.inr rfl) (fun w=>by rfl) fun wr k=>Ec (o.keep k fun _ h=>h.elim)
  | 2,_,_=>exact ckc (.inl rfl) (fun w=>by rfl) fun wr k=>rki (by rw[I.out];rfl) (vB (o.keep k fun _ h=>h.elim) (d:Int) (s:Int) p0 p1 p2 (k.blk p.out id) (k.blk q.out id) (k.blk r.out id))
  | 3,_,_=>exact ckc (.inl rfl) (fun w=>by rfl) fun wr k=>sY (o.keep k fun _ h=>h.elim) hd q0 q1 (k.blk u.out id) (k.blk y.out id)
  | 4,_,_=>exact ckc (.inl rfl) (fun w=>by rfl) fun wr k=>KE (o.keep k fun _ h=>h.elim) hd V X (k.blk (m.b 2) id) (k.blk (m.b 1) id))
 refine(mY w6 (d:Int) qe 5 5 #[.func (.func 54) #[.pointer a] #[],.func (.func 146) #[.pointer a] #[],.func (.func 208) #[] #[.pointer p0,.pointer p1,.pointer p2],.func (.func 161) #[] #[.pointer q0,.pointer q1],.func (.func 194) #[] #[.pointer V,.pointer X]] (fun k=>0) (fun _ wr=>aA aB w6 wr) (by decide) (by decide) (fun k wr g=>g.blk qa.out id) (by intro k g;match k,g with
  | 0,_=>rfl
  | 1,_=>rfl
  | 2,_=>rfl
  | 3,_=>rfl
  | 4,_=>rfl) (aA.refl _ _) (by intro k g;rfl) (by decide) Y.out).mono ?_
 rintro e w7 ⟨h1,h2,g⟩;clear Y qa;obtain rfl:=h1 rfl;clear h1 h2;have N:=C.out _ ((l _ L).trans g);replace m:=kL m g;replace o:=O (o.keep g fun _ h=>h.elim);replace p:=O (g.blk p.out id);replace q:=O (g.blk q.out id);replace r:=O (g.blk r.out id);replace u:=O (g.blk u.out id);replace y:=O (g.blk y.out id);clear L g;go_wp2_with fail;refine⟨N,?_⟩;refine tna 15 .nilIface rfl N ?_;refine wpAnyH_done (by kernel_rfl) ?_ _;clear N l C z qd;have c1:=cD m 2
 have c2:=cD m 1
 go_wp2_with fail;clear c1 c2;have qc:=O m.keep.size;refine(C3 o.out hd hs).mono ?_;rintro e w8 ⟨v,rfl,ho,g⟩;replace m:=kL m g;replace o:=O (o.keep g fun _ h=>h.elim);replace p:=O (g.blk p.out id);replace q:=O (g.blk q.out id);replace r:=O (g.blk r.out id);replace u:=O (g.blk u.out id);replace y:=O (g.blk y.out id);clear g;go_wp2_with fail;have qf:=qc.out;clear qc
 go_ret2
 exact⟨_,rfl,aQ ho qf,m.keep⟩
def lC(t:Int):Bool:=decide (1≤t) && decide (t≤2147483648)
def eC(t:Int):Int:=if lC t=true then 1+t % 4 else 0
def AS(w:World)(t:Int)(e:Ending)(w':World):Prop:=e=.returned (.tuple #[.int .i64 (eC t),.bool (lC t)])/\aA aB w w'
theorem Fo(w:World)(t:Int)(x:-9223372036854775808≤t)(y:t≤9223372036854775807):Calls prog 140 #[.int .i64 t] w (AS w t):=by
 unfold AS
 by_cases m:t<1
 ·have c:lC t=false:=by unfold lC;rw[decide_eq_false (by omega)];rfl
  rw[show eC t=0 by unfold eC;rw[c];rfl,c];clear c;go_in;go_wp2
  go_ret2
  exact⟨rfl,aA.refl _ _⟩
 ·by_cases r:2147483648<t
  ·have c:lC t=false:=by unfold lC;rw[decide_eq_false (p:=t≤2147483648) (by omega)];simp
   rw[show eC t=0 by unfold eC;rw[c];rfl,c];clear c;have i:decide (t<1)=false:=decide_eq_false m;go_in;go_wp2
   go_ret2
   exact⟨rfl,aA.refl _ _⟩
  ·have c:lC t=true:=by unfold lC;rw[decide_eq_true (by omega),decide_eq_true (by omega)];rfl
   rw[show eC t=1+t % 4 by unfold eC;rw[c];rfl,c];clear c;have i:decide (t<1)=false:=decide_eq_false m;have u:decide (2147483648<t)=false:=decide_eq_false r;have o:t.tmod 4=t % 4:=Int.tmod_eq_emod_of_nonneg (by omega);have g:wrap64 (1+t % 4)=1+t % 4:=by unfold wrap64;omega
   have h:wrap64 (t % 4)=t % 4:=by unfold wrap64;omega
   have l:=O o;have j:=O g;have q:=O h;clear o g h;go_in;go_wp2
   go_ret2
   refine⟨?_,aA.refl _ _⟩
   first|rfl|(rw[l.out,j.out];rfl)|(rw[l.out,q.out,j.out];rfl)
end
end Go.Proofs.YtoeinblfcbpcmaaGreatDoor
