import Derived.Test.YtiinnfhjpaeffaaGreatU18
import Derived.Test.YtiinnfhjpaeffaaGreatU19
namespace Go.Proofs.YtiinnfhjpaeffaaGreat
open Tryz
set_option maxHeartbeats 0
set_option maxRecDepth 100000
set_option linter.unusedVariables false
section
open Go.RowKit Go.Maps Go.ChangeMaps
def aK(w:World)(v:Value)(e:Ending)(w':World):Prop:=e=.returned v/\aA aB w w'
variable{w w':World}{v:Value}{k a dv dc D Z nw n d s G:Nat}{T B:Nat->Prop}{st:Int}{f:Nat->Nat}{F M:Nat->Nat->List UInt8}{e:Ending}{c0 c1:Value×TypeId}
theorem aK.of(k:aA aB w w'):aK w v (.returned v) w':=⟨rfl,k⟩
structure Lw where
 dev:Nat
 at_:Nat
 b:List UInt8
def eE(x:Lw):List Value:=.int .i64 (x.dev:Int)::.int .i64 (x.at_:Int)::x.b.map vb
def dI(l:List Lw):List Value:=l.flatMap eE
def yP(D Z:Nat)(l:List Lw):Prop:=∀x∈l,x.b.length=256/\x.dev<D/\x.at_<Z
theorem mC{x:Lw}(h:x.b.length=256):(eE x).length=258:=by simp[eE,h]
def gO(M:Nat->Nat->List UInt8)(d s:Nat)(b:List UInt8):Nat->Nat->List UInt8:=fun c g=>if c=d/\g=s then b else M c g
def eG:List Lw->Nat->Nat->List UInt8->List UInt8
 | [],_,_,b=>b
 | x::l,d,s,b=>eG l d s (if x.dev=d/\x.at_=s then x.b else b)
theorem qH(x:Lw):∀(l:List Lw) (d s:Nat) (b:List UInt8),eG (l++[x]) d s b=if x.dev=d/\x.at_=s then x.b else eG l d s b
 | [],_,_,_=>rfl
 | y::l,d,s,b=>qH x l d s _
theorem Ir{l:List Lw}{x:Lw}(h:l[k]?=some x)(d s:Nat)(b:List UInt8):eG (l.take (k+1)) d s b=if x.dev=d/\x.at_=s then x.b else eG (l.take k) d s b:=by
 rw[List.take_add_one,h];exact qH x _ d s b
def Bb(f:Nat->Nat)(Z d:Nat):List Value:=[.slice (some ⟨f d,0,none⟩) Z Z,.bool false,.int .u8 0,.int .i64 0,.int .i64 0]
def iP(f:Nat->Nat)(Z D:Nat):List Value:=(List.range D).flatMap (Bb f Z)
def dJ(F:Nat->List UInt8)(Z:Nat):List Value:=(List.range Z).flatMap fun s=>(F s).map vb
abbrev fR:TypeId:=143
abbrev gE:TypeId:=147
abbrev WrT:TypeId:=212
abbrev iQ:TypeId:=210
structure bX(w:World)(a dv:Nat)(dc:Nat)(lv:Value)(st:Int)(f:Nat->Nat)(F:Nat->Nat->List UInt8)(W:List Lw)(D Z:Nat):Prop where
 top:w.heap[a]?=some (.cells #[.slice (some ⟨dv,0,none⟩) D dc,lv,.int .i64 (-1),.bool false,.int .i64 st] fR (0,0))
 devs:w.ownsRow 0 gE 5 (.slice (some ⟨dv,0,none⟩) D dc) D (iP f Z D)
 firm:∀d,d<D->w.heap[f d]?=some (.cells (dJ (F d) Z).toArray iQ (0,0))
 inj:∀d e,d<D->e<D->f d=f e->d=e
 loose:w.ownsRow 0 WrT 258 lv W.length (dI W)
 wok:yP D Z W
 fok:∀d s,d<D->s<Z->(F d s).length=256
 bd:2≤D/\D≤8/\8≤Z/\Z≤4096
def dZ(a dv:Nat)(lv:Value)(f:Nat->Nat)(D:Nat)(k:Nat):Prop:=k=a\/k=dv\/lv.ownBlock=some k\/∃d,d<D/\k=f d
def bP(w:World)(a:Nat)(B:Nat->Prop)(D Z:Nat)(M:Nat->Nat->List UInt8)(nw:Nat):Prop:=
 ∃dv dc lv st f F W,bX w a dv dc lv st f F W D Z/\B=dZ a dv lv f D/\W.length=nw/\∀d s,d<D->s<Z->M d s=eG W d s (F d s)
theorem bX.keep{lv:Value}{W:List Lw}(h:bX w a dv dc lv st f F W D Z)(k:aA T w w')(b:∀i,T i->¬dZ a dv lv f D i):bX w' a dv dc lv st f F W D Z:=
 ⟨k.blk h.top fun t=>b _ t (.inl rfl),k.owns h.devs fun i c t=>b _ t (.inr (.inl (by cases c;rfl))),fun d g=>k.blk (h.firm d g) fun t=>b _ t (.inr (.inr (.inr ⟨d,g,rfl⟩))),h.inj,k.owns h.loose fun i c t=>b _ t (.inr (.inr (.inl c))),h.wok,h.fok,h.bd⟩
theorem bP.keep(h:bP w a B D Z M nw)(k:aA T w w')(j:∀i,T i->¬B i):bP w' a B D Z M nw:=by
 obtain⟨dv,dc,lv,st,f,F,W,b,rfl,c,g⟩:=h;exact⟨dv,dc,lv,st,f,F,W,b.keep k j,rfl,c,g⟩
theorem bP.keep0(h:bP w a B D Z M nw)(k:aA aB w w'):bP w' a B D Z M nw:=h.keep k fun _ h=>h.elim
theorem bP.lt(h:bP w a B D Z M nw)(g:B k):k<w.heap.size:=by
 obtain⟨dv,dc,lv,st,f,F,W,b,rfl,j,l⟩:=h;rcases g with rfl|rfl|g|⟨d,i,rfl⟩
 ·exact lt_of_block b.top
 ·obtain⟨cur,c⟩:=aL b.devs (k:=k) rfl
  exact lt_of_block c
 ·obtain⟨cur,c⟩:=aL b.loose g
  exact lt_of_block c
 ·exact lt_of_block (b.firm d i)
theorem bP.bd(h:bP w a B D Z M nw):2≤D/\D≤8/\8≤Z/\Z≤4096:=by
 obtain⟨dv,dc,lv,st,f,F,W,b,rfl,c,g⟩:=h;exact b.bd
theorem gT{α:Type}{c:α->List Value}:∀{l:List α}(h:∀x∈l,(c x).length=n){k:Nat}{x:α}(b:l[k]?=some x){j:Nat}{v:Value}(g:(c x)[j]?=some v),(l.flatMap c)[k*n+j]?=some v
 | [],_,k,x,b,_,_,_=>by simp at b
 | y::l,h,0,x,b,j,v,g=>by
   simp only[List.getElem?_cons_zero,Option.some.injEq] at b;subst b;rw[List.flatMap_cons,Nat.zero_mul,Nat.zero_add,List.getElem?_append_left (List.getElem?_eq_some_iff.1 g).1];exact g
 | y::l,h,k+1,x,b,j,v,g=>by
   rw[List.getElem?_cons_succ] at b;have i:=h y (List.mem_cons_self ..);rw[List.flatMap_cons,List.getElem?_append_right (by rw[i,Nat.succ_mul];omega),i,show (k+1)*n+j-n=k*n+j by rw[Nat.succ_mul];omega];exact gT (fun z m=>h z (List.mem_cons_of_mem _ m)) b g
theorem pM{α:Type}{c:α->List Value}:∀{l:List α}(b:∀x∈l,(c x).length=n),(l.flatMap c).length=l.length*n
 | [],_=>by simp
 | y::l,b=>by
   rw[List.flatMap_cons,List.length_append,b y (List.mem_cons_self ..),pM fun z g=>b z (List.mem_cons_of_mem _ g),List.length_cons,Nat.succ_mul];omega
theorem Pw{l:List Lw}(h:yP D Z l):(dI l).length=l.length*258:=pM fun x b=>mC (h x b).1
theorem jK(h:d<D):(List.range D)[d]?=some d:=by rw[List.getElem?_range h]
theorem bX.dev{lv:Value}{W:List Lw}(h:bX w a dv dc lv st f F W D Z)(p:d<D):w.rangeAt dv (d*5) (Bb f Z d):=fun j v b=>by
 obtain⟨r,u,i,q,y,z,A,l⟩:=Rd.of_owns h.devs;have t:=(List.getElem?_eq_some_iff.1 b).1;obtain⟨g,o,rfl,m⟩:=l (by rw[r];omega);cases q
 have:=m (d*5+j) v (gT (c:=Bb f Z) (fun x _=>rfl) (jK p) b)
 rwa [Nat.zero_add] at this
theorem bX.sec{lv:Value}{W:List Lw}(h:bX w a dv dc lv st f F W D Z)(b:d<D)(g:s<Z):w.rangeAt (f d) (s*256) ((F d s).map vb):=fun j v i=>by
 have:=gT (c:=fun s=>(F d s).map vb) (n:=256) (fun x l=>by rw[List.length_map];exact h.fok d x b (List.mem_range.1 l)) (jK g) i;exact aD (h.firm d b) (by rw[List.getElem?_toArray];exact this)
theorem bX.wr{lv:Value}{W:List Lw}(h:bX w a dv dc lv st f F W D Z){x:Lw}(l:W[k]?=some x):∃g b,lv=.slice (some ⟨g,0,none⟩) W.length b/\w.rangeAt g (k*258) (eE x):=by
 have t:=(List.getElem?_eq_some_iff.1 l).1;have u:=Rd.of_owns h.loose;rcases h.loose.2 with⟨-,h0⟩|⟨g,b,cur,rfl,-,-,-⟩
 ·omega
 ·refine⟨g,b,rfl,fun j v o=>?_⟩
  have m:=(List.getElem?_eq_some_iff.1 o).1;obtain⟨r,A,C,i,-,-,-,p⟩:=u;cases i
  obtain⟨E,H,i,q⟩:=p (by rw[r];omega);cases i
  have:=q (k*258+j) v (gT (c:=eE) (n:=258) (fun y z=>mC (h.wok y z).1) l o)
  rwa [Nat.zero_add] at this
theorem bX.lv{lv:Value}{W:List Lw}(h:bX w a dv dc lv st f F W D Z):∃p b,lv=.slice p W.length b:=by
 rcases h.loose.2 with⟨rfl,h0⟩|⟨g,b,cur,rfl,-,-,-⟩
 ·exact⟨_,_,by rw[h0]⟩
 ·exact⟨_,_,rfl⟩
def dK:List Value:=List.replicate 256 (.int .u8 0)
def gU:List Value:=.int .i64 0::.int .i64 0::dK
def aH:List Value:=aF (.slice none 0 0) zPt
def cQ:List Value:=.int .i64 0::(aH++aH++aH++aH)
def kO:List Value:=[.int .i64 0,.int .i64 0]
theorem Ms:Hid (∀w,(zeroValue 210).run prog w=.ok (.agg dK.toArray) w):=O fun w=>by kernel_rfl
theorem mZ:dK.length=256:=rfl
theorem B4:Hid (∀w,(zeroValue 212).run prog w=.ok (.agg gU.toArray) w):=O fun w=>by kernel_rfl
theorem jW:gU.length=258:=rfl
theorem bA:Hid (∀w,(zeroValue 27).run prog w=.ok (.agg aH.toArray) w):=O fun w=>by kernel_rfl
theorem aE:aH.length=35:=rfl
theorem iM:Hid (∀w,(zeroValue 98).run prog w=.ok (.agg cQ.toArray) w):=O fun w=>by kernel_rfl
theorem bK:cQ.length=141:=rfl
theorem xH:Hid (∀w,(zeroValue 82).run prog w=.ok (.agg kO.toArray) w):=O fun w=>by kernel_rfl
theorem mD:(prog.info? 210).map (·.size)=some 256:=by kernel_rfl
theorem lG:(prog.info? 212).map (·.size)=some 258:=by kernel_rfl
theorem cC:(prog.info? 27).map (·.size)=some 35:=by kernel_rfl
theorem szP9 {l:List Value}(h:l.length=35):(prog.info? 27).map (·.size)=some l.length:=by rw[h];exact cC
theorem dA:(prog.info? 98).map (·.size)=some 141:=by kernel_rfl
theorem jS:(prog.info? 82).map (·.size)=some 2:=by kernel_rfl
theorem xI:(prog.info? 25).map (·.size)=some 32:=by kernel_rfl
theorem iY:(prog.info? 45).map (·.size)=some 69:=by kernel_rfl
theorem qN:prog.underlying 212=some (.struct (prog.fieldsOf 212)):=by kernel_rfl
theorem Qd:Hid (∀w,(zeroValue 3).run prog w=.ok (.int .i64 0) w):=O fun w=>by kernel_rfl
theorem lH:Hid (∀w,(zeroValue 49).run prog w=.ok (.int .i64 0) w):=O fun w=>by kernel_rfl
theorem Px:Hid (∀w,(zeroValue 109).run prog w=.ok (.slice none 0 0) w):=O fun w=>by kernel_rfl
theorem Py:Hid (∀w,(zeroValue 23).run prog w=.ok (.slice none 0 0) w):=O fun w=>by kernel_rfl
theorem uW(x:Lw):∀u∈eE x,u.oneCell'=true:=by
 intro u b;unfold eE at b;rcases List.mem_cons.1 b with rfl|b
 ·rfl
 rcases List.mem_cons.1 b with rfl|b
 ·rfl
 exact bT _ u b
variable {w:World}{a dv dc D Z:Nat}{lv:Value}{st:Int}{f:Nat->Nat}{F:Nat->Nat->List UInt8}{W:List Lw}
theorem DN(h:bX w a dv dc lv st f F W D Z):Calls prog 114 #[.pointer a] w (aK w (.bool false)):=by
 have c0:=aD (i:=0) h.top rfl;have b:=h.bd;have c:((D:Int) == 0)=false:=by rw[beq_eq_false_iff_ne];omega
 clear h b;go_in;go_wp2;go_ret;exact aK.of (by first|exact aA.refl _ _|exact HK.out)
theorem lI(w:World)(b:Bool)(e:Int):Calls prog 147 #[.bool b,.int .i64 e] w (aK w (.int .i64 (if b then 0 else e))):=by
 cases b
 all_goals
  go_in;go_wp2;go_ret;exact aK.of (aA.refl _ _)
theorem Mt(h:bX w a dv dc lv st f F W D Z)(d:Int):Calls prog 118 #[.pointer a,.int .i64 d] w (aK w (.bool (decide (0≤d) && decide (d<(D:Int))))):=by
 have c0:=aD (i:=0) h.top rfl;clear h
 by_cases j:0≤d
 ·have c:decide (0≤d)=true:=by simpa using j
  rw[c,Bool.true_and];obtain⟨bb,g⟩:=zX9 (decide (d<(D:Int)))
  rw[g];go_in;go_wp2;go_ret;exact aK.of (aA.refl _ _)
 ·have c:decide (0≤d)=false:=by simpa using j
  rw[c,Bool.false_and];go_in;go_wp2;go_ret;exact aK.of (aA.refl _ _)
theorem Qe(h:bX w a dv dc lv st f F W D Z):Calls prog 76 #[.pointer a] w (aK w (.int .i64 (D:Int))):=by
 have j:=O (DN h);have c0:=aD (i:=0) h.top rfl;have c:=O h.top;clear h c0;go_in;go_wp2_with fail;refine j.mono ?_;rintro e l ⟨rfl,b⟩;have g:=O b;have c0:=aD (i:=0) (b.blk c.out id) rfl;clear b;go_wp2;go_ret;exact aK.of (by first|exact aA.refl _ _|exact g.out)
theorem DO(h:bX w a dv dc lv st f F W D Z):Calls prog 120 #[.pointer a] w (aK w (.int .i64 (Z:Int))):=by
 have j:=O (DN h);have c:=O h;have m:=h.bd;clear h;go_in;go_wp2_with fail;refine j.mono ?_;rintro e l ⟨rfl,b⟩;have g:=O b;have c0:=aD (i:=0) (b.blk c.top id) rfl;have c1:l.cell? ⟨dv,0,none⟩=some (.slice (some ⟨f 0,0,none⟩) Z Z):=b.cell (by have:=c.dev (d:=0) (by omega) 0 _ rfl;simpa using this) id;clear b;go_wp2;go_ret;exact aK.of (by first|exact aA.refl _ _|exact g.out)
theorem DP(h:bX w a dv dc lv st f F W D Z):Calls prog 131 #[.pointer a] w (aK w (.int .i64 0)):=by
 have c:=O (DN h);clear h;go_in;go_wp2_with fail;refine c.mono ?_;rintro e j ⟨rfl,g⟩;go_wp2_with fail;refine(lI j true 1).mono ?_;rintro e l ⟨rfl,b⟩;have i:=O (g.trans b);clear g b c;go_wp2;go_ret;exact aK.of i.out
theorem DQ(h:bX w a dv dc lv st f F W D Z):Calls prog 132 #[.pointer a] w (aK w (.int .i64 0)):=by
 have c3:=aD (i:=3) h.top rfl;clear h;go_in;go_wp2_with fail;refine(lI w true 10).mono ?_;rintro e g ⟨rfl,b⟩;have c:=O b;clear b;go_wp2;go_ret;exact aK.of c.out
variable {w:World}{a dv dc D Z:Nat}{lv:Value}{st:Int}{f:Nat->Nat}{F:Nat->Nat->List UInt8}{W:List Lw}
theorem Ex(w:World)(x y:Int):(Instr.build 265 #[(0,.int .i64 x),(1,.int .i64 y)]).run prog w=.ok (.agg #[.int .i64 x,.int .i64 y]) w:=by kernel_rfl
def Bc(I:Nat->World->Prop)(c:Nat->Int)(dev:Int)(n m:Nat)(e:Ending)(w':World):Prop:=
 (m=n->e=.returned .nilIface)/\(m<n->e=.returned (.iface 265 (.agg #[.int .i64 (c m),.int .i64 dev])))/\I (min n (m+1)) w'
theorem qI(w:World)(dev:Int)(g n m:Nat)(fs:Array Value)(c:Nat->Int)(I:Nat->World->Prop)(Y:n≤100)(X:m≤n)(R:∀k wr,I k wr->wr.heap[g]?=some (.cells fs 113 (0,0)))
 (H:∀k,k<n->fs[k]?=some (fs.getD k .nilFunc)) (h0:I 0 w) (p:∀k,k<m->c k=0) (E:m<n->c m≠0)
 (S:∀k,k<n->k≤m->∃G x,(fs.getD k .nilFunc=.func (.func G) #[] x\/fs.getD k .nilFunc=.func (.func G) x #[])/\(∀w,Sem.run prog (callFunc G x) w=.ok (.enter G x) w)/\∀wr,I k wr->Calls prog G x wr fun e w'=>e=.returned (.int .i64 (c k))/\I (k+1) w') :
 Calls prog 130 #[.int .i64 dev,.slice g n n] w (Bc I c dev n m):=by
 have Q:=O h0;have U:=O S;have o:=O p;have C:=O E;clear h0 S p E;go_in;go_wp2_with fail
 go_loopw [10] (fun i wr=>∃k:Nat,k≤m/\i=.int .i64 k/\Hid (I k wr)) (fun i _=>n-(intOf i).toNat)
 case atStart=>exact⟨0,by omega,rfl,Q⟩
 case round =>
  clear Q;obtain⟨k,V,rfl,hR⟩:=hrel
  by_cases j:k<n
  ·obtain⟨G,x,y,h,K⟩:=U.out k j V
   rcases y with y|y
   ·skip
    have q:wr.cell? ⟨g,k,none⟩=some (.func (.func G) #[] x):=by have:=aD (R k wr hR.out) (H k j);rwa [y] at this
    have r:(0:Int)≤(k:Int):=by omega
    have t:(k:Int)<(n:Int):=by omega
    clear y;go_wp2_with fail;refine(K wr hR.out).mono ?_;rintro e P ⟨rfl,A⟩;have b:=O A;clear A q h K
    by_cases u:k<m
    ·have p:=o.out k u
     rw[p];clear p;go_wp2
     go_roundw
     case rel=>exact⟨k+1,by omega,by go_num,b⟩
     case measure=>simp[intOf];omega
    ·obtain rfl:m=k:=by omega
     have l:=C.out j;have J:(c m != 0)=true:=by simpa using l
     have z:Hid (Bc I c dev n m (.returned (.iface 265 (.agg #[.int .i64 (c m),.int .i64 dev]))) P):=O ⟨fun e=>absurd e (by omega),fun _=>rfl,by rw[Nat.min_eq_right (by omega)];exact b.out⟩;have L:=fun w=>Ex w (c m) dev
     clear l r t;go_wp2;go_ret;exact z.out
   ·skip
    have q:wr.cell? ⟨g,k,none⟩=some (.func (.func G) x #[]):=by have:=aD (R k wr hR.out) (H k j);rwa [y] at this
    have r:(0:Int)≤(k:Int):=by omega
    have t:(k:Int)<(n:Int):=by omega
    clear y;go_wp2_with fail;refine(K wr hR.out).mono ?_;rintro e P ⟨rfl,A⟩;have b:=O A;clear A q h K
    by_cases u:k<m
    ·have p:=o.out k u
     rw[p];clear p;go_wp2
     go_roundw
     case rel=>exact⟨k+1,by omega,by go_num,b⟩
     case measure=>simp[intOf];omega
    ·obtain rfl:m=k:=by omega
     have l:=C.out j;have J:(c m != 0)=true:=by simpa using l
     have z:Hid (Bc I c dev n m (.returned (.iface 265 (.agg #[.int .i64 (c m),.int .i64 dev]))) P):=O ⟨fun e=>absurd e (by omega),fun _=>rfl,by rw[Nat.min_eq_right (by omega)];exact b.out⟩;have L:=fun w=>Ex w (c m) dev
     clear l r t;go_wp2;go_ret;exact z.out
  ·obtain rfl:n=k:=by omega
   have N:m=n:=by omega
   have z:Hid (Bc I c dev n m (.returned .nilIface) wr):=O ⟨fun _=>rfl,fun e=>absurd e (by omega),by rw[Nat.min_eq_left (by omega)];exact hR.out⟩;clear N hR;go_wp2;go_ret;exact z.out
variable {w:World}{a dv dc D Z:Nat}{lv:Value}{st:Int}{f:Nat->Nat}{F:Nat->Nat->List UInt8}{W:List Lw}
def oC(d s:Int)(D Z:Nat):Bool:=(decide (0≤d) && decide (d<(D:Int))) && decide (0≤s) && decide (s<(Z:Int))
theorem Pz(h:bX w a dv dc lv st f F W D Z)(d s:Int):Calls prog 200 #[.pointer a,.int .i64 d,.int .i64 s] w (aK w (.bool (oC d s D Z))):=by
 have i:=O (Mt h d);have o:=O h;obtain⟨r,g⟩:=zX9 (oC d s D Z)
 obtain⟨b1,l⟩:=zX9 ((decide (0≤d) && decide (d<(D:Int))))
 rw[g];unfold oC at g;rw[l] at i g;clear l h;cases b1
 ·obtain rfl:r=false:=by rw[←g];rfl
  clear g;go_in;go_wp2_with fail;refine i.mono ?_;rintro e u ⟨rfl,c⟩;have j:=O c;have p:=O (DO (o.keep c fun _ h=>h.elim));clear c i;go_wp2;go_ret;exact aK.of j.out
 ·by_cases t:0≤s
  ·obtain⟨x,q⟩:=zX9 (decide (s<(Z:Int)))
   obtain rfl:r=x:=by rw[←g,←q,decide_eq_true t];rfl
   clear g;go_in;go_wp2_with fail;refine i.mono ?_;rintro e u ⟨rfl,c⟩;have j:=O c;have p:=O (DO (o.keep c fun _ h=>h.elim));clear c i;go_wp2_with fail;refine p.mono ?_;rintro e y ⟨rfl,m⟩;replace j:=O (j.trans m);clear m;go_wp2;go_ret;exact aK.of j.out
  ·obtain rfl:r=false:=by rw[←g,decide_eq_false t];rfl
   clear g;go_in;go_wp2_with fail;refine i.mono ?_;rintro e u ⟨rfl,c⟩;have j:=O c;have p:=O (DO (o.keep c fun _ h=>h.elim));clear c i;go_wp2;go_ret;exact aK.of j.out
theorem aup(h:bX w a dv dc lv st f F W D Z)(d:Int):Calls prog 82 #[.pointer a,.int .i64 d] w (aK w (.bool (decide (0≤d) && decide (d<(D:Int))))):=by
 have t:=O (DN h);have x:=O h;clear h;obtain⟨b1,l⟩:=zX9 ((decide (0≤d) && decide (d<(D:Int))))
 have r:=O l;rw[l];clear l;go_in;go_wp2_with fail;refine t.mono ?_;rintro e H ⟨rfl,q⟩;have y:=O q;have g:=x.keep q fun _ h=>h.elim
 have c:=O g;have c3:=aD (i:=3) g.top rfl;clear q t g;go_wp2_with fail;refine(Mt c.out d).mono ?_;rintro e E ⟨rfl,m⟩;rw[r.out];have o:=O (y.trans m);have j:=c.keep m fun _ h=>h.elim
 have p:=O j;have c0:=aD (i:=0) j.top rfl;clear m c3 c j;cases b1
 ·go_wp2
  go_ret;exact aK.of o.out
 ·have u:=r.out
  rw[Bool.and_eq_true,decide_eq_true_eq,decide_eq_true_eq] at u;obtain⟨d,rfl⟩:∃n:Nat,d=(n:Int):=⟨d.toNat,by omega⟩
  have z:d<D:=by omega
  have C:(d:Int)<(D:Int):=by omega
  have A:(0:Int)≤(d:Int):=by omega
  have c1:E.cell? ⟨dv,d*5+1,none⟩=some (.bool false):=p.dev z 1 _ rfl;clear u;go_wp2;go_ret;exact aK.of o.out
def mE(w:World)(G:Nat)(h:List (Value×TypeId))(e:Ending)(w':World):Prop:=
 ∃g:List Nat,e=.returned (.func (.func G) #[] (g.map fun b=>.pointer (some ⟨b,0,none⟩)).toArray)/\g.length=h.length/\(∀(i b:Nat) (c:Value×TypeId),g[i]?=some b->h[i]?=some c->w'.heap[b]?=some (.cells #[c.1] c.2 (0,0)))/\aA aB w w'/\∀b∈g,w.heap.size≤b
theorem xJ(w:World)(a:Nat)(d s:Int):Calls prog 148 #[.pointer a,.int .i64 d,.int .i64 s] w (mE w 199 [(Value.pointer a,40),(.int .i64 d,3),(.int .i64 s,3)]):=by
 have g:=lN w;go_in
 go_wp2_with ((with_reducible show WL _ _);refine bxL g 40 (.tmp 0) (#[.pointer a]) ?_)
 intro m q l g;clear l
 go_wp2_with ((with_reducible show WL _ _);refine bxL g 3 (.tmp 1) (#[.int .i64 d]) ?_)
 intro o r l g;clear l
 go_wp2_with ((with_reducible show WL _ _);refine bxL g 3 (.tmp 2) (#[.int .i64 s]) ?_)
 intro p t l g;clear l;go_wp2;go_ret;refine⟨[m,o,p],rfl,rfl,?_,g.keep,?_⟩
 ·intro i b c h j
  match i,h,j with
  | 0,h,j=>cases h;cases j;exact g.b 2
  | 1,h,j=>cases h;cases j;exact g.b 1
  | 2,h,j=>cases h;cases j;exact g.b 0
  | i+3,h,_=>simp at h
 ·intro b h
  simp only[List.mem_cons,List.not_mem_nil,or_false] at h;rcases h with rfl|rfl|rfl
  ·exact(g.lt 2).1
  ·exact(g.lt 1).1
  ·exact(g.lt 0).1
theorem qJ(w:World)(a:Nat)(d:Int):Calls prog 134 #[.pointer a,.int .i64 d] w (mE w 188 [(Value.pointer a,40),(.int .i64 d,3)]):=by
 have h:=lN w;go_in
 go_wp2_with ((with_reducible show WL _ _);refine bxL h 40 (.tmp 0) (#[.pointer a]) ?_)
 intro m p l h;clear l
 go_wp2_with ((with_reducible show WL _ _);refine bxL h 3 (.tmp 1) (#[.int .i64 d]) ?_)
 intro o q l h;clear l;go_wp2;go_ret;refine⟨[m,o],rfl,rfl,?_,h.keep,?_⟩
 ·intro i b c g j
  match i,g,j with
  | 0,g,j=>cases g;cases j;exact h.b 1
  | 1,g,j=>cases g;cases j;exact h.b 0
  | i+2,g,_=>simp at g
 ·intro b g
  simp only[List.mem_cons,List.not_mem_nil,or_false] at g;rcases g with rfl|rfl
  ·exact(h.lt 1).1
  ·exact(h.lt 0).1
theorem Is(w:World)(a:Nat)(d:Int):Calls prog 133 #[.pointer a,.int .i64 d] w (mE w 187 [(Value.pointer a,40),(.int .i64 d,3)]):=by
 have h:=lN w;go_in
 go_wp2_with ((with_reducible show WL _ _);refine bxL h 40 (.tmp 0) (#[.pointer a]) ?_)
 intro m p l h;clear l
 go_wp2_with ((with_reducible show WL _ _);refine bxL h 3 (.tmp 1) (#[.int .i64 d]) ?_)
 intro o q l h;clear l;go_wp2;go_ret;refine⟨[m,o],rfl,rfl,?_,h.keep,?_⟩
 ·intro i b c g j
  match i,g,j with
  | 0,g,j=>cases g;cases j;exact h.b 1
  | 1,g,j=>cases g;cases j;exact h.b 0
  | i+2,g,_=>simp at g
 ·intro b g
  simp only[List.mem_cons,List.not_mem_nil,or_false] at g;rcases g with rfl|rfl
  ·exact(h.lt 1).1
  ·exact(h.lt 0).1
theorem uX(h:bX w a dv dc lv st f F W D Z)(d s:Int)(q r t:Nat)(j:w.heap[q]?=some (.cells #[.pointer a] 40 (0,0)))(l:w.heap[r]?=some (.cells #[.int .i64 d] 3 (0,0)))(m:w.heap[t]?=some (.cells #[.int .i64 s] 3 (0,0))):Calls prog 199 #[.pointer q,.pointer r,.pointer t] w (aK w (.int .i64 (if oC d s D Z then 0 else 5))):=by
 have o:=O (Pz h d s);have x:=aD (i:=0) j rfl;have y:=aD (i:=0) l rfl;have z:=aD (i:=0) m rfl;obtain⟨bb,c⟩:=zX9 (oC d s D Z)
 rw[c] at o ⊢;clear h j l m c;cases bb
 all_goals
  go_in;go_wp2_with fail;refine o.mono ?_;rintro e A ⟨rfl,p⟩;go_wp2_with fail;refine(lI A _ 5).mono ?_;rintro e C ⟨rfl,g⟩;have u:=O (p.trans g);clear p g o x y z;go_wp2;go_ret;exact aK.of u.out
theorem F4(h:bX w a dv dc lv st f F W D Z)(d:Int)(p q:Nat)(j:w.heap[p]?=some (.cells #[.pointer a] 40 (0,0)))(l:w.heap[q]?=some (.cells #[.int .i64 d] 3 (0,0))):Calls prog 187 #[.pointer p,.pointer q] w (aK w (.int .i64 (if (decide (0≤d) && decide (d<(D:Int))) then 0 else 5))):=by
 have m:=O (Mt h d);have t:=aD (i:=0) j rfl;have u:=aD (i:=0) l rfl;obtain⟨bb,c⟩:=zX9 ((decide (0≤d) && decide (d<(D:Int))))
 rw[c] at m ⊢;clear h j l c;cases bb
 all_goals
  go_in;go_wp2_with fail;refine m.mono ?_;rintro e x ⟨rfl,o⟩;go_wp2_with fail;refine(lI x _ 5).mono ?_;rintro e y ⟨rfl,g⟩;have r:=O (o.trans g);clear o g m t u;go_wp2;go_ret;exact aK.of r.out
theorem sW(h:bX w a dv dc lv st f F W D Z)(L:d<D)(J K:Nat)(E:w.heap[J]?=some (.cells #[.pointer a] 40 (0,0)))(H:w.heap[K]?=some (.cells #[.int .i64 d] 3 (0,0))):Calls prog 188 #[.pointer J,.pointer K] w (aK w (.int .i64 0)):=by
 have u:=lN w;have l:=O E;have m:=O H;have x:=O h.top;have z:=O (h.dev L);clear E H h;have P:(d:Int)<(D:Int):=by omega
 have N:(0:Int)≤(d:Int):=by omega
 go_in;go_wp2_with fail;refine dwA aB (by kernel_rfl) ?_;intro Q S g C o j;replace u:=kL u j;replace l:=O (j.blk l.out id);replace m:=O (j.blk m.out id);replace x:=O (j.blk x.out id);replace z:=O (j.rangeAt z.out);clear j;have I:=u;have p:=l;have q:=m;have y:=x;have A:=z;refine tnd 0 (.pointer a) rfl (.inl ⟨by rfl,fun w' b=>by have c:=(g w' b).cell (aD (i:=0) p.out rfl) id;go_simp⟩) o ?_;refine tnb 1 (.pointer a) rfl o ?_;refine tnb 2 (.pointer a) rfl o ?_;refine tnd 3 (.slice dv D dc) rfl (.inl ⟨by rfl,fun w' b=>by have c:=(g w' b).cell (aD (i:=0) y.out rfl) id;go_simp⟩) o ?_;refine tnd 4 (.int .i64 (d:Int)) rfl (.inl ⟨by rfl,fun w' b=>by have c:=(g w' b).cell (aD (i:=0) q.out rfl) id;go_simp⟩) o ?_;refine tnb 5 (.pointer (some ⟨dv,d*5,none⟩)) rfl o ?_;refine tnb 6 (.pointer (some ⟨dv,d*5+1,none⟩)) rfl o ?_;refine tnd 7 (.bool false) rfl (.inl ⟨by rfl,fun w' b=>by have c:=(g w' b).cell (show World.cell? _ ⟨dv,d*5+1,none⟩=some (.bool false) from A.out 1 _ rfl) id;go_simp⟩) o ?_;refine tnb 8 (.bool true) rfl o ?_;refine wA9 9 ?_;go_wp2_with fail;refine(lI Q true 14).mono ?_;rintro e R ⟨rfl,t⟩;have r:=C.out _ ((g _ o).trans t);replace u:=kL u t;replace l:=O (t.blk l.out id);replace m:=O (t.blk m.out id);replace x:=O (t.blk x.out id);replace z:=O (t.rangeAt z.out);clear o t;go_wp2_with fail;refine⟨r,?_⟩;refine tna 10 (.int .i64 0) rfl r ?_;refine wpAnyH_done (by kernel_rfl) ?_ _;clear r g C I p q y A;go_wp2;go_ret;exact aK.of u.keep
theorem J9(w:World)(p n c:Nat)(q:Option Addr)(l:w.heap[p]?=some (.cells #[.slice q n c] 109 (0,0))):Calls prog 146 #[.pointer p] w (aK w (.int .i64 (if n=256 then 0 else 2))):=by
 have r:=aD (i:=0) l rfl;obtain⟨bb,g⟩:=zX9 (decide (n=256))
 have o:((n:Int) == 256)=bb:=by rw[←g,Bool.eq_iff_iff,beq_iff_eq,decide_eq_true_eq];omega
 have j:(if n=256 then (0:Int) else 2)=if bb then 0 else 2:=by rw[←g];simp
 rw[j];clear l g j;cases bb
 all_goals
  go_in;go_wp2_with fail;refine(lI w _ 2).mono ?_;rintro e t ⟨rfl,h⟩;have m:=O h;clear h r o;go_wp2;go_ret;exact aK.of m.out
theorem CC(h:bX w a dv dc lv st f F W D Z)(J:d<D)(H I:Nat)(t:w.heap[H]?=some (.cells #[.pointer a] 40 (0,0)))(u:w.heap[I]?=some (.cells #[.int .i64 d] 3 (0,0))):Calls prog 166 #[.pointer H,.pointer I] w (aK w (.int .i64 0)):=by
 have y:=lN w;have p:=O t;have q:=O u;have z:=O h.top;have x:=O (h.dev J);clear t u h;have L:(d:Int)<(D:Int):=by omega
 have K:(0:Int)≤(d:Int):=by omega
 go_in;go_wp2_with fail;refine dwA aB (by kernel_rfl) ?_;intro N S j E o b;replace y:=kL y b;replace p:=O (b.blk p.out id);replace q:=O (b.blk q.out id);replace z:=O (b.blk z.out id);replace x:=O (b.rangeAt x.out);clear b;have C:=y;have l:=p;have m:=q;have r:=z;have A:=x;refine tnd 0 (.pointer a) rfl (.inl ⟨by rfl,fun w' g=>by have c:=(j w' g).cell (aD (i:=0) l.out rfl) id;go_simp⟩) o ?_;refine tnb 1 (.pointer a) rfl o ?_;refine tnb 2 (.pointer a) rfl o ?_;refine tnd 3 (.slice dv D dc) rfl (.inl ⟨by rfl,fun w' g=>by have c:=(j w' g).cell (aD (i:=0) r.out rfl) id;go_simp⟩) o ?_;refine tnd 4 (.int .i64 (d:Int)) rfl (.inl ⟨by rfl,fun w' g=>by have c:=(j w' g).cell (aD (i:=0) m.out rfl) id;go_simp⟩) o ?_;refine tnb 5 (.pointer (some ⟨dv,d*5,none⟩)) rfl o ?_;refine tna 6 (.pointer (some ⟨dv,d*5,none⟩)) rfl o ?_;refine wpAnyH_done (by kernel_rfl) ?_ _;clear o j E C l m r A;have c4:N.cell? ⟨dv,d*5+4,none⟩=some (.int .i64 0):=x.out 4 _ rfl;go_wp2;go_ret;exact aK.of y.keep
variable {w:World}{a dv dc D Z:Nat}{lv:Value}{st:Int}{f:Nat->Nat}{F:Nat->Nat->List UInt8}{W:List Lw}
theorem Ey{b:Nat}{x:Lw}(h:w.heap[b]?=some (.cells (eE x).toArray WrT (0,0))):w.rangeAt b 2 (x.b.map vb):=fun j v c=>by
 have:=aC h (2+j) v (by unfold eE;rw[Nat.add_comm 2 j];exact c)
 rwa [Nat.zero_add] at this
theorem uY:∀{l:List Lw}{b:List UInt8},yP D Z l->b.length=256->(eG l d s b).length=256
 | [],b,_,c=>c
 | y::l,b,g,c=>by
   refine uY (l:=l) (fun z h=>g z (List.mem_cons_of_mem _ h)) ?_;split
   ·exact(g y (List.mem_cons_self ..)).1
   ·exact c
def Mu(w:World)(b:List UInt8)(e:Ending)(w':World):Prop:=∃v,e=.returned v/\w'.ownsRow w.heap.size 5 1 v 256 (b.map vb)/\aA aB w w'
theorem CN(h:bX w a dv dc lv st f F W D Z)(hd:d<D)(hs:s<Z):Calls prog 167 #[.pointer a,.int .i64 (d:Int),.int .i64 (s:Int)] w (Mu w (eG W d s (F d s))):=by
 obtain⟨p,qh,rfl⟩:=h.lv;have q:=lN w;have HH:=O h;have K:=O h.top;have HD:=O (h.dev hd);have R:=O (h.sec hd hs);have qb:W.length≤maxLen:=by obtain⟨_,a',c',h1,h2,h3,-⟩:=Rd.of_owns h.loose;omega
 unfold maxLen at qb;have qq:(d:Int)<(D:Int):=by omega
 have qp:(0:Int)≤(d:Int):=by omega
 have qu:(s:Int)<(Z:Int):=by omega
 have qt:(0:Int)≤(s:Int):=by omega
 have qm:=O h.bd;have H:=O (h.fok d s hd hs);obtain⟨b0,l⟩:=zX9 ((F d s).map vb)
 have qc:=O l;have r:b0.length=256:=by rw[←l,List.length_map];exact H.out
 have HO:Hid (∀u∈b0,u.oneCell'=true):=O (by rw[←l];exact bT _);rw[l] at R;obtain⟨n,hn⟩:=zX9 W.length
 have HN:=O hn;rw[hn] at qb K;clear h l hd hs hn;go_in;have c1:w.cell? ⟨a,0,none⟩=some (.slice dv D dc):=(aD (i:=0) K.out rfl)
 have c2:w.cell? ⟨dv,d*5,none⟩=some (.slice (some ⟨f d,0,none⟩) Z Z):=(HD 0 _ rfl)
 go_wp2_with ((with_reducible show WL _ _);first
  | refine wpList_load_mid rfl 210 (.tmp 19) rfl (f d) (s*256) rfl b0 _ R.out underlying210 rfl (by rw[r];exact mD) ?_
  | refine al 210 (.agg dK.toArray) (dK.toArray) Ms ?_)
 clear c1 c2;intro S w1 c t j
 go_wp2_with ((with_reducible show WL _ _);refine sta 210 (.tmp 7) (.tmp 20) S 0 b0 j (by first|decide|(rw[List.size_toArray,r];exact Nat.le_refl _)|simp[r,mZ]) (by rw[r];exact mD) HO.out ?_)
 intro w2 o A;rw[aI _ _ (by first|rfl|(rw[List.size_toArray,r];rfl)|simp[r,mZ])] at A;replace o:=tX t o (fun i hi e=>by omega);replace q:=lW q c o A;replace K:=O (o.blk K.out id);replace HD:=O (o.rangeAt HD.out);replace R:=O (o.rangeAt R.out);clear c o A t j;have c1:w2.cell? ⟨a,1,none⟩=some (.slice p n qh):=(aD (i:=1) K.out rfl)
 go_wp2_with fail;clear c1
 go_loopw [26] (fun i wr=>∃k:Nat,k≤n/\i=.int .i64 k/\Hid (Loc aB aB w wr [(S,((eG (W.take k) d s (F d s)).map vb).toArray,iQ)])) (fun i _=>n-(intOf i).toNat)
 case atStart=>exact⟨0,by omega,rfl,by rw[List.take_zero];show Hid (Loc _ _ _ _ [(_,((F d s).map vb).toArray,_)]);rw[qc.out];exact q⟩
 case round =>
  clear q R K HD;obtain⟨k,o,rfl,hR⟩:=hrel
  by_cases qj:k<n
  ·obtain⟨x,hx⟩:∃x,W[k]?=some x:=⟨W[k]'(by rw[HN.out];exact qj),List.getElem?_eq_getElem _⟩
   have J:=HH.wok x (List.mem_of_getElem? hx);obtain⟨g,U,hv,V⟩:=HH.wr hx;cases hv
   have HX:=O (hR.out.keep.rangeAt V);have qn:=O hx;have q:=hR;have z:=mC J.1;have C:(x.b.map vb).length=256:=by rw[List.length_map];exact J.1
   obtain⟨bk,m⟩:=zX9 ((eG (W.take k) d s (F d s)).map vb)
   have N:=O m;have X:bk.length=256:=by rw[←m,List.length_map];exact uY (fun y hy=>HH.wok y (List.mem_of_mem_take hy)) H.out
   have HO:Hid (∀u∈bk,u.oneCell'=true):=O (by rw[←m];exact bT _);rw[m] at q;have t:(0:Int)≤(k:Int):=by omega
   have qr:(k:Int)<(n:Int):=by omega
   have HT:=O (Ir hx d s (F d s));clear hR m V hx J
   go_wp2_with ((with_reducible show WL _ _);first
    | refine wpList_load_mid rfl 212 (.tmp 28) rfl g (k*258) rfl (eE x) _ HX.out qN rfl (by rw[z];exact lG) ?_
    | refine al 212 (.agg gU.toArray) (gU.toArray) B4 ?_)
   intro b9 w3 c t j
   go_wp2_with ((with_reducible show WL _ _);refine sta 212 (.tmp 9) (.tmp 29) b9 0 (eE x) j (by first|decide|(rw[List.size_toArray,z];exact Nat.le_refl _)|simp[z,jW]) (by rw[z];exact lG) (uW x) ?_)
   intro w4 o A;rw[aI _ _ (by first|rfl|(rw[List.size_toArray,z];rfl)|simp[z,jW])] at A;replace o:=tX t o (fun i hi e=>by omega);replace q:=lW q c o A;replace HX:=O (o.rangeAt HX.out);clear c o A t j;have L:=O (q.b 0);have c1:w4.cell? ⟨b9,0,none⟩=some (.int .i64 (x.dev:Int)):=aD (i:=0) L.out (by rw[List.getElem?_toArray];rfl);have c2:w4.cell? ⟨b9,1,none⟩=some (.int .i64 (x.at_:Int)):=aD (i:=1) L.out (by rw[List.getElem?_toArray];rfl);have E:=O (Ey L.out)
   by_cases h1:x.dev=d
   ·have e1:((x.dev:Int) == (d:Int))=true:=by rw[beq_iff_eq];omega
    by_cases h2:x.at_=s
    ·have e2:((x.at_:Int) == (s:Int))=true:=by rw[beq_iff_eq];omega
     clear L
     go_wp2_with ((with_reducible show WL _ _);first
      | refine wpList_load_mid rfl 210 (.tmp 40) rfl b9 2 rfl (x.b.map vb) _ E.out underlying210 rfl (by rw[C];exact mD) ?_
      | refine sta 210 (.tmp 7) (.tmp 41) S 0 (x.b.map vb) (q.b 1) (by first|decide|(rw[C];exact Nat.le_refl _)|simp[C,X]) (by rw[C];exact mD) (bT _) ?_)
     intro w5 o A;rw[aI _ _ (by first|rfl|simp[C,X])] at A;replace q:=O (q.set 1 o A);clear o A;clear c1 c2 E;go_wp2
     go_roundw
     case rel=>exact⟨k+1,by omega,by go_num,by rw[HT.out,if_pos ⟨h1,h2⟩];exact O q.tail⟩
     case measure=>simp[intOf];omega
    ·have e2:((x.at_:Int) == (s:Int))=false:=by rw[beq_eq_false_iff_ne];omega
     clear L E;go_wp2
     go_roundw
     case rel=>exact⟨k+1,by omega,by go_num,by rw[HT.out,if_neg (fun e=>h2 e.2),N.out];exact O q.tail⟩
     case measure=>simp[intOf];omega
   ·have e1:((x.dev:Int) == (d:Int))=false:=by rw[beq_eq_false_iff_ne];omega
    clear L E;go_wp2
    go_roundw
    case rel=>exact⟨k+1,by omega,by go_num,by rw[HT.out,if_neg (fun e=>h1 e.1),N.out];exact O q.tail⟩
    case measure=>simp[intOf];omega
  ·obtain rfl:n=k:=by omega
   rw[List.take_of_length_le (by rw[HN.out];exact Nat.le_refl _)] at hR;have Y:=hR.out.b 0;have hl:=uY (d:=d) (s:=s) HH.wok H.out;have Q:Hid (Rd wr 1 (.slice S 256 256) 256 ((eG W d s (F d s)).map vb)):=O (eQ (n:=256) (size:=1) Y (by rw[List.length_map,hl]) (by unfold maxLen;omega));have P:=O hR.out.keep;obtain⟨bs,c⟩:=zX9 ((eG W d s (F d s)).map vb)
   have qo:bs.length=256:=by rw[←c,List.length_map,hl]
   have qf:Hid (∀u∈bs,u.oneCell'=true):=O (by rw[←c];exact bT _);rw[c] at Q;have qd:=O c;clear hR Y hl c
   go_wp2_with (at_builtin;refine aP rfl (.const (.slice none 0 0)) (.tmp 43) 109 rfl wr.heap.size 5 (.int .u8 0) 1 1 underlying109 gL rfl (by omega) (.slice none 0 0) 0 [] rfl (World.ownsRow_nil _ _ _ _) (.slice S 256 256) 256 bs rfl Q.out qf.out (by unfold maxLen;omega) (by omega) (Nat.le_refl _) ?_)
   intro v2 w3 I qa qk qi;have qe:=O (P.trans (qa.mono (T:=aB) fun k _ e=>by cases e));obtain⟨g',U,rfl⟩:=ownsRow_succ I;have qg:=O I;have ql:=P.size;clear I qa qk qi;go_wp2;go_ret;exact⟨_,rfl,by rw[qd.out];exact aW qg.out ql,qe.out⟩
variable {w:World}{a dv dc D Z:Nat}{lv:Value}{st:Int}{f:Nat->Nat}{F:Nat->Nat->List UInt8}{W:List Lw}
theorem mE.three{c2:Value×TypeId}(h:mE w G [c0,c1,c2] e w'):∃b c g,e=.returned (.func (.func G) #[] #[.pointer (some ⟨b,0,none⟩),.pointer (some ⟨c,0,none⟩),.pointer (some ⟨g,0,none⟩)]) /\
 w'.heap[b]?=some (.cells #[c0.1] c0.2 (0,0))/\w'.heap[c]?=some (.cells #[c1.1] c1.2 (0,0))/\w'.heap[g]?=some (.cells #[c2.1] c2.2 (0,0))/\aA aB w w':=by
 obtain⟨j,rfl,m,i,l,-⟩:=h
 match j,m with
 | [b,c,g],_=>exact⟨b,c,g,rfl,i 0 _ _ rfl rfl,i 1 _ _ rfl rfl,i 2 _ _ rfl rfl,l⟩
theorem mE.two(h:mE w G [c0,c1] e w'):∃b c,e=.returned (.func (.func G) #[] #[.pointer (some ⟨b,0,none⟩),.pointer (some ⟨c,0,none⟩)]) /\
 w'.heap[b]?=some (.cells #[c0.1] c0.2 (0,0))/\w'.heap[c]?=some (.cells #[c1.1] c1.2 (0,0))/\aA aB w w':=by
 obtain⟨i,rfl,l,g,j,-⟩:=h
 match i,l with
 | [b,c],_=>exact⟨b,c,rfl,g 0 _ _ rfl rfl,g 1 _ _ rfl rfl,j⟩
theorem ckc{W:World}{x:Array Value}{c:Int}(i:v=.func (.func G) #[] x\/v=.func (.func G) x #[])(g:∀w,Sem.run prog (callFunc G x) w=.ok (.enter G x) w)(b:∀wr,aA aB W wr->Calls prog G x wr (aK wr (.int .i64 c))) :
 ∃G x,(v=.func (.func G) #[] x\/v=.func (.func G) x #[])/\(∀w,Sem.run prog (callFunc G x) w=.ok (.enter G x) w)/\∀wr,aA aB W wr->Calls prog G x wr fun e w'=>e=.returned (.int .i64 c)/\aA aB W w':=
 ⟨G,x,i,g,fun wr k=>(b wr k).mono fun e w' h=>⟨h.1,k.trans h.2⟩⟩
theorem rkb{F:Nat}{x:Array Value}{p q:Bool}(e:p=q)(h:Calls prog F x w (aK w (.bool p))):Calls prog F x w (aK w (.bool q)):=e▸h
theorem rki{F:Nat}{x:Array Value}{p q:Int}(e:p=q)(h:Calls prog F x w (aK w (.int .i64 p))):Calls prog F x w (aK w (.int .i64 q)):=e▸h
def uZ(w:World)(b:List UInt8)(y:Value)(e:Ending)(w':World):Prop:=∃v,e=.returned (.tuple #[v,y])/\w'.ownsRow w.heap.size 5 1 v 256 (b.map vb)/\aA aB w w'
theorem Mv(h:bX w a dv dc lv st f F W D Z)(o:d<D)(q:s<Z):Calls prog 185 #[.pointer a,.int .i64 (d:Int),.int .i64 (s:Int)] w (uZ w (eG W d s (F d s)) (.bool true)):=by
 have c:=lN w;have g:=O h;have l:(decide (0≤(d:Int)) && decide ((d:Int)<(D:Int)))=true:=by rw[Bool.and_eq_true,decide_eq_true_eq,decide_eq_true_eq];omega
 have i:oC d s D Z=true:=by unfold oC;rw[l,Bool.true_and,Bool.and_eq_true,decide_eq_true_eq,decide_eq_true_eq];omega
 have l:=O l;have i:=O i;clear h;go_in;go_wp2_with fail;refine(rkb l.out (aup g.out (d:Int))).mono ?_;rintro e r ⟨rfl,b⟩;replace c:=kL c b;replace g:=O (g.keep b fun _ h=>h.elim);clear b;go_wp2_with fail;refine(rkb i.out (Pz g.out (d:Int) (s:Int))).mono ?_;rintro e t ⟨rfl,b⟩;replace c:=kL c b;replace g:=O (g.keep b fun _ h=>h.elim);clear b;go_wp2_with fail;have j:=O c.keep.size;refine(CN g.out o q).mono ?_;rintro e u ⟨v,rfl,p,b⟩;replace c:=kL c b;go_wp2_with fail;have m:=j.out;clear j
 go_ret2
 exact⟨_,rfl,aW p (m),c.keep⟩
theorem Oj(h:bX w a dv dc lv st f F W D Z)(hd:d<D)(hs:s<Z):Calls prog 115 #[.pointer a,.int .i64 (d:Int),.int .i64 (s:Int)] w (uZ w (eG W d s (F d s)) (.int .i64 0)):=by
 have H:oC d s D Z=true:=by unfold oC;simp only[Bool.and_eq_true,decide_eq_true_eq];omega
 replace H:=O H;have m:=lN w;have o:=O h;clear h;go_in
 go_wp2_with ((with_reducible show WL _ _);refine bxL m 40 (.tmp 0) (#[.pointer a]) ?_)
 intro I w1 g m;replace o:=O (o.keep g fun _ h=>h.elim);clear g
 go_wp2_with ((with_reducible show WL _ _);refine bxL m 3 (.tmp 1) (#[.int .i64 (d:Int)]) ?_)
 intro J w2 g m;replace o:=O (o.keep g fun _ h=>h.elim);clear g;go_wp2_with fail;refine dwA aB (by kernel_rfl) ?_;intro w3 S l A z Q;replace m:=kL m Q;replace o:=O (o.keep Q fun _ h=>h.elim);clear Q;have y:=m;have qa:=o;refine tnd 0 (.int .i64 (d:Int)) rfl (.inl ⟨by rfl,fun w' j=>by have c:=aD (i:=0) ((l w' j).blk (y.b 0) id) rfl;go_simp⟩) z ?_;refine tnd 1 (.pointer a) rfl (.inl ⟨by rfl,fun w' j=>by have c:=aD (i:=0) ((l w' j).blk (y.b 1) id) rfl;go_simp⟩) z ?_;refine tnb 2 (.func (.func 131) #[.pointer a] #[]) rfl z ?_;refine tnd 3 (.pointer a) rfl (.inl ⟨by rfl,fun w' j=>by have c:=aD (i:=0) ((l w' j).blk (y.b 1) id) rfl;go_simp⟩) z ?_;refine tnb 4 (.func (.func 132) #[.pointer a] #[]) rfl z ?_;refine tnd 5 (.pointer a) rfl (.inl ⟨by rfl,fun w' j=>by have c:=aD (i:=0) ((l w' j).blk (y.b 1) id) rfl;go_simp⟩) z ?_;refine tnd 6 (.int .i64 (d:Int)) rfl (.inl ⟨by rfl,fun w' j=>by have c:=aD (i:=0) ((l w' j).blk (y.b 0) id) rfl;go_simp⟩) z ?_;refine tna 7 (.int .i64 (s:Int)) rfl z ?_;refine tnd 9 (.pointer a) rfl (.inl ⟨by rfl,fun w' j=>by have c:=aD (i:=0) ((l w' j).blk (y.b 1) id) rfl;go_simp⟩) z ?_;refine tnd 10 (.int .i64 (d:Int)) rfl (.inl ⟨by rfl,fun w' j=>by have c:=aD (i:=0) ((l w' j).blk (y.b 0) id) rfl;go_simp⟩) z ?_;refine tnb 12 (.func (.func 166) #[] #[.pointer I,.pointer J]) rfl z ?_;refine wA9 8 ?_;go_wp2_with fail;refine(xJ w3 a (d:Int) (s:Int)).mono ?_;rintro e w4 hp;obtain⟨Y,p1,p2,rfl,p,q,r,g⟩:=hp.three;have K:=A.out _ ((l _ z).trans g);replace m:=kL m g;replace o:=O (o.keep g fun _ h=>h.elim);clear z g;replace p:=O p;replace q:=O q;replace r:=O r;go_wp2_with fail;refine⟨K,?_⟩;refine wA9 11 ?_;go_wp2_with fail;refine(qJ w4 a (d:Int)).mono ?_;rintro e w5 hp;obtain⟨q0,q1,rfl,t,u,g⟩:=hp.two;have L:=A.out _ ((l _ K).trans g);replace m:=kL m g;replace o:=O (o.keep g fun _ h=>h.elim);replace p:=O (g.blk p.out id);replace q:=O (g.blk q.out id);replace r:=O (g.blk r.out id);clear K g;replace t:=O t;replace u:=O u;go_wp2_with fail;refine⟨L,?_⟩;refine wA9 13 ?_;obtain⟨w6,R,g,hb,-⟩:=aV w5 #[.func (.func 131) #[.pointer a] #[],.func (.func 132) #[.pointer a] #[],.func (.func 199) #[] #[.pointer Y,.pointer p1,.pointer p2],.func (.func 188) #[] #[.pointer q0,.pointer q1],.func (.func 166) #[] #[.pointer I,.pointer J]] 113;obtain⟨qb,E⟩:=zX9 w5.heap.size
 rw[E] at hb;have N:=A.out _ ((l _ L).trans g);clear L;replace m:=lW m E g hb;have C:=O E;replace o:=O (o.keep g fun _ h=>h.elim);replace p:=O (g.blk p.out id);replace q:=O (g.blk q.out id);replace r:=O (g.blk r.out id);replace t:=O (g.blk t.out id);replace u:=O (g.blk u.out id);clear g hb E;go_wp2_with fail;clear R;rw[C.out];refine⟨N,?_⟩;refine wA9 14 ?_;go_wp2_with fail;have V:=O (m.b 0)
 have U:Hid (∀k,k<5->k≤5->∃G x,((#[.func (.func 131) #[.pointer a] #[],.func (.func 132) #[.pointer a] #[],.func (.func 199) #[] #[.pointer Y,.pointer p1,.pointer p2],.func (.func 188) #[] #[.pointer q0,.pointer q1],.func (.func 166) #[] #[.pointer I,.pointer J]]:Array Value).getD k .nilFunc=.func (.func G) #[] x\/(#[.func (.func 131) #[.pointer a] #[],.func (.func 132) #[.pointer a] #[],.func (.func 199) #[] #[.pointer Y,.pointer p1,.pointer p2],.func (.func 188) #[] #[.pointer q0,.pointer q1],.func (.func 166) #[] #[.pointer I,.pointer J]]:Array Value).getD k .nilFunc=.func (.func G) x #[])/\(∀w,Sem.run prog (callFunc G x) w=.ok (.enter G x) w)/\∀wr,aA aB w6 wr->Calls prog G x wr fun e w'=>e=.returned (.int .i64 (0))/\aA aB w6 w'):=O (by
  intro k g hm
  match k,g,hm with
  | 0,_,_=>exact ckc (.inr rfl) (fun w=>by rfl) fun wr k=>DP (o.keep k fun _ h=>h.elim)
  | 1,_,_=>exact ckc (.inr rfl) (fun w=>by rfl) fun wr k=>DQ (o.keep k fun _ h=>h.elim)
  | 2,_,_=>exact ckc (.inl rfl) (fun w=>by rfl) fun wr k=>rki (by rw[H.out];rfl) (uX (o.keep k fun _ h=>h.elim) (d:Int) (s:Int) Y p1 p2 (k.blk p.out id) (k.blk q.out id) (k.blk r.out id))
  | 3,_,_=>exact ckc (.inl rfl) (fun w=>by rfl) fun wr k=>sW (o.keep k fun _ h=>h.elim) hd q0 q1 (k.blk t.out id) (k.blk u.out id)
  | 4,_,_=>exact ckc (.inl rfl) (fun w=>by rfl) fun wr k=>CC (o.keep k fun _ h=>h.elim) hd I J (k.blk (m.b 2) id) (k.blk (m.b 1) id))
 refine(qI w6 (d:Int) qb 5 5 #[.func (.func 131) #[.pointer a] #[],.func (.func 132) #[.pointer a] #[],.func (.func 199) #[] #[.pointer Y,.pointer p1,.pointer p2],.func (.func 188) #[] #[.pointer q0,.pointer q1],.func (.func 166) #[] #[.pointer I,.pointer J]] (fun k=>0) (fun _ wr=>aA aB w6 wr) (by decide) (by decide) (fun k wr g=>g.blk V.out id) (by intro k g;match k,g with
  | 0,_=>rfl
  | 1,_=>rfl
  | 2,_=>rfl
  | 3,_=>rfl
  | 4,_=>rfl) (aA.refl _ _) (by intro k g;rfl) (by decide) U.out).mono ?_
 rintro e w7 ⟨h1,h2,g⟩;clear U V;obtain rfl:=h1 rfl;clear h1 h2;have P:=A.out _ ((l _ N).trans g);replace m:=kL m g;replace o:=O (o.keep g fun _ h=>h.elim);replace p:=O (g.blk p.out id);replace q:=O (g.blk q.out id);replace r:=O (g.blk r.out id);replace t:=O (g.blk t.out id);replace u:=O (g.blk u.out id);clear N g;go_wp2_with fail;refine⟨P,?_⟩;refine tna 15 .nilIface rfl P ?_;refine wpAnyH_done (by kernel_rfl) ?_ _;clear P l A y qa;have c1:w7.cell? ⟨I,0,none⟩=some (.pointer a):=(aD (i:=0) (m.b 2) rfl)
 have c2:w7.cell? ⟨J,0,none⟩=some (.int .i64 (d:Int)):=(aD (i:=0) (m.b 1) rfl)
 go_wp2_with fail;clear c1 c2;have X:=O m.keep.size;refine(CN o.out hd hs).mono ?_;rintro e w8 ⟨v,rfl,ho,g⟩;replace m:=kL m g;replace o:=O (o.keep g fun _ h=>h.elim);replace p:=O (g.blk p.out id);replace q:=O (g.blk q.out id);replace r:=O (g.blk r.out id);replace t:=O (g.blk t.out id);replace u:=O (g.blk u.out id);clear g;go_wp2_with fail;have qc:=X.out;clear X
 go_ret2
 exact⟨_,rfl,aW ho qc,m.keep⟩
theorem rO:(prog.info? 27).map (fun i=>(i.zero,i.size,i.bytes))=some (some (.agg aH.toArray),35,72):=by kernel_rfl
def nI(t:Int):Bool:=decide (1≤t) && decide (t≤2147483648)
def jQ(t:Int):Int:=if nI t=true then 1+t % 4 else 0
def AN(w:World)(t:Int)(e:Ending)(w':World):Prop:=e=.returned (.tuple #[.int .i64 (jQ t),.bool (nI t)])/\aA aB w w'
theorem Nt(w:World)(t:Int)(u:-9223372036854775808≤t)(x:t≤9223372036854775807):Calls prog 101 #[.int .i64 t] w (AN w t):=by
 unfold AN
 by_cases l:t<1
 ·have b:nI t=false:=by unfold nI;rw[decide_eq_false (by omega)];rfl
  rw[show jQ t=0 by unfold jQ;rw[b];rfl,b];clear b;go_in;go_wp2
  go_ret2
  exact⟨rfl,aA.refl _ _⟩
 ·by_cases q:2147483648<t
  ·have b:nI t=false:=by unfold nI;rw[decide_eq_false (p:=t≤2147483648) (by omega)];simp
   rw[show jQ t=0 by unfold jQ;rw[b];rfl,b];clear b;have h:decide (t<1)=false:=decide_eq_false l;go_in;go_wp2
   go_ret2
   exact⟨rfl,aA.refl _ _⟩
  ·have b:nI t=true:=by unfold nI;rw[decide_eq_true (by omega),decide_eq_true (by omega)];rfl
   rw[show jQ t=1+t % 4 by unfold jQ;rw[b];rfl,b];clear b;have h:decide (t<1)=false:=decide_eq_false l;have r:decide (2147483648<t)=false:=decide_eq_false q;have m:t.tmod 4=t % 4:=Int.tmod_eq_emod_of_nonneg (by omega);have c:wrap64 (1+t % 4)=1+t % 4:=by unfold wrap64;omega
   have g:wrap64 (t % 4)=t % 4:=by unfold wrap64;omega
   have j:=O m;have i:=O c;have o:=O g;clear m c g;go_in;go_wp2
   go_ret2
   refine⟨?_,aA.refl _ _⟩
   first|rfl|(rw[j.out,i.out];rfl)|(rw[j.out,o.out,i.out];rfl)
end
end Go.Proofs.YtiinnfhjpaeffaaGreat
