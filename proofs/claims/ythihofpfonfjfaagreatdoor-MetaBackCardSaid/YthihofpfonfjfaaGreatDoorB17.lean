/- A part of the proof. Conditions: those told. -/
import Derived.Test.YthihofpfonfjfaaGreatDoorB1
import Derived.Test.YthihofpfonfjfaaGreatDoorB15
import Derived.Test.YthihofpfonfjfaaGreatDoorB16
namespace Go.Proofs.YthihofpfonfjfaaGreatDoor
set_option maxHeartbeats 64000000
set_option maxRecDepth 100000
set_option linter.unusedVariables false
section
open Go.RowKit Go.Maps Go.ChangeMaps
def aF(w:World)(v:Value)(e:Ending)(w':World):Prop:=e=.returned v/\aA aB w w'
theorem aF.of{w w':World}{v:Value}(k:aA aB w w'):aF w v (.returned v) w':=⟨rfl,k⟩
structure Lw where
 dev:Nat
 at_:Nat
 b:List UInt8
def dO(x:Lw):List Value:=.int .i64 (x.dev:Int)::.int .i64 (x.at_:Int)::x.b.map vb
def cU(l:List Lw):List Value:=l.flatMap dO
def uP(D Z:Nat)(l:List Lw):Prop:=∀x∈l,x.b.length=256/\x.dev<D/\x.at_<Z
theorem kN{x:Lw}(h:x.b.length=256):(dO x).length=258:=by simp[dO,h]
def iF(M:Nat->Nat->List UInt8)(d s:Nat)(b:List UInt8):Nat->Nat->List UInt8:=fun d' s'=>if d'=d/\s'=s then b else M d' s'
def dP:List Lw->Nat->Nat->List UInt8->List UInt8
 | [],_,_,b=>b
 | x::l,d,s,b=>dP l d s (if x.dev=d/\x.at_=s then x.b else b)
theorem nU(x:Lw):∀(l:List Lw) (d s:Nat) (b:List UInt8),dP (l++[x]) d s b=if x.dev=d/\x.at_=s then x.b else dP l d s b
 | [],_,_,_=>rfl
 | y::l,d,s,b=>nU x l d s _
theorem E9{l:List Lw}{k:Nat}{x:Lw}(h:l[k]?=some x)(d s:Nat)(b:List UInt8):dP (l.take (k+1)) d s b=if x.dev=d/\x.at_=s then x.b else dP (l.take k) d s b:=by
 rw[List.take_add_one,h];exact nU x _ d s b
def yA(f:Nat->Nat)(Z d:Nat):List Value:=[.slice (some ⟨f d,0,none⟩) Z Z,.bool false,.int .u8 0,.int .i64 0,.int .i64 0]
def gM(f:Nat->Nat)(Z D:Nat):List Value:=(List.range D).flatMap (yA f Z)
def cV(F:Nat->List UInt8)(Z:Nat):List Value:=(List.range Z).flatMap fun s=>(F s).map vb
abbrev eU:TypeId:=85
abbrev eZ:TypeId:=89
abbrev WrT:TypeId:=194
abbrev gN:TypeId:=192
structure bO(w:World)(a dv:Nat)(dc:Nat)(lv:Value)(st:Int)(f:Nat->Nat)(F:Nat->Nat->List UInt8)(W:List Lw)(D Z:Nat):Prop where
 top:w.heap[a]?=some (.cells #[.slice (some ⟨dv,0,none⟩) D dc,lv,.int .i64 (-1),.bool false,.int .i64 st] eU (0,0))
 devs:w.ownsRow 0 eZ 5 (.slice (some ⟨dv,0,none⟩) D dc) D (gM f Z D)
 firm:∀d,d<D->w.heap[f d]?=some (.cells (cV (F d) Z).toArray gN (0,0))
 inj:∀d e,d<D->e<D->f d=f e->d=e
 loose:w.ownsRow 0 WrT 258 lv W.length (cU W)
 wok:uP D Z W
 fok:∀d s,d<D->s<Z->(F d s).length=256
 bd:2≤D/\D≤8/\8≤Z/\Z≤4096
def cW(a dv:Nat)(lv:Value)(f:Nat->Nat)(D:Nat)(k:Nat):Prop:=k=a\/k=dv\/lv.ownBlock=some k\/∃d,d<D/\k=f d
def bI(w:World)(a:Nat)(B:Nat->Prop)(D Z:Nat)(M:Nat->Nat->List UInt8)(nw:Nat):Prop:=
 ∃dv dc lv st f F W,bO w a dv dc lv st f F W D Z/\B=cW a dv lv f D/\W.length=nw/\∀d s,d<D->s<Z->M d s=dP W d s (F d s)
theorem bO.keep{T:Nat->Prop}{w w':World}{a dv dc D Z:Nat}{lv:Value}{st:Int}{f:Nat->Nat}{F:Nat->Nat->List UInt8}{W:List Lw}(h:bO w a dv dc lv st f F W D Z)(k:aA T w w')(hT:∀i,T i->¬cW a dv lv f D i):bO w' a dv dc lv st f F W D Z:=
 ⟨k.blk h.top fun t=>hT _ t (.inl rfl),k.owns h.devs fun i hi t=>hT _ t (.inr (.inl (by cases hi;rfl))),fun d hd=>k.blk (h.firm d hd) fun t=>hT _ t (.inr (.inr (.inr ⟨d,hd,rfl⟩))),h.inj,k.owns h.loose fun i hi t=>hT _ t (.inr (.inr (.inl hi))),h.wok,h.fok,h.bd⟩
theorem bI.keep{T:Nat->Prop}{w w':World}{a D Z nw:Nat}{B:Nat->Prop}{M:Nat->Nat->List UInt8}(h:bI w a B D Z M nw)(k:aA T w w')(hT:∀i,T i->¬B i):bI w' a B D Z M nw:=by
 obtain⟨dv,dc,lv,st,f,F,W,h1,rfl,h3,h4⟩:=h;exact⟨dv,dc,lv,st,f,F,W,h1.keep k hT,rfl,h3,h4⟩
theorem bI.keep0{w w':World}{a D Z nw:Nat}{B:Nat->Prop}{M:Nat->Nat->List UInt8}(h:bI w a B D Z M nw)(k:aA aB w w'):bI w' a B D Z M nw:=h.keep k fun _ h=>h.elim
theorem bI.lt{w:World}{a D Z nw:Nat}{B:Nat->Prop}{M:Nat->Nat->List UInt8}(h:bI w a B D Z M nw){k:Nat}(hk:B k):k<w.heap.size:=by
 obtain⟨dv,dc,lv,st,f,F,W,h1,rfl,h3,h4⟩:=h;rcases hk with rfl|rfl|hk|⟨d,hd,rfl⟩
 ·exact lt_of_block h1.top
 ·obtain⟨cur,hc⟩:=aL h1.devs (k:=k) rfl
  exact lt_of_block hc
 ·obtain⟨cur,hc⟩:=aL h1.loose hk
  exact lt_of_block hc
 ·exact lt_of_block (h1.firm d hd)
theorem bI.bd{w:World}{a D Z nw:Nat}{B:Nat->Prop}{M:Nat->Nat->List UInt8}(h:bI w a B D Z M nw):2≤D/\D≤8/\8≤Z/\Z≤4096:=by
 obtain⟨dv,dc,lv,st,f,F,W,h1,rfl,h3,h4⟩:=h;exact h1.bd
theorem gI{α:Type}{c:α->List Value}{n:Nat}:∀{l:List α}(hl:∀x∈l,(c x).length=n){k:Nat}{x:α}(hk:l[k]?=some x){j:Nat}{v:Value}(hv:(c x)[j]?=some v),(l.flatMap c)[k*n+j]?=some v
 | [],_,k,x,hk,_,_,_=>by simp at hk
 | y::l,hl,0,x,hk,j,v,hv=>by
   simp only[List.getElem?_cons_zero,Option.some.injEq] at hk;subst hk;rw[List.flatMap_cons,Nat.zero_mul,Nat.zero_add,List.getElem?_append_left (List.getElem?_eq_some_iff.1 hv).1];exact hv
 | y::l,hl,k+1,x,hk,j,v,hv=>by
   rw[List.getElem?_cons_succ] at hk;have h1:=hl y (List.mem_cons_self ..);rw[List.flatMap_cons,List.getElem?_append_right (by rw[h1,Nat.succ_mul];omega),h1,show (k+1)*n+j-n=k*n+j by rw[Nat.succ_mul];omega];exact gI (fun z hz=>hl z (List.mem_cons_of_mem _ hz)) hk hv
theorem mS{α:Type}{c:α->List Value}{n:Nat}:∀{l:List α}(hl:∀x∈l,(c x).length=n),(l.flatMap c).length=l.length*n
 | [],_=>by simp
 | y::l,hl=>by
   rw[List.flatMap_cons,List.length_append,hl y (List.mem_cons_self ..),mS fun z hz=>hl z (List.mem_cons_of_mem _ hz),List.length_cons,Nat.succ_mul];omega
theorem My{D Z:Nat}{l:List Lw}(h:uP D Z l):(cU l).length=l.length*258:=mS fun x hx=>kN (h x hx).1
theorem jQ{D d:Nat}(h:d<D):(List.range D)[d]?=some d:=by rw[List.getElem?_range h]
theorem bO.dev{w:World}{a dv dc D Z:Nat}{lv:Value}{st:Int}{f:Nat->Nat}{F:Nat->Nat->List UInt8}{W:List Lw}(h:bO w a dv dc lv st f F W D Z){d:Nat}(hd:d<D):w.rangeAt dv (d*5) (yA f Z d):=fun j v hv=>by
 obtain⟨hl,a',cap,he,h1,h2,h3,h4⟩:=Rd.of_owns h.devs;have hlt:=(List.getElem?_eq_some_iff.1 hv).1;obtain⟨g,o,rfl,hc⟩:=h4 (by rw[hl];omega);cases he
 have:=hc (d*5+j) v (gI (c:=yA f Z) (fun x _=>rfl) (jQ hd) hv)
 rwa [Nat.zero_add] at this
theorem bO.sec{w:World}{a dv dc D Z:Nat}{lv:Value}{st:Int}{f:Nat->Nat}{F:Nat->Nat->List UInt8}{W:List Lw}(h:bO w a dv dc lv st f F W D Z){d s:Nat}(hd:d<D)(hs:s<Z):w.rangeAt (f d) (s*256) ((F d s).map vb):=fun j v hv=>by
 have:=gI (c:=fun s=>(F d s).map vb) (n:=256) (fun x hx=>by rw[List.length_map];exact h.fok d x hd (List.mem_range.1 hx)) (jQ hs) hv;exact aC (h.firm d hd) (by rw[List.getElem?_toArray];exact this)
theorem bO.wr{w:World}{a dv dc D Z:Nat}{lv:Value}{st:Int}{f:Nat->Nat}{F:Nat->Nat->List UInt8}{W:List Lw}(h:bO w a dv dc lv st f F W D Z){k:Nat}{x:Lw}(hk:W[k]?=some x):∃g cap,lv=.slice (some ⟨g,0,none⟩) W.length cap/\w.rangeAt g (k*258) (dO x):=by
 have hlt:=(List.getElem?_eq_some_iff.1 hk).1;have hr:=Rd.of_owns h.loose;rcases h.loose.2 with⟨-,h0⟩|⟨g,cap,cur,rfl,-,-,-⟩
 ·omega
 ·refine⟨g,cap,rfl,fun j v hv=>?_⟩
  have hlt2:=(List.getElem?_eq_some_iff.1 hv).1;obtain⟨hl,a',c',he,-,-,-,h4⟩:=hr;cases he
  obtain⟨g',o',he,hc⟩:=h4 (by rw[hl];omega);cases he
  have:=hc (k*258+j) v (gI (c:=dO) (n:=258) (fun y hy=>kN (h.wok y hy).1) hk hv)
  rwa [Nat.zero_add] at this
theorem bO.lv{w:World}{a dv dc D Z:Nat}{lv:Value}{st:Int}{f:Nat->Nat}{F:Nat->Nat->List UInt8}{W:List Lw}(h:bO w a dv dc lv st f F W D Z):∃p cap,lv=.slice p W.length cap:=by
 rcases h.loose.2 with⟨rfl,h0⟩|⟨g,cap,cur,rfl,-,-,-⟩
 ·exact⟨_,_,by rw[h0]⟩
 ·exact⟨_,_,rfl⟩
def dH:List Value:=List.replicate 256 (.int .u8 0)
def fV:List Value:=.int .i64 0::.int .i64 0::dH
def aK:List Value:=aE (.slice none 0 0) zPt
def dA:List Value:=.int .i64 0::(aK++aK++aK++aK)
def jC:List Value:=[.int .i64 0,.int .i64 0]
theorem Jv:Hid (∀w,(zeroValue 192).run Tryz.prog w=.ok (.agg dH.toArray) w):=O fun w=>by kernel_rfl
theorem lD:dH.length=256:=rfl
theorem zU:Hid (∀w,(zeroValue 194).run Tryz.prog w=.ok (.agg fV.toArray) w):=O fun w=>by kernel_rfl
theorem iP:fV.length=258:=rfl
theorem bJ:Hid (∀w,(zeroValue 35).run Tryz.prog w=.ok (.agg aK.toArray) w):=O fun w=>by kernel_rfl
theorem aH:aK.length=35:=rfl
theorem jD:Hid (∀w,(zeroValue 104).run Tryz.prog w=.ok (.agg dA.toArray) w):=O fun w=>by kernel_rfl
theorem bS:dA.length=141:=rfl
theorem tH:Hid (∀w,(zeroValue 49).run Tryz.prog w=.ok (.agg jC.toArray) w):=O fun w=>by kernel_rfl
theorem kO:(Tryz.prog.info? 192).map (·.size)=some 256:=by kernel_rfl
theorem jR:(Tryz.prog.info? 194).map (·.size)=some 258:=by kernel_rfl
theorem eB:(Tryz.prog.info? 35).map (·.size)=some 35:=by kernel_rfl
theorem szP9 {l:List Value}(h:l.length=35):(Tryz.prog.info? 35).map (·.size)=some l.length:=by rw[h];exact eB
theorem dZ:(Tryz.prog.info? 104).map (·.size)=some 141:=by kernel_rfl
theorem iN:(Tryz.prog.info? 49).map (·.size)=some 2:=by kernel_rfl
theorem wH:(Tryz.prog.info? 33).map (·.size)=some 32:=by kernel_rfl
theorem oG:Tryz.prog.underlying 194=some (.struct (Tryz.prog.fieldsOf 194)):=by kernel_rfl
theorem Ly:Tryz.prog.underlying 104=some (.struct (Tryz.prog.fieldsOf 104)):=by kernel_rfl
theorem oH:Hid (∀w,(zeroValue 27).run Tryz.prog w=.ok (.int .i64 0) w):=O fun w=>by kernel_rfl
theorem Nk:Hid (∀w,(zeroValue 22).run Tryz.prog w=.ok (.slice none 0 0) w):=O fun w=>by kernel_rfl
theorem Mz:Hid (∀w,(zeroValue 31).run Tryz.prog w=.ok (.slice none 0 0) w):=O fun w=>by kernel_rfl
theorem M1:Hid (∀w,(zeroValue 77).run Tryz.prog w=.ok (.slice none 0 0) w):=O fun w=>by kernel_rfl
theorem rH(x:Lw):∀u∈dO x,u.oneCell'=true:=by
 intro u hu;unfold dO at hu;rcases List.mem_cons.1 hu with rfl|hu
 ·rfl
 rcases List.mem_cons.1 hu with rfl|hu
 ·rfl
 exact bK _ u hu
theorem jE:(Tryz.prog.info? 35).map (fun i=>(i.zero,i.size,i.bytes))=some (some (.agg aK.toArray),35,72):=by kernel_rfl
variable {w:World}{a dv dc D Z:Nat}{lv:Value}{st:Int}{f:Nat->Nat}{F:Nat->Nat->List UInt8}{W:List Lw}
theorem BP(h:bO w a dv dc lv st f F W D Z):Calls Tryz.prog 73 #[.pointer (some ⟨a,0,none⟩)] w (aF w (.bool false)):=by
 have c0:=aC (i:=0) h.top rfl;have hb:=h.bd;have hd:((D:Int) == 0)=false:=by rw[beq_eq_false_iff_ne];omega
 clear h hb;go_enter Tryz.func73,Tryz.ntmps73;go_wp2_with fail;go_ret;exact aF.of (by first|exact aA.refl _ _|exact HK.out)
theorem jS(w:World)(b:Bool)(e:Int):Calls Tryz.prog 129 #[.bool b,.int .i64 e] w (aF w (.int .i64 (if b then 0 else e))):=by
 cases b
 all_goals
  go_enter Tryz.func129,Tryz.ntmps129;go_wp2_with fail;go_ret;exact aF.of (aA.refl _ _)
theorem JK(h:bO w a dv dc lv st f F W D Z)(d:Int):Calls Tryz.prog 77 #[.pointer (some ⟨a,0,none⟩),.int .i64 d] w (aF w (.bool (decide (0≤d) && decide (d<(D:Int))))):=by
 have c0:=aC (i:=0) h.top rfl;clear h
 by_cases h1:0≤d
 ·have e1:decide (0≤d)=true:=by simpa using h1
  rw[e1,Bool.true_and];obtain⟨bb,hbb⟩:∃b,decide (d<(D:Int))=b:=⟨_,rfl⟩
  rw[hbb];go_enter Tryz.func77,Tryz.ntmps77;go_wp2_with fail;go_ret;exact aF.of (aA.refl _ _)
 ·have e1:decide (0≤d)=false:=by simpa using h1
  rw[e1,Bool.false_and];go_enter Tryz.func77,Tryz.ntmps77;go_wp2_with fail;go_ret;exact aF.of (aA.refl _ _)
theorem M4(h:bO w a dv dc lv st f F W D Z):Calls Tryz.prog 37 #[.pointer (some ⟨a,0,none⟩)] w (aF w (.int .i64 (D:Int))):=by
 have HN:=O (BP h);have c0:=aC (i:=0) h.top rfl;have HH:=O h.top;clear h c0;go_enter Tryz.func37,Tryz.ntmps37;go_wp2_with fail;refine HN.out.mono ?_;rintro e w1 ⟨rfl,hk⟩;have HK:=O hk;have c0:=aC (i:=0) (hk.blk HH.out id) rfl;clear hk;go_wp2_with fail;go_ret;exact aF.of (by first|exact aA.refl _ _|exact HK.out)
theorem BQ(h:bO w a dv dc lv st f F W D Z):Calls Tryz.prog 79 #[.pointer (some ⟨a,0,none⟩)] w (aF w (.int .i64 (Z:Int))):=by
 have HN:=O (BP h);have HH:=O h;have hb:=h.bd;clear h;go_enter Tryz.func79,Tryz.ntmps79;go_wp2_with fail;refine HN.out.mono ?_;rintro e w1 ⟨rfl,hk⟩;have HK:=O hk;have c0:=aC (i:=0) (hk.blk HH.out.top id) rfl;have c1:w1.cell? ⟨dv,0,none⟩=some (.slice (some ⟨f 0,0,none⟩) Z Z):=hk.cell (by have:=HH.out.dev (d:=0) (by omega) 0 _ rfl;simpa using this) id;clear hk;go_wp2_with fail;go_ret;exact aF.of (by first|exact aA.refl _ _|exact HK.out)
theorem BR(h:bO w a dv dc lv st f F W D Z):Calls Tryz.prog 106 #[.pointer (some ⟨a,0,none⟩)] w (aF w (.int .i64 0)):=by
 have HN:=O (BP h);clear h;go_enter Tryz.func106,Tryz.ntmps106;go_wp2_with fail;refine HN.out.mono ?_;rintro e w1 ⟨rfl,hk⟩;go_wp2_with fail;refine(jS w1 true 1).mono ?_;rintro e w2 ⟨rfl,hk2⟩;have HK:=O (hk.trans hk2);clear hk hk2 HN;go_wp2_with fail;go_ret;exact aF.of HK.out
theorem BS(h:bO w a dv dc lv st f F W D Z):Calls Tryz.prog 107 #[.pointer (some ⟨a,0,none⟩)] w (aF w (.int .i64 0)):=by
 have c3:=aC (i:=3) h.top rfl;clear h;go_enter Tryz.func107,Tryz.ntmps107;go_wp2_with fail;refine(jS w true 10).mono ?_;rintro e w2 ⟨rfl,hk2⟩;have HK:=O hk2;clear hk2;go_wp2_with fail;go_ret;exact aF.of HK.out
variable {w:World}{a dv dc D Z:Nat}{lv:Value}{st:Int}{f:Nat->Nat}{F:Nat->Nat->List UInt8}{W:List Lw}
theorem CH(w:World)(x y:Int):(Instr.build 228 #[(0,.int .i64 x),(1,.int .i64 y)]).run Tryz.prog w=.ok (.agg #[.int .i64 x,.int .i64 y]) w:=by kernel_rfl
def yI(I:Nat->World->Prop)(c:Nat->Int)(dev:Int)(n m:Nat)(e:Ending)(w':World):Prop:=
 (m=n->e=.returned .nilIface)/\(m<n->e=.returned (.iface 228 (.agg #[.int .i64 (c m),.int .i64 dev])))/\I (min n (m+1)) w'
theorem oA(w:World)(dev:Int)(g n m:Nat)(fs:Array Value)(c:Nat->Int)(I:Nat->World->Prop)(hn:n≤100)(hm:m≤n)(hI:∀k wr,I k wr->wr.heap[g]?=some (.cells fs 58 (0,0)))
 (hfs:∀k,k<n->fs[k]?=some (fs.getD k .nilFunc)) (h0:I 0 w) (hz:∀k,k<m->c k=0) (hcz:m<n->c m≠0)
 (hf:∀k,k<n->k≤m->∃G x,(fs.getD k .nilFunc=.func (.func G) #[] x\/fs.getD k .nilFunc=.func (.func G) x #[])/\(∀w,Sem.run Tryz.prog (callFunc G x) w=.ok (.enter G x) w)/\∀wr,I k wr->Calls Tryz.prog G x wr fun e w'=>e=.returned (.int .i64 (c k))/\I (k+1) w') :
 Calls Tryz.prog 105 #[.int .i64 dev,.slice (some ⟨g,0,none⟩) n n] w (yI I c dev n m):=by
 have H0:=O h0;have HF:=O hf;have hc0s:=O hz;have hcm:=O hcz;clear h0 hf hz hcz;go_enter Tryz.func105,Tryz.ntmps105;go_wp2_with fail
 go_loopw [10] (fun i wr=>∃k:Nat,k≤m/\i=.int .i64 k/\Hid (I k wr)) (fun i _=>n-(intOf i).toNat)
 case atStart=>exact⟨0,by omega,rfl,H0⟩
 case round =>
  clear H0;obtain⟨k,hk,rfl,hR⟩:=hrel
  by_cases hk8:k<n
  ·obtain⟨G,x,hv,hcall,hC⟩:=HF.out k hk8 hk
   rcases hv with hv|hv
   ·skip
    have hc0:wr.cell? ⟨g,k,none⟩=some (.func (.func G) #[] x):=by have:=aC (hI k wr hR.out) (hfs k hk8);rwa [hv] at this
    have hk0:(0:Int)≤(k:Int):=by omega
    have hk1:(k:Int)<(n:Int):=by omega
    clear hv;go_wp2_with fail;refine(hC wr hR.out).mono ?_;rintro e w2 ⟨rfl,h1⟩;have HR2:=O h1;clear h1 hc0 hcall hC
    by_cases hkm:k<m
    ·have hz:=hc0s.out k hkm
     rw[hz];clear hz;go_wp2_with fail
     go_roundw
     case rel=>exact⟨k+1,by omega,by go_num,HR2⟩
     case measure=>simp[intOf];omega
    ·obtain rfl:m=k:=by omega
     have hnz:=hcm.out hk8;have hnz2:(c m != 0)=true:=by simpa using hnz
     have HP:Hid (yI I c dev n m (.returned (.iface 228 (.agg #[.int .i64 (c m),.int .i64 dev]))) w2):=O ⟨fun e=>absurd e (by omega),fun _=>rfl,by rw[Nat.min_eq_right (by omega)];exact HR2.out⟩;have hbd:=fun w=>CH w (c m) dev
     clear hnz hk0 hk1;go_wp2_with fail;go_ret;exact HP.out
   ·skip
    have hc0:wr.cell? ⟨g,k,none⟩=some (.func (.func G) x #[]):=by have:=aC (hI k wr hR.out) (hfs k hk8);rwa [hv] at this
    have hk0:(0:Int)≤(k:Int):=by omega
    have hk1:(k:Int)<(n:Int):=by omega
    clear hv;go_wp2_with fail;refine(hC wr hR.out).mono ?_;rintro e w2 ⟨rfl,h1⟩;have HR2:=O h1;clear h1 hc0 hcall hC
    by_cases hkm:k<m
    ·have hz:=hc0s.out k hkm
     rw[hz];clear hz;go_wp2_with fail
     go_roundw
     case rel=>exact⟨k+1,by omega,by go_num,HR2⟩
     case measure=>simp[intOf];omega
    ·obtain rfl:m=k:=by omega
     have hnz:=hcm.out hk8;have hnz2:(c m != 0)=true:=by simpa using hnz
     have HP:Hid (yI I c dev n m (.returned (.iface 228 (.agg #[.int .i64 (c m),.int .i64 dev]))) w2):=O ⟨fun e=>absurd e (by omega),fun _=>rfl,by rw[Nat.min_eq_right (by omega)];exact HR2.out⟩;have hbd:=fun w=>CH w (c m) dev
     clear hnz hk0 hk1;go_wp2_with fail;go_ret;exact HP.out
  ·obtain rfl:n=k:=by omega
   have hmn:m=n:=by omega
   have HP:Hid (yI I c dev n m (.returned .nilIface) wr):=O ⟨fun _=>rfl,fun e=>absurd e (by omega),by rw[Nat.min_eq_left (by omega)];exact hR.out⟩;clear hmn hR;go_wp2_with fail;go_ret;exact HP.out
variable {w:World}{a dv dc D Z:Nat}{lv:Value}{st:Int}{f:Nat->Nat}{F:Nat->Nat->List UInt8}{W:List Lw}
def lU(d s:Int)(D Z:Nat):Bool:=(decide (0≤d) && decide (d<(D:Int))) && decide (0≤s) && decide (s<(Z:Int))
theorem MB(h:bO w a dv dc lv st f F W D Z)(d s:Int):Calls Tryz.prog 164 #[.pointer (some ⟨a,0,none⟩),.int .i64 d,.int .i64 s] w (aF w (.bool (lU d s D Z))):=by
 have HD:=O (JK h d);have HA:=O h;obtain⟨r,hr⟩:∃r,lU d s D Z=r:=⟨_,rfl⟩
 obtain⟨b1,hb1⟩:∃b,(decide (0≤d) && decide (d<(D:Int)))=b:=⟨_,rfl⟩
 rw[hr];unfold lU at hr;rw[hb1] at HD hr;clear hb1 h;cases b1
 ·obtain rfl:r=false:=by rw[←hr];rfl
  clear hr;go_enter Tryz.func164,Tryz.ntmps164;go_wp2_with fail;refine HD.out.mono ?_;rintro e w1 ⟨rfl,hk⟩;have HK:=O hk;have HS:=O (BQ (HA.out.keep hk fun _ h=>h.elim));clear hk HD;go_wp2_with fail;go_ret;exact aF.of HK.out
 ·by_cases h1:0≤s
  ·obtain⟨b2,hb2⟩:∃b,decide (s<(Z:Int))=b:=⟨_,rfl⟩
   obtain rfl:r=b2:=by rw[←hr,←hb2,decide_eq_true h1];rfl
   clear hr;go_enter Tryz.func164,Tryz.ntmps164;go_wp2_with fail;refine HD.out.mono ?_;rintro e w1 ⟨rfl,hk⟩;have HK:=O hk;have HS:=O (BQ (HA.out.keep hk fun _ h=>h.elim));clear hk HD;go_wp2_with fail;refine HS.out.mono ?_;rintro e w2 ⟨rfl,hk2⟩;replace HK:=O (HK.out.trans hk2);clear hk2;go_wp2_with fail;go_ret;exact aF.of HK.out
  ·obtain rfl:r=false:=by rw[←hr,decide_eq_false h1];rfl
   clear hr;go_enter Tryz.func164,Tryz.ntmps164;go_wp2_with fail;refine HD.out.mono ?_;rintro e w1 ⟨rfl,hk⟩;have HK:=O hk;have HS:=O (BQ (HA.out.keep hk fun _ h=>h.elim));clear hk HD;go_wp2_with fail;go_ret;exact aF.of HK.out
theorem aup(h:bO w a dv dc lv st f F W D Z)(d:Int):Calls Tryz.prog 43 #[.pointer (some ⟨a,0,none⟩),.int .i64 d] w (aF w (.bool (decide (0≤d) && decide (d<(D:Int))))):=by
 have HN:=O (BP h);have HA:=O h;clear h;obtain⟨b1,hb1⟩:∃b,(decide (0≤d) && decide (d<(D:Int)))=b:=⟨_,rfl⟩
 have HB:=O hb1;rw[hb1];clear hb1;go_enter Tryz.func43,Tryz.ntmps43;go_wp2_with fail;refine HN.out.mono ?_;rintro e w1 ⟨rfl,hk⟩;have HK:=O hk;have ha1:=HA.out.keep hk fun _ h=>h.elim
 have HA1:=O ha1;have c3:=aC (i:=3) ha1.top rfl;clear hk HN ha1;go_wp2_with fail;refine(JK HA1.out d).mono ?_;rintro e w2 ⟨rfl,hk2⟩;rw[HB.out];have HK2:=O (HK.out.trans hk2);have ha2:=HA1.out.keep hk2 fun _ h=>h.elim
 have HA2:=O ha2;have c0:=aC (i:=0) ha2.top rfl;clear hk2 c3 HA1 ha2;cases b1
 ·go_wp2_with fail
  go_ret;exact aF.of HK2.out
 ·have hb:=HB.out
  rw[Bool.and_eq_true,decide_eq_true_eq,decide_eq_true_eq] at hb;obtain⟨d,rfl⟩:∃n:Nat,d=(n:Int):=⟨d.toNat,by omega⟩
  have hd:d<D:=by omega
  have hd2:(d:Int)<(D:Int):=by omega
  have hd0:(0:Int)≤(d:Int):=by omega
  have c1:w2.cell? ⟨dv,d*5+1,none⟩=some (.bool false):=HA2.out.dev hd 1 _ rfl;clear hb;go_wp2_with fail;go_ret;exact aF.of HK2.out
def kP(w:World)(G:Nat)(cs:List (Value×TypeId))(e:Ending)(w':World):Prop:=
 ∃bs:List Nat,e=.returned (.func (.func G) #[] (bs.map fun b=>.pointer (some ⟨b,0,none⟩)).toArray)/\bs.length=cs.length/\(∀(i b:Nat) (c:Value×TypeId),bs[i]?=some b->cs[i]?=some c->w'.heap[b]?=some (.cells #[c.1] c.2 (0,0)))/\aA aB w w'/\∀b∈bs,w.heap.size≤b
theorem tQ(w:World)(a:Nat)(d s:Int):Calls Tryz.prog 108 #[.pointer (some ⟨a,0,none⟩),.int .i64 d,.int .i64 s] w (kP w 163 [(Value.pointer (some ⟨a,0,none⟩),51),(.int .i64 d,3),(.int .i64 s,3)]):=by
 have HL:=O (Loc.nil aB aB w);go_enter Tryz.func108,Tryz.ntmps108
 go_wp2_with ((with_reducible show WL _ _);refine bxL HL 51 (.tmp 0) (#[.pointer (some ⟨a,0,none⟩)]) ?_)
 intro b3 w1 hk HL;clear hk
 go_wp2_with ((with_reducible show WL _ _);refine bxL HL 3 (.tmp 1) (#[.int .i64 d]) ?_)
 intro b4 w2 hk HL;clear hk
 go_wp2_with ((with_reducible show WL _ _);refine bxL HL 3 (.tmp 2) (#[.int .i64 s]) ?_)
 intro b5 w3 hk HL;clear hk;go_wp2_with fail;go_ret;refine⟨[b3,b4,b5],rfl,rfl,?_,HL.out.keep,?_⟩
 ·intro i b c hb hc
  match i,hb,hc with
  | 0,hb,hc=>cases hb;cases hc;exact HL.out.b 2
  | 1,hb,hc=>cases hb;cases hc;exact HL.out.b 1
  | 2,hb,hc=>cases hb;cases hc;exact HL.out.b 0
  | i+3,hb,_=>simp at hb
 ·intro b hb
  simp only[List.mem_cons,List.not_mem_nil,or_false] at hb;rcases hb with rfl|rfl|rfl
  ·exact(HL.out.lt 2).1
  ·exact(HL.out.lt 1).1
  ·exact(HL.out.lt 0).1
theorem oB(w:World)(a:Nat)(d:Int):Calls Tryz.prog 109 #[.pointer (some ⟨a,0,none⟩),.int .i64 d] w (kP w 165 [(Value.pointer (some ⟨a,0,none⟩),51),(.int .i64 d,3)]):=by
 have HL:=O (Loc.nil aB aB w);go_enter Tryz.func109,Tryz.ntmps109
 go_wp2_with ((with_reducible show WL _ _);refine bxL HL 51 (.tmp 0) (#[.pointer (some ⟨a,0,none⟩)]) ?_)
 intro b2 w1 hk HL;clear hk
 go_wp2_with ((with_reducible show WL _ _);refine bxL HL 3 (.tmp 1) (#[.int .i64 d]) ?_)
 intro b3 w2 hk HL;clear hk;go_wp2_with fail;go_ret;refine⟨[b2,b3],rfl,rfl,?_,HL.out.keep,?_⟩
 ·intro i b c hb hc
  match i,hb,hc with
  | 0,hb,hc=>cases hb;cases hc;exact HL.out.b 1
  | 1,hb,hc=>cases hb;cases hc;exact HL.out.b 0
  | i+2,hb,_=>simp at hb
 ·intro b hb
  simp only[List.mem_cons,List.not_mem_nil,or_false] at hb;rcases hb with rfl|rfl
  ·exact(HL.out.lt 1).1
  ·exact(HL.out.lt 0).1
theorem Fq(w:World)(a:Nat)(d:Int):Calls Tryz.prog 132 #[.pointer (some ⟨a,0,none⟩),.int .i64 d] w (kP w 177 [(Value.pointer (some ⟨a,0,none⟩),51),(.int .i64 d,3)]):=by
 have HL:=O (Loc.nil aB aB w);go_enter Tryz.func132,Tryz.ntmps132
 go_wp2_with ((with_reducible show WL _ _);refine bxL HL 51 (.tmp 0) (#[.pointer (some ⟨a,0,none⟩)]) ?_)
 intro b2 w1 hk HL;clear hk
 go_wp2_with ((with_reducible show WL _ _);refine bxL HL 3 (.tmp 1) (#[.int .i64 d]) ?_)
 intro b3 w2 hk HL;clear hk;go_wp2_with fail;go_ret;refine⟨[b2,b3],rfl,rfl,?_,HL.out.keep,?_⟩
 ·intro i b c hb hc
  match i,hb,hc with
  | 0,hb,hc=>cases hb;cases hc;exact HL.out.b 1
  | 1,hb,hc=>cases hb;cases hc;exact HL.out.b 0
  | i+2,hb,_=>simp at hb
 ·intro b hb
  simp only[List.mem_cons,List.not_mem_nil,or_false] at hb;rcases hb with rfl|rfl
  ·exact(HL.out.lt 1).1
  ·exact(HL.out.lt 0).1
theorem rO(h:bO w a dv dc lv st f F W D Z)(d s:Int)(p0 p1 p2:Nat)(hp0:w.heap[p0]?=some (.cells #[.pointer (some ⟨a,0,none⟩)] 51 (0,0)))(hp1:w.heap[p1]?=some (.cells #[.int .i64 d] 3 (0,0)))(hp2:w.heap[p2]?=some (.cells #[.int .i64 s] 3 (0,0))):Calls Tryz.prog 163 #[.pointer (some ⟨p0,0,none⟩),.pointer (some ⟨p1,0,none⟩),.pointer (some ⟨p2,0,none⟩)] w (aF w (.int .i64 (if lU d s D Z then 0 else 5))):=by
 have HS:=O (MB h d s);have q0:=aC (i:=0) hp0 rfl;have q1:=aC (i:=0) hp1 rfl;have q2:=aC (i:=0) hp2 rfl;obtain⟨bb,hbb⟩:∃b,lU d s D Z=b:=⟨_,rfl⟩
 rw[hbb] at HS ⊢;clear h hp0 hp1 hp2 hbb;cases bb
 all_goals
  go_enter Tryz.func163,Tryz.ntmps163;go_wp2_with fail;refine HS.out.mono ?_;rintro e w1 ⟨rfl,hk⟩;go_wp2_with fail;refine(jS w1 _ 5).mono ?_;rintro e w2 ⟨rfl,hk2⟩;have HK:=O (hk.trans hk2);clear hk hk2 HS q0 q1 q2;go_wp2_with fail;go_ret;exact aF.of HK.out
theorem DM(h:bO w a dv dc lv st f F W D Z)(d:Int)(p0 p1:Nat)(hp0:w.heap[p0]?=some (.cells #[.pointer (some ⟨a,0,none⟩)] 51 (0,0)))(hp1:w.heap[p1]?=some (.cells #[.int .i64 d] 3 (0,0))):Calls Tryz.prog 177 #[.pointer (some ⟨p0,0,none⟩),.pointer (some ⟨p1,0,none⟩)] w (aF w (.int .i64 (if (decide (0≤d) && decide (d<(D:Int))) then 0 else 5))):=by
 have HS:=O (JK h d);have q0:=aC (i:=0) hp0 rfl;have q1:=aC (i:=0) hp1 rfl;obtain⟨bb,hbb⟩:∃b,(decide (0≤d) && decide (d<(D:Int)))=b:=⟨_,rfl⟩
 rw[hbb] at HS ⊢;clear h hp0 hp1 hbb;cases bb
 all_goals
  go_enter Tryz.func177,Tryz.ntmps177;go_wp2_with fail;refine HS.out.mono ?_;rintro e w1 ⟨rfl,hk⟩;go_wp2_with fail;refine(jS w1 _ 5).mono ?_;rintro e w2 ⟨rfl,hk2⟩;have HK:=O (hk.trans hk2);clear hk hk2 HS q0 q1;go_wp2_with fail;go_ret;exact aF.of HK.out
theorem qB(h:bO w a dv dc lv st f F W D Z){d:Nat}(hd:d<D)(p0 p1:Nat)(hp0:w.heap[p0]?=some (.cells #[.pointer (some ⟨a,0,none⟩)] 51 (0,0)))(hp1:w.heap[p1]?=some (.cells #[.int .i64 d] 3 (0,0))):Calls Tryz.prog 165 #[.pointer (some ⟨p0,0,none⟩),.pointer (some ⟨p1,0,none⟩)] w (aF w (.int .i64 0)):=by
 have HL:=O (Loc.nil aB aB w);have HP0:=O hp0;have HP1:=O hp1;have HA:=O h.top;have HD:=O (h.dev hd);clear hp0 hp1 h;have hd2:(d:Int)<(D:Int):=by omega
 have hd0:(0:Int)≤(d:Int):=by omega
 go_enter Tryz.func165,Tryz.ntmps165;go_wp2_with fail;obtain⟨S,hS0⟩:∃S:World->Prop,S=fun w'=>aA aB w.drew w':=⟨_,rfl⟩
 have HSE:=O (show ∀w',S w'->aA aB w.drew w' from fun w' h=>by rw[hS0] at h;exact h);have HSI:=O (show ∀w',aA aB w.drew w'->S w' from fun w' h=>by rw[hS0];exact h);have hS:S w.drew:=by rw[hS0];exact aA.refl _ _
 have hkd:=(aA.refl aB w).drew;clear hS0;refine wp_region_held (S:=S) (by kernel_rfl) ?_;change wpAnyH _ _ _ _ _ _ _ _ w.drew;generalize w.drew=w1 at HSE HSI hS hkd ⊢;replace HL:=O (HL.out.keeps hkd);replace HP0:=O (hkd.blk HP0.out id);replace HP1:=O (hkd.blk HP1.out id);replace HA:=O (hkd.blk HA.out id);replace HD:=O (hkd.rangeAt HD.out);clear hkd;have HLs:=HL;have HP0s:=HP0;have HP1s:=HP1;have HAs:=HA;have HDs:=HD;refine tnd 0 (.pointer (some ⟨a,0,none⟩)) rfl (.inl ⟨by rfl,fun w' hw'=>by have c:=(HSE.out w' hw').cell (aC (i:=0) HP0s.out rfl) id;go_simp⟩) hS ?_;refine tnb 1 (.pointer (some ⟨a,0,none⟩)) rfl hS ?_;refine tnb 2 (.pointer (some ⟨a,0,none⟩)) rfl hS ?_;refine tnd 3 (.slice (some ⟨dv,0,none⟩) D dc) rfl (.inl ⟨by rfl,fun w' hw'=>by have c:=(HSE.out w' hw').cell (aC (i:=0) HAs.out rfl) id;go_simp⟩) hS ?_;refine tnd 4 (.int .i64 (d:Int)) rfl (.inl ⟨by rfl,fun w' hw'=>by have c:=(HSE.out w' hw').cell (aC (i:=0) HP1s.out rfl) id;go_simp⟩) hS ?_;refine tnb 5 (.pointer (some ⟨dv,d*5,none⟩)) rfl hS ?_;refine tnb 6 (.pointer (some ⟨dv,d*5+1,none⟩)) rfl hS ?_;refine tnd 7 (.bool false) rfl (.inl ⟨by rfl,fun w' hw'=>by have c:=(HSE.out w' hw').cell (show World.cell? _ ⟨dv,d*5+1,none⟩=some (.bool false) from HDs.out 1 _ rfl) id;go_simp⟩) hS ?_;refine tnb 8 (.bool true) rfl hS ?_;refine wA9 9 ?_;go_wp2_with fail;refine(jS w1 true 14).mono ?_;rintro e w2 ⟨rfl,hk⟩;have hS1:=HSI.out _ ((HSE.out _ hS).trans hk);replace HL:=O (HL.out.keeps hk);replace HP0:=O (hk.blk HP0.out id);replace HP1:=O (hk.blk HP1.out id);replace HA:=O (hk.blk HA.out id);replace HD:=O (hk.rangeAt HD.out);clear hS hk;go_wp2_with fail;refine⟨hS1,?_⟩;refine tna 10 (.int .i64 0) rfl hS1 ?_;refine wpAnyH_done (by kernel_rfl) ?_ _;clear hS1 HSE HSI HLs HP0s HP1s HAs HDs;go_wp2_with fail;go_ret;exact aF.of HL.out.keep
theorem Hf(w:World)(p n c:Nat)(q:Option Addr)(hp:w.heap[p]?=some (.cells #[.slice q n c] 22 (0,0))):Calls Tryz.prog 128 #[.pointer (some ⟨p,0,none⟩)] w (aF w (.int .i64 (if n=256 then 0 else 2))):=by
 have q0:=aC (i:=0) hp rfl;obtain⟨bb,hbb⟩:∃b,decide (n=256)=b:=⟨_,rfl⟩
 have he:((n:Int) == 256)=bb:=by rw[←hbb,Bool.eq_iff_iff,beq_iff_eq,decide_eq_true_eq];omega
 have hi:(if n=256 then (0:Int) else 2)=if bb then 0 else 2:=by rw[←hbb];simp
 rw[hi];clear hp hbb hi;cases bb
 all_goals
  go_enter Tryz.func128,Tryz.ntmps128;go_wp2_with fail;refine(jS w _ 2).mono ?_;rintro e w2 ⟨rfl,hk2⟩;have HK:=O hk2;clear hk2 q0 he;go_wp2_with fail;go_ret;exact aF.of HK.out
theorem Hg(h:bO w a dv dc lv st f F W D Z){d:Nat}(hd:d<D)(p0 p1:Nat)(hp0:w.heap[p0]?=some (.cells #[.pointer (some ⟨a,0,none⟩)] 51 (0,0)))(hp1:w.heap[p1]?=some (.cells #[.int .i64 d] 3 (0,0))):Calls Tryz.prog 110 #[.pointer (some ⟨p0,0,none⟩),.pointer (some ⟨p1,0,none⟩)] w (aF w (.int .i64 0)):=by
 have HL:=O (Loc.nil aB aB w);have HP0:=O hp0;have HP1:=O hp1;have HA:=O h.top;have HD:=O (h.dev hd);clear hp0 hp1 h;have hd2:(d:Int)<(D:Int):=by omega
 have hd0:(0:Int)≤(d:Int):=by omega
 go_enter Tryz.func110,Tryz.ntmps110;go_wp2_with fail;obtain⟨S,hS0⟩:∃S:World->Prop,S=fun w'=>aA aB w.drew w':=⟨_,rfl⟩
 have HSE:=O (show ∀w',S w'->aA aB w.drew w' from fun w' h=>by rw[hS0] at h;exact h);have HSI:=O (show ∀w',aA aB w.drew w'->S w' from fun w' h=>by rw[hS0];exact h);have hS:S w.drew:=by rw[hS0];exact aA.refl _ _
 have hkd:=(aA.refl aB w).drew;clear hS0;refine wp_region_held (S:=S) (by kernel_rfl) ?_;change wpAnyH _ _ _ _ _ _ _ _ w.drew;generalize w.drew=w1 at HSE HSI hS hkd ⊢;replace HL:=O (HL.out.keeps hkd);replace HP0:=O (hkd.blk HP0.out id);replace HP1:=O (hkd.blk HP1.out id);replace HA:=O (hkd.blk HA.out id);replace HD:=O (hkd.rangeAt HD.out);clear hkd;have HLs:=HL;have HP0s:=HP0;have HP1s:=HP1;have HAs:=HA;have HDs:=HD;refine tnd 0 (.pointer (some ⟨a,0,none⟩)) rfl (.inl ⟨by rfl,fun w' hw'=>by have c:=(HSE.out w' hw').cell (aC (i:=0) HP0s.out rfl) id;go_simp⟩) hS ?_;refine tnb 1 (.pointer (some ⟨a,0,none⟩)) rfl hS ?_;refine tnb 2 (.pointer (some ⟨a,0,none⟩)) rfl hS ?_;refine tnd 3 (.slice (some ⟨dv,0,none⟩) D dc) rfl (.inl ⟨by rfl,fun w' hw'=>by have c:=(HSE.out w' hw').cell (aC (i:=0) HAs.out rfl) id;go_simp⟩) hS ?_;refine tnd 4 (.int .i64 (d:Int)) rfl (.inl ⟨by rfl,fun w' hw'=>by have c:=(HSE.out w' hw').cell (aC (i:=0) HP1s.out rfl) id;go_simp⟩) hS ?_;refine tnb 5 (.pointer (some ⟨dv,d*5,none⟩)) rfl hS ?_;refine tna 6 (.pointer (some ⟨dv,d*5,none⟩)) rfl hS ?_;refine wpAnyH_done (by kernel_rfl) ?_ _;clear hS HSE HSI HLs HP0s HP1s HAs HDs;have c4:w1.cell? ⟨dv,d*5+4,none⟩=some (.int .i64 0):=HD.out 4 _ rfl;go_wp2_with fail;go_ret;exact aF.of HL.out.keep
variable {w:World}{a dv dc D Z:Nat}{lv:Value}{st:Int}{f:Nat->Nat}{F:Nat->Nat->List UInt8}{W:List Lw}
theorem CI{w:World}{b:Nat}{x:Lw}(h:w.heap[b]?=some (.cells (dO x).toArray WrT (0,0))):w.rangeAt b 2 (x.b.map vb):=fun j v hv=>by
 have:=aD h (2+j) v (by unfold dO;rw[Nat.add_comm 2 j];exact hv)
 rwa [Nat.zero_add] at this
theorem rP{D Z d s:Nat}:∀{l:List Lw}{b:List UInt8},uP D Z l->b.length=256->(dP l d s b).length=256
 | [],b,_,hb=>hb
 | y::l,b,hl,hb=>by
   refine rP (l:=l) (fun z hz=>hl z (List.mem_cons_of_mem _ hz)) ?_;split
   ·exact(hl y (List.mem_cons_self ..)).1
   ·exact hb
def JL(w:World)(b:List UInt8)(e:Ending)(w':World):Prop:=∃v,e=.returned v/\w'.ownsRow w.heap.size 5 1 v 256 (b.map vb)/\aA aB w w'
theorem AS(h:bO w a dv dc lv st f F W D Z){d s:Nat}(hd:d<D)(hs:s<Z):Calls Tryz.prog 112 #[.pointer (some ⟨a,0,none⟩),.int .i64 (d:Int),.int .i64 (s:Int)] w (JL w (dP W d s (F d s))):=by
 obtain⟨p,cap,rfl⟩:=h.lv;have HL:=O (Loc.nil aB aB w);have HH:=O h;have HA:=O h.top;have HD:=O (h.dev hd);have HS:=O (h.sec hd hs);have hmx:W.length≤maxLen:=by obtain⟨_,a',c',h1,h2,h3,-⟩:=Rd.of_owns h.loose;omega
 unfold maxLen at hmx;have hd2:(d:Int)<(D:Int):=by omega
 have hd0:(0:Int)≤(d:Int):=by omega
 have hs2:(s:Int)<(Z:Int):=by omega
 have hs0:(0:Int)≤(s:Int):=by omega
 have HBD:=O h.bd;have HFO:=O (h.fok d s hd hs);obtain⟨b0,hb0e⟩:∃b,(F d s).map vb=b:=⟨_,rfl⟩
 have HB0:=O hb0e;have hb0:b0.length=256:=by rw[←hb0e,List.length_map];exact HFO.out
 have HO:Hid (∀u∈b0,u.oneCell'=true):=O (by rw[←hb0e];exact bK _);rw[hb0e] at HS;obtain⟨n,hn⟩:∃n,W.length=n:=⟨_,rfl⟩
 have HN:=O hn;rw[hn] at hmx HA;clear h hb0e hd hs hn;go_enter Tryz.func112,Tryz.ntmps112;have c1:w.cell? ⟨a,0,none⟩=some (.slice (some ⟨dv,0,none⟩) D dc):=(aC (i:=0) HA.out rfl)
 have c2:w.cell? ⟨dv,d*5,none⟩=some (.slice (some ⟨f d,0,none⟩) Z Z):=(HD.out 0 _ rfl)
 go_wp2_with ((with_reducible show WL _ _);first
  | refine wpList_load_mid rfl 192 (.tmp 19) rfl (f d) (s*256) rfl b0 _ HS.out Tryz.underlying192 rfl (by rw[hb0];exact kO) ?_
  | refine al 192 (.agg dH.toArray) (dH.toArray) Jv ?_)
 clear c1 c2;intro b7 w1 hbs hk0 hb0_
 go_wp2_with ((with_reducible show WL _ _);refine sta 192 (.tmp 7) (.tmp 20) b7 0 b0 hb0_ (by first|decide|(rw[List.size_toArray,hb0];exact Nat.le_refl _)|simp[hb0,lD]) (by rw[hb0];exact kO) HO.out ?_)
 intro w2 hk hb;rw[aG _ _ (by first|rfl|(rw[List.size_toArray,hb0];rfl)|simp[hb0,lD])] at hb;replace hk:=hk0.trans' hk (U:=aB) (fun _ _ h=>h) (fun i hi e=>by omega);replace HL:=O (HL.out.new (fun _ h=>h.elim) hbs hk hb);replace HA:=O (hk.blk HA.out id);replace HD:=O (hk.rangeAt HD.out);replace HS:=O (hk.rangeAt HS.out);clear hbs hk hb hk0 hb0_;have c1:w2.cell? ⟨a,1,none⟩=some (.slice p n cap):=(aC (i:=1) HA.out rfl)
 go_wp2_with fail;clear c1
 go_loopw [26] (fun i wr=>∃k:Nat,k≤n/\i=.int .i64 k/\Hid (Loc aB aB w wr [(b7,((dP (W.take k) d s (F d s)).map vb).toArray,gN)])) (fun i _=>n-(intOf i).toNat)
 case atStart=>exact⟨0,by omega,rfl,by rw[List.take_zero];show Hid (Loc _ _ _ _ [(_,((F d s).map vb).toArray,_)]);rw[HB0.out];exact HL⟩
 case round =>
  clear HL HS HA HD;obtain⟨k,hk,rfl,hR⟩:=hrel
  by_cases hk8:k<n
  ·obtain⟨x,hx⟩:∃x,W[k]?=some x:=⟨W[k]'(by rw[HN.out];exact hk8),List.getElem?_eq_getElem _⟩
   have hok:=HH.out.wok x (List.mem_of_getElem? hx);obtain⟨g,cap',hv,hat⟩:=HH.out.wr hx;cases hv
   have HX:=O (hR.out.keep.rangeAt hat);have HXX:=O hx;have HL:=hR;have hlx:=kN hok.1;have hxb:(x.b.map vb).length=256:=by rw[List.length_map];exact hok.1
   obtain⟨bk,hbk_⟩:∃b,(dP (W.take k) d s (F d s)).map vb=b:=⟨_,rfl⟩
   have HBK:=O hbk_;have hbk:bk.length=256:=by rw[←hbk_,List.length_map];exact rP (fun y hy=>HH.out.wok y (List.mem_of_mem_take hy)) HFO.out
   have HO:Hid (∀u∈bk,u.oneCell'=true):=O (by rw[←hbk_];exact bK _);rw[hbk_] at HL;have hk0:(0:Int)≤(k:Int):=by omega
   have hk1:(k:Int)<(n:Int):=by omega
   have HT:=O (E9 hx d s (F d s));clear hR hbk_ hat hx hok
   go_wp2_with ((with_reducible show WL _ _);first
    | refine wpList_load_mid rfl 194 (.tmp 28) rfl g (k*258) rfl (dO x) _ HX.out oG rfl (by rw[hlx];exact jR) ?_
    | refine al 194 (.agg fV.toArray) (fV.toArray) zU ?_)
   intro b9 w3 hbs hk0 hb0_
   go_wp2_with ((with_reducible show WL _ _);refine sta 194 (.tmp 9) (.tmp 29) b9 0 (dO x) hb0_ (by first|decide|(rw[List.size_toArray,hlx];exact Nat.le_refl _)|simp[hlx,iP]) (by rw[hlx];exact jR) (rH x) ?_)
   intro w4 hk hb;rw[aG _ _ (by first|rfl|(rw[List.size_toArray,hlx];rfl)|simp[hlx,iP])] at hb;replace hk:=hk0.trans' hk (U:=aB) (fun _ _ h=>h) (fun i hi e=>by omega);replace HL:=O (HL.out.new (fun _ h=>h.elim) hbs hk hb);replace HX:=O (hk.rangeAt HX.out);clear hbs hk hb hk0 hb0_;have HF:=O (HL.out.b 0);have c1:w4.cell? ⟨b9,0,none⟩=some (.int .i64 (x.dev:Int)):=aC (i:=0) HF.out (by rw[List.getElem?_toArray];rfl);have c2:w4.cell? ⟨b9,1,none⟩=some (.int .i64 (x.at_:Int)):=aC (i:=1) HF.out (by rw[List.getElem?_toArray];rfl);have HR2:=O (CI HF.out)
   by_cases h1:x.dev=d
   ·have e1:((x.dev:Int) == (d:Int))=true:=by rw[beq_iff_eq];omega
    by_cases h2:x.at_=s
    ·have e2:((x.at_:Int) == (s:Int))=true:=by rw[beq_iff_eq];omega
     clear HF
     go_wp2_with ((with_reducible show WL _ _);first
      | refine wpList_load_mid rfl 192 (.tmp 40) rfl b9 2 rfl (x.b.map vb) _ HR2.out Tryz.underlying192 rfl (by rw[hxb];exact kO) ?_
      | refine sta 192 (.tmp 7) (.tmp 41) b7 0 (x.b.map vb) (HL.out.b 1) (by first|decide|(rw[hxb];exact Nat.le_refl _)|simp[hxb,hbk]) (by rw[hxb];exact kO) (bK _) ?_)
     intro w5 hk hb;rw[aG _ _ (by first|rfl|simp[hxb,hbk])] at hb;replace HL:=O (HL.out.set 1 hk hb);clear hk hb;clear c1 c2 HR2;go_wp2_with fail
     go_roundw
     case rel=>exact⟨k+1,by omega,by go_num,by rw[HT.out,if_pos ⟨h1,h2⟩];exact O HL.out.tail⟩
     case measure=>simp[intOf];omega
    ·have e2:((x.at_:Int) == (s:Int))=false:=by rw[beq_eq_false_iff_ne];omega
     clear HF HR2;go_wp2_with fail
     go_roundw
     case rel=>exact⟨k+1,by omega,by go_num,by rw[HT.out,if_neg (fun e=>h2 e.2),HBK.out];exact O HL.out.tail⟩
     case measure=>simp[intOf];omega
   ·have e1:((x.dev:Int) == (d:Int))=false:=by rw[beq_eq_false_iff_ne];omega
    clear HF HR2;go_wp2_with fail
    go_roundw
    case rel=>exact⟨k+1,by omega,by go_num,by rw[HT.out,if_neg (fun e=>h1 e.1),HBK.out];exact O HL.out.tail⟩
    case measure=>simp[intOf];omega
  ·obtain rfl:n=k:=by omega
   rw[List.take_of_length_le (by rw[HN.out];exact Nat.le_refl _)] at hR;have hft:=hR.out.b 0;have hl:=rP (d:=d) (s:=s) HH.out.wok HFO.out;have HRD:Hid (Rd wr 1 (.slice (some ⟨b7,0,none⟩) 256 256) 256 ((dP W d s (F d s)).map vb)):=O (cG (n:=256) (size:=1) hft (by rw[List.length_map,hl]) (by unfold maxLen;omega));have HKR:=O hR.out.keep;obtain⟨bs,hbs⟩:∃b,(dP W d s (F d s)).map vb=b:=⟨_,rfl⟩
   have hbl:bs.length=256:=by rw[←hbs,List.length_map,hl]
   have HO2:Hid (∀u∈bs,u.oneCell'=true):=O (by rw[←hbs];exact bK _);rw[hbs] at HRD;have HBS:=O hbs;clear hR hft hl hbs
   go_wp2_with (at_builtin;refine aI rfl (.const (.slice none 0 0)) (.tmp 43) 22 rfl wr.heap.size 5 (.int .u8 0) 1 1 Tryz.underlying22 dF rfl (by omega) (.slice none 0 0) 0 [] rfl (World.ownsRow_nil _ _ _ _) (.slice (some ⟨b7,0,none⟩) 256 256) 256 bs rfl HRD.out HO2.out (by unfold maxLen;omega) (by omega) (Nat.le_refl _) ?_)
   intro v2 w3 ho5 hk5 hn5 hb5;have HK3:=O (HKR.out.trans (hk5.mono (T:=aB) fun k _ e=>by cases e));obtain⟨g',cap',rfl⟩:=ownsRow_succ ho5;have HO5:=O ho5;have hsz:=HKR.out.size;clear ho5 hk5 hn5 hb5;go_wp2_with fail;go_ret;exact⟨_,rfl,by rw[HBS.out];exact aP HO5.out hsz,HK3.out⟩
variable {w:World}{a dv dc D Z:Nat}{lv:Value}{st:Int}{f:Nat->Nat}{F:Nat->Nat->List UInt8}{W:List Lw}
theorem kP.three{w w':World}{G:Nat}{e:Ending}{c0 c1 c2:Value×TypeId}(h:kP w G [c0,c1,c2] e w'):∃p0 p1 p2,e=.returned (.func (.func G) #[] #[.pointer (some ⟨p0,0,none⟩),.pointer (some ⟨p1,0,none⟩),.pointer (some ⟨p2,0,none⟩)]) /\
 w'.heap[p0]?=some (.cells #[c0.1] c0.2 (0,0))/\w'.heap[p1]?=some (.cells #[c1.1] c1.2 (0,0))/\w'.heap[p2]?=some (.cells #[c2.1] c2.2 (0,0))/\aA aB w w':=by
 obtain⟨bs,rfl,hl,hb,hk,-⟩:=h
 match bs,hl with
 | [p0,p1,p2],_=>exact⟨p0,p1,p2,rfl,hb 0 _ _ rfl rfl,hb 1 _ _ rfl rfl,hb 2 _ _ rfl rfl,hk⟩
theorem kP.two{w w':World}{G:Nat}{e:Ending}{c0 c1:Value×TypeId}(h:kP w G [c0,c1] e w'):∃p0 p1,e=.returned (.func (.func G) #[] #[.pointer (some ⟨p0,0,none⟩),.pointer (some ⟨p1,0,none⟩)]) /\
 w'.heap[p0]?=some (.cells #[c0.1] c0.2 (0,0))/\w'.heap[p1]?=some (.cells #[c1.1] c1.2 (0,0))/\aA aB w w':=by
 obtain⟨bs,rfl,hl,hb,hk,-⟩:=h
 match bs,hl with
 | [p0,p1],_=>exact⟨p0,p1,rfl,hb 0 _ _ rfl rfl,hb 1 _ _ rfl rfl,hk⟩
theorem ckc{W:World}{G:Nat}{x:Array Value}{c:Int}{v:Value}(hv:v=.func (.func G) #[] x\/v=.func (.func G) x #[])(hc:∀w,Sem.run Tryz.prog (callFunc G x) w=.ok (.enter G x) w)(hC:∀wr,aA aB W wr->Calls Tryz.prog G x wr (aF wr (.int .i64 c))) :
 ∃G x,(v=.func (.func G) #[] x\/v=.func (.func G) x #[])/\(∀w,Sem.run Tryz.prog (callFunc G x) w=.ok (.enter G x) w)/\∀wr,aA aB W wr->Calls Tryz.prog G x wr fun e w'=>e=.returned (.int .i64 c)/\aA aB W w':=
 ⟨G,x,hv,hc,fun wr k=>(hC wr k).mono fun e w' h=>⟨h.1,k.trans h.2⟩⟩
theorem rkb{w:World}{F:Nat}{x:Array Value}{p q:Bool}(e:p=q)(h:Calls Tryz.prog F x w (aF w (.bool p))):Calls Tryz.prog F x w (aF w (.bool q)):=e▸h
theorem rki{w:World}{F:Nat}{x:Array Value}{p q:Int}(e:p=q)(h:Calls Tryz.prog F x w (aF w (.int .i64 p))):Calls Tryz.prog F x w (aF w (.int .i64 q)):=e▸h
def rQ(w:World)(b:List UInt8)(y:Value)(e:Ending)(w':World):Prop:=∃v,e=.returned (.tuple #[v,y])/\w'.ownsRow w.heap.size 5 1 v 256 (b.map vb)/\aA aB w w'
theorem JM(h:bO w a dv dc lv st f F W D Z){d s:Nat}(hd:d<D)(hs:s<Z):Calls Tryz.prog 148 #[.pointer (some ⟨a,0,none⟩),.int .i64 (d:Int),.int .i64 (s:Int)] w (rQ w (dP W d s (F d s)) (.bool true)):=by
 have HL:=O (Loc.nil aB aB w);have HH:=O h;have HU:(decide (0≤(d:Int)) && decide ((d:Int)<(D:Int)))=true:=by rw[Bool.and_eq_true,decide_eq_true_eq,decide_eq_true_eq];omega
 have HSB:lU d s D Z=true:=by unfold lU;rw[HU,Bool.true_and,Bool.and_eq_true,decide_eq_true_eq,decide_eq_true_eq];omega
 have HU:=O HU;have HSB:=O HSB;clear h;go_enter Tryz.func148,Tryz.ntmps148;go_wp2_with fail;refine(rkb HU.out (aup HH.out (d:Int))).mono ?_;rintro e w1 ⟨rfl,hk⟩;replace HL:=O (HL.out.keeps hk);replace HH:=O (HH.out.keep hk fun _ h=>h.elim);clear hk;go_wp2_with fail;refine(rkb HSB.out (MB HH.out (d:Int) (s:Int))).mono ?_;rintro e w2 ⟨rfl,hk⟩;replace HL:=O (HL.out.keeps hk);replace HH:=O (HH.out.keep hk fun _ h=>h.elim);clear hk;go_wp2_with fail;have HKX:=O HL.out.keep.size;refine(AS HH.out hd hs).mono ?_;rintro e w3 ⟨v,rfl,ho,hk⟩;replace HL:=O (HL.out.keeps hk);go_wp2_with fail;have hsz:=HKX.out;clear HKX
 go_ret2
 exact⟨_,rfl,aP ho (hsz),HL.out.keep⟩
theorem LH(h:bO w a dv dc lv st f F W D Z){d s:Nat}(hd:d<D)(hs:s<Z):Calls Tryz.prog 74 #[.pointer (some ⟨a,0,none⟩),.int .i64 (d:Int),.int .i64 (s:Int)] w (rQ w (dP W d s (F d s)) (.int .i64 0)):=by
 have HSB:lU d s D Z=true:=by unfold lU;simp only[Bool.and_eq_true,decide_eq_true_eq];omega
 replace HSB:=O HSB;have HL:=O (Loc.nil aB aB w);have HH:=O h;clear h;go_enter Tryz.func74,Tryz.ntmps74
 go_wp2_with ((with_reducible show WL _ _);refine bxL HL 51 (.tmp 0) (#[.pointer (some ⟨a,0,none⟩)]) ?_)
 intro b3 w1 hk HL;replace HH:=O (HH.out.keep hk fun _ h=>h.elim);clear hk
 go_wp2_with ((with_reducible show WL _ _);refine bxL HL 3 (.tmp 1) (#[.int .i64 (d:Int)]) ?_)
 intro b4 w2 hk HL;replace HH:=O (HH.out.keep hk fun _ h=>h.elim);clear hk;go_wp2_with fail;obtain⟨S,hS0⟩:∃S:World->Prop,S=fun w'=>aA aB w2.drew w':=⟨_,rfl⟩
 have HSE:=O (show ∀w',S w'->aA aB w2.drew w' from fun w' h=>by rw[hS0] at h;exact h);have HSI:=O (show ∀w',aA aB w2.drew w'->S w' from fun w' h=>by rw[hS0];exact h);have hS:S w2.drew:=by rw[hS0];exact aA.refl _ _
 have hkd:=(aA.refl aB w2).drew;clear hS0;refine wp_region_held (S:=S) (by kernel_rfl) ?_;change wpAnyH _ _ _ _ _ _ _ _ w2.drew;generalize w2.drew=w3 at HSE HSI hS hkd ⊢;replace HL:=O (HL.out.keeps hkd);replace HH:=O (HH.out.keep hkd fun _ h=>h.elim);clear hkd;have HLs:=HL;have HHs:=HH;refine tnd 0 (.int .i64 (d:Int)) rfl (.inl ⟨by rfl,fun w' hw'=>by have c:=aC (i:=0) ((HSE.out w' hw').blk (HLs.out.b 0) id) rfl;go_simp⟩) hS ?_;refine tnd 1 (.pointer (some ⟨a,0,none⟩)) rfl (.inl ⟨by rfl,fun w' hw'=>by have c:=aC (i:=0) ((HSE.out w' hw').blk (HLs.out.b 1) id) rfl;go_simp⟩) hS ?_;refine tnb 2 (.func (.func 106) #[.pointer (some ⟨a,0,none⟩)] #[]) rfl hS ?_;refine tnd 3 (.pointer (some ⟨a,0,none⟩)) rfl (.inl ⟨by rfl,fun w' hw'=>by have c:=aC (i:=0) ((HSE.out w' hw').blk (HLs.out.b 1) id) rfl;go_simp⟩) hS ?_;refine tnb 4 (.func (.func 107) #[.pointer (some ⟨a,0,none⟩)] #[]) rfl hS ?_;refine tnd 5 (.pointer (some ⟨a,0,none⟩)) rfl (.inl ⟨by rfl,fun w' hw'=>by have c:=aC (i:=0) ((HSE.out w' hw').blk (HLs.out.b 1) id) rfl;go_simp⟩) hS ?_;refine tnd 6 (.int .i64 (d:Int)) rfl (.inl ⟨by rfl,fun w' hw'=>by have c:=aC (i:=0) ((HSE.out w' hw').blk (HLs.out.b 0) id) rfl;go_simp⟩) hS ?_;refine tna 7 (.int .i64 (s:Int)) rfl hS ?_;refine tnd 9 (.pointer (some ⟨a,0,none⟩)) rfl (.inl ⟨by rfl,fun w' hw'=>by have c:=aC (i:=0) ((HSE.out w' hw').blk (HLs.out.b 1) id) rfl;go_simp⟩) hS ?_;refine tnd 10 (.int .i64 (d:Int)) rfl (.inl ⟨by rfl,fun w' hw'=>by have c:=aC (i:=0) ((HSE.out w' hw').blk (HLs.out.b 0) id) rfl;go_simp⟩) hS ?_;refine tnb 12 (.func (.func 110) #[] #[.pointer (some ⟨b3,0,none⟩),.pointer (some ⟨b4,0,none⟩)]) rfl hS ?_;refine wA9 8 ?_;go_wp2_with fail;refine(tQ w3 a (d:Int) (s:Int)).mono ?_;rintro e w4 hp;obtain⟨p0,p1,p2,rfl,HP0,HP1,HP2,hk⟩:=hp.three;have hS1:=HSI.out _ ((HSE.out _ hS).trans hk);replace HL:=O (HL.out.keeps hk);replace HH:=O (HH.out.keep hk fun _ h=>h.elim);clear hS hk;replace HP0:=O HP0;replace HP1:=O HP1;replace HP2:=O HP2;go_wp2_with fail;refine⟨hS1,?_⟩;refine wA9 11 ?_;go_wp2_with fail;refine(oB w4 a (d:Int)).mono ?_;rintro e w5 hp;obtain⟨q0,q1,rfl,HQ0,HQ1,hk⟩:=hp.two;have hS2:=HSI.out _ ((HSE.out _ hS1).trans hk);replace HL:=O (HL.out.keeps hk);replace HH:=O (HH.out.keep hk fun _ h=>h.elim);replace HP0:=O (hk.blk HP0.out id);replace HP1:=O (hk.blk HP1.out id);replace HP2:=O (hk.blk HP2.out id);clear hS1 hk;replace HQ0:=O HQ0;replace HQ1:=O HQ1;go_wp2_with fail;refine⟨hS2,?_⟩;refine wA9 13 ?_;obtain⟨w6,hw_w6,hk,hb,-⟩:=aU w5 #[.func (.func 106) #[.pointer (some ⟨a,0,none⟩)] #[],.func (.func 107) #[.pointer (some ⟨a,0,none⟩)] #[],.func (.func 163) #[] #[.pointer (some ⟨p0,0,none⟩),.pointer (some ⟨p1,0,none⟩),.pointer (some ⟨p2,0,none⟩)],.func (.func 165) #[] #[.pointer (some ⟨q0,0,none⟩),.pointer (some ⟨q1,0,none⟩)],.func (.func 110) #[] #[.pointer (some ⟨b3,0,none⟩),.pointer (some ⟨b4,0,none⟩)]] 58;obtain⟨b22,hbs⟩:∃b,w5.heap.size=b:=⟨_,rfl⟩
 rw[hbs] at hb;have hS3:=HSI.out _ ((HSE.out _ hS2).trans hk);clear hS2;replace HL:=O (HL.out.new (fun _ h=>h.elim) hbs hk hb);have HBSb22:=O hbs;replace HH:=O (HH.out.keep hk fun _ h=>h.elim);replace HP0:=O (hk.blk HP0.out id);replace HP1:=O (hk.blk HP1.out id);replace HP2:=O (hk.blk HP2.out id);replace HQ0:=O (hk.blk HQ0.out id);replace HQ1:=O (hk.blk HQ1.out id);clear hk hb hbs;go_wp2_with fail;clear hw_w6;rw[HBSb22.out];refine⟨hS3,?_⟩;refine wA9 14 ?_;go_wp2_with fail;have HFB:=O (HL.out.b 0)
 have HCK:Hid (∀k,k<5->k≤5->∃G x,((#[.func (.func 106) #[.pointer (some ⟨a,0,none⟩)] #[],.func (.func 107) #[.pointer (some ⟨a,0,none⟩)] #[],.func (.func 163) #[] #[.pointer (some ⟨p0,0,none⟩),.pointer (some ⟨p1,0,none⟩),.pointer (some ⟨p2,0,none⟩)],.func (.func 165) #[] #[.pointer (some ⟨q0,0,none⟩),.pointer (some ⟨q1,0,none⟩)],.func (.func 110) #[] #[.pointer (some ⟨b3,0,none⟩),.pointer (some ⟨b4,0,none⟩)]]:Array Value).getD k .nilFunc=.func (.func G) #[] x\/(#[.func (.func 106) #[.pointer (some ⟨a,0,none⟩)] #[],.func (.func 107) #[.pointer (some ⟨a,0,none⟩)] #[],.func (.func 163) #[] #[.pointer (some ⟨p0,0,none⟩),.pointer (some ⟨p1,0,none⟩),.pointer (some ⟨p2,0,none⟩)],.func (.func 165) #[] #[.pointer (some ⟨q0,0,none⟩),.pointer (some ⟨q1,0,none⟩)],.func (.func 110) #[] #[.pointer (some ⟨b3,0,none⟩),.pointer (some ⟨b4,0,none⟩)]]:Array Value).getD k .nilFunc=.func (.func G) x #[])/\(∀w,Sem.run Tryz.prog (callFunc G x) w=.ok (.enter G x) w)/\∀wr,aA aB w6 wr->Calls Tryz.prog G x wr fun e w'=>e=.returned (.int .i64 (0))/\aA aB w6 w'):=O (by
  intro k hk hm
  match k,hk,hm with
  | 0,_,_=>exact ckc (.inr rfl) (fun w=>by rfl) fun wr k=>BR (HH.out.keep k fun _ h=>h.elim)
  | 1,_,_=>exact ckc (.inr rfl) (fun w=>by rfl) fun wr k=>BS (HH.out.keep k fun _ h=>h.elim)
  | 2,_,_=>exact ckc (.inl rfl) (fun w=>by rfl) fun wr k=>rki (by rw[HSB.out];rfl) (rO (HH.out.keep k fun _ h=>h.elim) (d:Int) (s:Int) p0 p1 p2 (k.blk HP0.out id) (k.blk HP1.out id) (k.blk HP2.out id))
  | 3,_,_=>exact ckc (.inl rfl) (fun w=>by rfl) fun wr k=>qB (HH.out.keep k fun _ h=>h.elim) hd q0 q1 (k.blk HQ0.out id) (k.blk HQ1.out id)
  | 4,_,_=>exact ckc (.inl rfl) (fun w=>by rfl) fun wr k=>Hg (HH.out.keep k fun _ h=>h.elim) hd b3 b4 (k.blk (HL.out.b 2) id) (k.blk (HL.out.b 1) id))
 refine(oA w6 (d:Int) b22 5 5 #[.func (.func 106) #[.pointer (some ⟨a,0,none⟩)] #[],.func (.func 107) #[.pointer (some ⟨a,0,none⟩)] #[],.func (.func 163) #[] #[.pointer (some ⟨p0,0,none⟩),.pointer (some ⟨p1,0,none⟩),.pointer (some ⟨p2,0,none⟩)],.func (.func 165) #[] #[.pointer (some ⟨q0,0,none⟩),.pointer (some ⟨q1,0,none⟩)],.func (.func 110) #[] #[.pointer (some ⟨b3,0,none⟩),.pointer (some ⟨b4,0,none⟩)]] (fun k=>0) (fun _ wr=>aA aB w6 wr) (by decide) (by decide) (fun k wr hk=>hk.blk HFB.out id) (by intro k hk;match k,hk with
  | 0,_=>rfl
  | 1,_=>rfl
  | 2,_=>rfl
  | 3,_=>rfl
  | 4,_=>rfl) (aA.refl _ _) (by intro k hk;rfl) (by decide) HCK.out).mono ?_
 rintro e w7 ⟨h1,h2,hk⟩;clear HCK HFB;obtain rfl:=h1 rfl;clear h1 h2;have hS4:=HSI.out _ ((HSE.out _ hS3).trans hk);replace HL:=O (HL.out.keeps hk);replace HH:=O (HH.out.keep hk fun _ h=>h.elim);replace HP0:=O (hk.blk HP0.out id);replace HP1:=O (hk.blk HP1.out id);replace HP2:=O (hk.blk HP2.out id);replace HQ0:=O (hk.blk HQ0.out id);replace HQ1:=O (hk.blk HQ1.out id);clear hS3 hk;go_wp2_with fail;refine⟨hS4,?_⟩;refine tna 15 .nilIface rfl hS4 ?_;refine wpAnyH_done (by kernel_rfl) ?_ _;clear hS4 HSE HSI HLs HHs;have c1:w7.cell? ⟨b3,0,none⟩=some (.pointer (some ⟨a,0,none⟩)):=(aC (i:=0) (HL.out.b 2) rfl)
 have c2:w7.cell? ⟨b4,0,none⟩=some (.int .i64 (d:Int)):=(aC (i:=0) (HL.out.b 1) rfl)
 go_wp2_with fail;clear c1 c2;have HKX:=O HL.out.keep.size;refine(AS HH.out hd hs).mono ?_;rintro e w8 ⟨v,rfl,ho,hk⟩;replace HL:=O (HL.out.keeps hk);replace HH:=O (HH.out.keep hk fun _ h=>h.elim);replace HP0:=O (hk.blk HP0.out id);replace HP1:=O (hk.blk HP1.out id);replace HP2:=O (hk.blk HP2.out id);replace HQ0:=O (hk.blk HQ0.out id);replace HQ1:=O (hk.blk HQ1.out id);clear hk;go_wp2_with fail;have hsz:=HKX.out;clear HKX
 go_ret2
 exact⟨_,rfl,aP ho hsz,HL.out.keep⟩
end
end Go.Proofs.YthihofpfonfjfaaGreatDoor
