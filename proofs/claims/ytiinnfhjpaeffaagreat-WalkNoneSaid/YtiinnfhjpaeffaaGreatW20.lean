import Derived.Test.YtiinnfhjpaeffaaGreatW1
import Derived.Test.YtiinnfhjpaeffaaGreatW18
import Derived.Test.YtiinnfhjpaeffaaGreatW19
namespace Go.Proofs.YtiinnfhjpaeffaaGreat
set_option maxHeartbeats 64000000
set_option maxRecDepth 100000
set_option linter.unusedVariables false
section
open Go.RowKit Go.Maps Go.ChangeMaps
def aK(w:World)(v:Value)(e:Ending)(w':World):Prop:=e=.returned v/\aA aB w w'
theorem aK.of{w w':World}{v:Value}(k:aA aB w w'):aK w v (.returned v) w':=⟨rfl,k⟩
structure Lw where
 dev:Nat
 at_:Nat
 b:List UInt8
def dU(x:Lw):List Value:=.int .i64 (x.dev:Int)::.int .i64 (x.at_:Int)::x.b.map vb
def cZ(l:List Lw):List Value:=l.flatMap dU
def vJ(D Z:Nat)(l:List Lw):Prop:=∀x∈l,x.b.length=256/\x.dev<D/\x.at_<Z
theorem kU{x:Lw}(h:x.b.length=256):(dU x).length=258:=by simp[dU,h]
def fP(M:Nat->Nat->List UInt8)(d s:Nat)(b:List UInt8):Nat->Nat->List UInt8:=fun d' s'=>if d'=d/\s'=s then b else M d' s'
def dV:List Lw->Nat->Nat->List UInt8->List UInt8
 | [],_,_,b=>b
 | x::l,d,s,b=>dV l d s (if x.dev=d/\x.at_=s then x.b else b)
theorem oQ(x:Lw):∀(l:List Lw) (d s:Nat) (b:List UInt8),dV (l++[x]) d s b=if x.dev=d/\x.at_=s then x.b else dV l d s b
 | [],_,_,_=>rfl
 | y::l,d,s,b=>oQ x l d s _
theorem FU{l:List Lw}{k:Nat}{x:Lw}(h:l[k]?=some x)(d s:Nat)(b:List UInt8):dV (l.take (k+1)) d s b=if x.dev=d/\x.at_=s then x.b else dV (l.take k) d s b:=by
 rw[List.take_add_one,h];exact oQ x _ d s b
def yO(f:Nat->Nat)(Z d:Nat):List Value:=[.slice (some ⟨f d,0,none⟩) Z Z,.bool false,.int .u8 0,.int .i64 0,.int .i64 0]
def gO(f:Nat->Nat)(Z D:Nat):List Value:=(List.range D).flatMap (yO f Z)
def dA(F:Nat->List UInt8)(Z:Nat):List Value:=(List.range Z).flatMap fun s=>(F s).map vb
abbrev eW:TypeId:=143
abbrev fF:TypeId:=147
abbrev WrT:TypeId:=212
abbrev gP:TypeId:=210
structure bP(w:World)(a dv:Nat)(dc:Nat)(lv:Value)(st:Int)(f:Nat->Nat)(F:Nat->Nat->List UInt8)(W:List Lw)(D Z:Nat):Prop where
 top:w.heap[a]?=some (.cells #[.slice (some ⟨dv,0,none⟩) D dc,lv,.int .i64 (-1),.bool false,.int .i64 st] eW (0,0))
 devs:w.ownsRow 0 fF 5 (.slice (some ⟨dv,0,none⟩) D dc) D (gO f Z D)
 firm:∀d,d<D->w.heap[f d]?=some (.cells (dA (F d) Z).toArray gP (0,0))
 inj:∀d e,d<D->e<D->f d=f e->d=e
 loose:w.ownsRow 0 WrT 258 lv W.length (cZ W)
 wok:vJ D Z W
 fok:∀d s,d<D->s<Z->(F d s).length=256
 bd:2≤D/\D≤8/\8≤Z/\Z≤4096
def dQ(a dv:Nat)(lv:Value)(f:Nat->Nat)(D:Nat)(k:Nat):Prop:=k=a\/k=dv\/lv.ownBlock=some k\/∃d,d<D/\k=f d
def bM(w:World)(a:Nat)(B:Nat->Prop)(D Z:Nat)(M:Nat->Nat->List UInt8)(nw:Nat):Prop:=
 ∃dv dc lv st f F W,bP w a dv dc lv st f F W D Z/\B=dQ a dv lv f D/\W.length=nw/\∀d s,d<D->s<Z->M d s=dV W d s (F d s)
theorem bP.keep{T:Nat->Prop}{w w':World}{a dv dc D Z:Nat}{lv:Value}{st:Int}{f:Nat->Nat}{F:Nat->Nat->List UInt8}{W:List Lw}(h:bP w a dv dc lv st f F W D Z)(k:aA T w w')(hT:∀i,T i->¬dQ a dv lv f D i):bP w' a dv dc lv st f F W D Z:=
 ⟨k.blk h.top fun t=>hT _ t (.inl rfl),k.owns h.devs fun i hi t=>hT _ t (.inr (.inl (by cases hi;rfl))),fun d hd=>k.blk (h.firm d hd) fun t=>hT _ t (.inr (.inr (.inr ⟨d,hd,rfl⟩))),h.inj,k.owns h.loose fun i hi t=>hT _ t (.inr (.inr (.inl hi))),h.wok,h.fok,h.bd⟩
theorem bM.keep{T:Nat->Prop}{w w':World}{a D Z nw:Nat}{B:Nat->Prop}{M:Nat->Nat->List UInt8}(h:bM w a B D Z M nw)(k:aA T w w')(hT:∀i,T i->¬B i):bM w' a B D Z M nw:=by
 obtain⟨dv,dc,lv,st,f,F,W,h1,rfl,h3,h4⟩:=h;exact⟨dv,dc,lv,st,f,F,W,h1.keep k hT,rfl,h3,h4⟩
theorem bM.keep0{w w':World}{a D Z nw:Nat}{B:Nat->Prop}{M:Nat->Nat->List UInt8}(h:bM w a B D Z M nw)(k:aA aB w w'):bM w' a B D Z M nw:=h.keep k fun _ h=>h.elim
theorem bM.lt{w:World}{a D Z nw:Nat}{B:Nat->Prop}{M:Nat->Nat->List UInt8}(h:bM w a B D Z M nw){k:Nat}(hk:B k):k<w.heap.size:=by
 obtain⟨dv,dc,lv,st,f,F,W,h1,rfl,h3,h4⟩:=h;rcases hk with rfl|rfl|hk|⟨d,hd,rfl⟩
 ·exact lt_of_block h1.top
 ·obtain⟨cur,hc⟩:=aL h1.devs (k:=k) rfl
  exact lt_of_block hc
 ·obtain⟨cur,hc⟩:=aL h1.loose hk
  exact lt_of_block hc
 ·exact lt_of_block (h1.firm d hd)
theorem bM.bd{w:World}{a D Z nw:Nat}{B:Nat->Prop}{M:Nat->Nat->List UInt8}(h:bM w a B D Z M nw):2≤D/\D≤8/\8≤Z/\Z≤4096:=by
 obtain⟨dv,dc,lv,st,f,F,W,h1,rfl,h3,h4⟩:=h;exact h1.bd
theorem fT{α:Type}{c:α->List Value}{n:Nat}:∀{l:List α}(hl:∀x∈l,(c x).length=n){k:Nat}{x:α}(hk:l[k]?=some x){j:Nat}{v:Value}(hv:(c x)[j]?=some v),(l.flatMap c)[k*n+j]?=some v
 | [],_,k,x,hk,_,_,_=>by simp at hk
 | y::l,hl,0,x,hk,j,v,hv=>by
   simp only[List.getElem?_cons_zero,Option.some.injEq] at hk;subst hk;rw[List.flatMap_cons,Nat.zero_mul,Nat.zero_add,List.getElem?_append_left (List.getElem?_eq_some_iff.1 hv).1];exact hv
 | y::l,hl,k+1,x,hk,j,v,hv=>by
   rw[List.getElem?_cons_succ] at hk;have h1:=hl y (List.mem_cons_self ..);rw[List.flatMap_cons,List.getElem?_append_right (by rw[h1,Nat.succ_mul];omega),h1,show (k+1)*n+j-n=k*n+j by rw[Nat.succ_mul];omega];exact fT (fun z hz=>hl z (List.mem_cons_of_mem _ hz)) hk hv
theorem nW{α:Type}{c:α->List Value}{n:Nat}:∀{l:List α}(hl:∀x∈l,(c x).length=n),(l.flatMap c).length=l.length*n
 | [],_=>by simp
 | y::l,hl=>by
   rw[List.flatMap_cons,List.length_append,hl y (List.mem_cons_self ..),nW fun z hz=>hl z (List.mem_cons_of_mem _ hz),List.length_cons,Nat.succ_mul];omega
theorem Nl{D Z:Nat}{l:List Lw}(h:vJ D Z l):(cZ l).length=l.length*258:=nW fun x hx=>kU (h x hx).1
theorem iG{D d:Nat}(h:d<D):(List.range D)[d]?=some d:=by rw[List.getElem?_range h]
theorem bP.dev{w:World}{a dv dc D Z:Nat}{lv:Value}{st:Int}{f:Nat->Nat}{F:Nat->Nat->List UInt8}{W:List Lw}(h:bP w a dv dc lv st f F W D Z){d:Nat}(hd:d<D):w.rangeAt dv (d*5) (yO f Z d):=fun j v hv=>by
 obtain⟨hl,a',cap,he,h1,h2,h3,h4⟩:=Rd.of_owns h.devs;have hlt:=(List.getElem?_eq_some_iff.1 hv).1;obtain⟨g,o,rfl,hc⟩:=h4 (by rw[hl];omega);cases he
 have:=hc (d*5+j) v (fT (c:=yO f Z) (fun x _=>rfl) (iG hd) hv)
 rwa [Nat.zero_add] at this
theorem bP.sec{w:World}{a dv dc D Z:Nat}{lv:Value}{st:Int}{f:Nat->Nat}{F:Nat->Nat->List UInt8}{W:List Lw}(h:bP w a dv dc lv st f F W D Z){d s:Nat}(hd:d<D)(hs:s<Z):w.rangeAt (f d) (s*256) ((F d s).map vb):=fun j v hv=>by
 have:=fT (c:=fun s=>(F d s).map vb) (n:=256) (fun x hx=>by rw[List.length_map];exact h.fok d x hd (List.mem_range.1 hx)) (iG hs) hv;exact aC (h.firm d hd) (by rw[List.getElem?_toArray];exact this)
theorem bP.wr{w:World}{a dv dc D Z:Nat}{lv:Value}{st:Int}{f:Nat->Nat}{F:Nat->Nat->List UInt8}{W:List Lw}(h:bP w a dv dc lv st f F W D Z){k:Nat}{x:Lw}(hk:W[k]?=some x):∃g cap,lv=.slice (some ⟨g,0,none⟩) W.length cap/\w.rangeAt g (k*258) (dU x):=by
 have hlt:=(List.getElem?_eq_some_iff.1 hk).1;have hr:=Rd.of_owns h.loose;rcases h.loose.2 with⟨-,h0⟩|⟨g,cap,cur,rfl,-,-,-⟩
 ·omega
 ·refine⟨g,cap,rfl,fun j v hv=>?_⟩
  have hlt2:=(List.getElem?_eq_some_iff.1 hv).1;obtain⟨hl,a',c',he,-,-,-,h4⟩:=hr;cases he
  obtain⟨g',o',he,hc⟩:=h4 (by rw[hl];omega);cases he
  have:=hc (k*258+j) v (fT (c:=dU) (n:=258) (fun y hy=>kU (h.wok y hy).1) hk hv)
  rwa [Nat.zero_add] at this
theorem bP.lv{w:World}{a dv dc D Z:Nat}{lv:Value}{st:Int}{f:Nat->Nat}{F:Nat->Nat->List UInt8}{W:List Lw}(h:bP w a dv dc lv st f F W D Z):∃p cap,lv=.slice p W.length cap:=by
 rcases h.loose.2 with⟨rfl,h0⟩|⟨g,cap,cur,rfl,-,-,-⟩
 ·exact⟨_,_,by rw[h0]⟩
 ·exact⟨_,_,rfl⟩
def dB:List Value:=List.replicate 256 (.int .u8 0)
def fU:List Value:=.int .i64 0::.int .i64 0::dB
def aH:List Value:=aE (.slice none 0 0) zPt
def dC:List Value:=.int .i64 0::(aH++aH++aH++aH)
def jJ:List Value:=[.int .i64 0,.int .i64 0]
theorem Ke:Hid (∀w,(zeroValue 210).run Tryz.prog w=.ok (.agg dB.toArray) w):=O fun w=>by kernel_rfl
theorem lM:dB.length=256:=rfl
theorem Aj:Hid (∀w,(zeroValue 212).run Tryz.prog w=.ok (.agg fU.toArray) w):=O fun w=>by kernel_rfl
theorem iP:fU.length=258:=rfl
theorem bG:Hid (∀w,(zeroValue 27).run Tryz.prog w=.ok (.agg aH.toArray) w):=O fun w=>by kernel_rfl
theorem aG:aH.length=35:=rfl
theorem jK:Hid (∀w,(zeroValue 98).run Tryz.prog w=.ok (.agg dC.toArray) w):=O fun w=>by kernel_rfl
theorem bT:dC.length=141:=rfl
theorem uG:Hid (∀w,(zeroValue 82).run Tryz.prog w=.ok (.agg jJ.toArray) w):=O fun w=>by kernel_rfl
theorem kV:(Tryz.prog.info? 210).map (·.size)=some 256:=by kernel_rfl
theorem jY:(Tryz.prog.info? 212).map (·.size)=some 258:=by kernel_rfl
theorem dF:(Tryz.prog.info? 27).map (·.size)=some 35:=by kernel_rfl
theorem szP9 {l:List Value}(h:l.length=35):(Tryz.prog.info? 27).map (·.size)=some l.length:=by rw[h];exact dF
theorem dG:(Tryz.prog.info? 98).map (·.size)=some 141:=by kernel_rfl
theorem iM:(Tryz.prog.info? 82).map (·.size)=some 2:=by kernel_rfl
theorem uH:(Tryz.prog.info? 25).map (·.size)=some 32:=by kernel_rfl
theorem nX:(Tryz.prog.info? 45).map (·.size)=some 69:=by kernel_rfl
theorem oX:Tryz.prog.underlying 212=some (.struct (Tryz.prog.fieldsOf 212)):=by kernel_rfl
theorem NX:Hid (∀w,(zeroValue 3).run Tryz.prog w=.ok (.int .i64 0) w):=O fun w=>by kernel_rfl
theorem jZ:Hid (∀w,(zeroValue 49).run Tryz.prog w=.ok (.int .i64 0) w):=O fun w=>by kernel_rfl
theorem Nm:Hid (∀w,(zeroValue 109).run Tryz.prog w=.ok (.slice none 0 0) w):=O fun w=>by kernel_rfl
theorem Nn:Hid (∀w,(zeroValue 23).run Tryz.prog w=.ok (.slice none 0 0) w):=O fun w=>by kernel_rfl
theorem sJ(x:Lw):∀u∈dU x,u.oneCell'=true:=by
 intro u hu;unfold dU at hu;rcases List.mem_cons.1 hu with rfl|hu
 ·rfl
 rcases List.mem_cons.1 hu with rfl|hu
 ·rfl
 exact bN _ u hu
variable {w:World}{a dv dc D Z:Nat}{lv:Value}{st:Int}{f:Nat->Nat}{F:Nat->Nat->List UInt8}{W:List Lw}
theorem BY(h:bP w a dv dc lv st f F W D Z):Calls Tryz.prog 114 #[.pointer (some ⟨a,0,none⟩)] w (aK w (.bool false)):=by
 have c0:=aC (i:=0) h.top rfl;have hb:=h.bd;have hd:((D:Int) == 0)=false:=by rw[beq_eq_false_iff_ne];omega
 clear h hb;go_in;go_wp2;go_ret;exact aK.of (by first|exact aA.refl _ _|exact HK.out)
theorem kA(w:World)(b:Bool)(e:Int):Calls Tryz.prog 147 #[.bool b,.int .i64 e] w (aK w (.int .i64 (if b then 0 else e))):=by
 cases b
 all_goals
  go_in;go_wp2;go_ret;exact aK.of (aA.refl _ _)
theorem Kf(h:bP w a dv dc lv st f F W D Z)(d:Int):Calls Tryz.prog 118 #[.pointer (some ⟨a,0,none⟩),.int .i64 d] w (aK w (.bool (decide (0≤d) && decide (d<(D:Int))))):=by
 have c0:=aC (i:=0) h.top rfl;clear h
 by_cases h1:0≤d
 ·have e1:decide (0≤d)=true:=by simpa using h1
  rw[e1,Bool.true_and];obtain⟨bb,hbb⟩:∃b,decide (d<(D:Int))=b:=⟨_,rfl⟩
  rw[hbb];go_in;go_wp2;go_ret;exact aK.of (aA.refl _ _)
 ·have e1:decide (0≤d)=false:=by simpa using h1
  rw[e1,Bool.false_and];go_in;go_wp2;go_ret;exact aK.of (aA.refl _ _)
theorem NY(h:bP w a dv dc lv st f F W D Z):Calls Tryz.prog 76 #[.pointer (some ⟨a,0,none⟩)] w (aK w (.int .i64 (D:Int))):=by
 have HN:=O (BY h);have c0:=aC (i:=0) h.top rfl;have HH:=O h.top;clear h c0;go_in;go_wp2_with fail;refine HN.out.mono ?_;rintro e w1 ⟨rfl,hk⟩;have HK:=O hk;have c0:=aC (i:=0) (hk.blk HH.out id) rfl;clear hk;go_wp2;go_ret;exact aK.of (by first|exact aA.refl _ _|exact HK.out)
theorem BZ(h:bP w a dv dc lv st f F W D Z):Calls Tryz.prog 120 #[.pointer (some ⟨a,0,none⟩)] w (aK w (.int .i64 (Z:Int))):=by
 have HN:=O (BY h);have HH:=O h;have hb:=h.bd;clear h;go_in;go_wp2_with fail;refine HN.out.mono ?_;rintro e w1 ⟨rfl,hk⟩;have HK:=O hk;have c0:=aC (i:=0) (hk.blk HH.out.top id) rfl;have c1:w1.cell? ⟨dv,0,none⟩=some (.slice (some ⟨f 0,0,none⟩) Z Z):=hk.cell (by have:=HH.out.dev (d:=0) (by omega) 0 _ rfl;simpa using this) id;clear hk;go_wp2;go_ret;exact aK.of (by first|exact aA.refl _ _|exact HK.out)
theorem B4(h:bP w a dv dc lv st f F W D Z):Calls Tryz.prog 131 #[.pointer (some ⟨a,0,none⟩)] w (aK w (.int .i64 0)):=by
 have HN:=O (BY h);clear h;go_in;go_wp2_with fail;refine HN.out.mono ?_;rintro e w1 ⟨rfl,hk⟩;go_wp2_with fail;refine(kA w1 true 1).mono ?_;rintro e w2 ⟨rfl,hk2⟩;have HK:=O (hk.trans hk2);clear hk hk2 HN;go_wp2;go_ret;exact aK.of HK.out
theorem B5(h:bP w a dv dc lv st f F W D Z):Calls Tryz.prog 132 #[.pointer (some ⟨a,0,none⟩)] w (aK w (.int .i64 0)):=by
 have c3:=aC (i:=3) h.top rfl;clear h;go_in;go_wp2_with fail;refine(kA w true 10).mono ?_;rintro e w2 ⟨rfl,hk2⟩;have HK:=O hk2;clear hk2;go_wp2;go_ret;exact aK.of HK.out
variable {w:World}{a dv dc D Z:Nat}{lv:Value}{st:Int}{f:Nat->Nat}{F:Nat->Nat->List UInt8}{W:List Lw}
theorem CQ(w:World)(x y:Int):(Instr.build 265 #[(0,.int .i64 x),(1,.int .i64 y)]).run Tryz.prog w=.ok (.agg #[.int .i64 x,.int .i64 y]) w:=by kernel_rfl
def yP(I:Nat->World->Prop)(c:Nat->Int)(dev:Int)(n m:Nat)(e:Ending)(w':World):Prop:=
 (m=n->e=.returned .nilIface)/\(m<n->e=.returned (.iface 265 (.agg #[.int .i64 (c m),.int .i64 dev])))/\I (min n (m+1)) w'
theorem oR(w:World)(dev:Int)(g n m:Nat)(fs:Array Value)(c:Nat->Int)(I:Nat->World->Prop)(hn:n≤100)(hm:m≤n)(hI:∀k wr,I k wr->wr.heap[g]?=some (.cells fs 113 (0,0)))
 (hfs:∀k,k<n->fs[k]?=some (fs.getD k .nilFunc)) (h0:I 0 w) (hz:∀k,k<m->c k=0) (hcz:m<n->c m≠0)
 (hf:∀k,k<n->k≤m->∃G x,(fs.getD k .nilFunc=.func (.func G) #[] x\/fs.getD k .nilFunc=.func (.func G) x #[])/\(∀w,Sem.run Tryz.prog (callFunc G x) w=.ok (.enter G x) w)/\∀wr,I k wr->Calls Tryz.prog G x wr fun e w'=>e=.returned (.int .i64 (c k))/\I (k+1) w') :
 Calls Tryz.prog 130 #[.int .i64 dev,.slice (some ⟨g,0,none⟩) n n] w (yP I c dev n m):=by
 have H0:=O h0;have HF:=O hf;have hc0s:=O hz;have hcm:=O hcz;clear h0 hf hz hcz;go_in;go_wp2_with fail
 go_loopw [10] (fun i wr=>∃k:Nat,k≤m/\i=.int .i64 k/\Hid (I k wr)) (fun i _=>n-(intOf i).toNat)
 case atStart=>exact⟨0,by omega,rfl,H0⟩
 case round =>
  clear H0;obtain⟨k,hk,rfl,hR⟩:=hrel
  by_cases hk8:k<n
  ·obtain⟨G,x,hv,hcall,hC⟩:=HF.out k hk8 hk
   rcases hv with hv|hv
   ·skip
    have hc0:wr.cell? ⟨g,k,none⟩=some (.func (.func G) #[] x):=by have:=aC (hI k wr hR.out) (hfs k hk8);rwa [hv] at this
    have hk0:(0:Int)≤(k:Int):=by omega
    have hk1:(k:Int)<(n:Int):=by omega
    clear hv;go_wp2_with fail;refine(hC wr hR.out).mono ?_;rintro e w2 ⟨rfl,h1⟩;have HR2:=O h1;clear h1 hc0 hcall hC
    by_cases hkm:k<m
    ·have hz:=hc0s.out k hkm
     rw[hz];clear hz;go_wp2
     go_roundw
     case rel=>exact⟨k+1,by omega,by go_num,HR2⟩
     case measure=>simp[intOf];omega
    ·obtain rfl:m=k:=by omega
     have hnz:=hcm.out hk8;have hnz2:(c m != 0)=true:=by simpa using hnz
     have HP:Hid (yP I c dev n m (.returned (.iface 265 (.agg #[.int .i64 (c m),.int .i64 dev]))) w2):=O ⟨fun e=>absurd e (by omega),fun _=>rfl,by rw[Nat.min_eq_right (by omega)];exact HR2.out⟩;have hbd:=fun w=>CQ w (c m) dev
     clear hnz hk0 hk1;go_wp2;go_ret;exact HP.out
   ·skip
    have hc0:wr.cell? ⟨g,k,none⟩=some (.func (.func G) x #[]):=by have:=aC (hI k wr hR.out) (hfs k hk8);rwa [hv] at this
    have hk0:(0:Int)≤(k:Int):=by omega
    have hk1:(k:Int)<(n:Int):=by omega
    clear hv;go_wp2_with fail;refine(hC wr hR.out).mono ?_;rintro e w2 ⟨rfl,h1⟩;have HR2:=O h1;clear h1 hc0 hcall hC
    by_cases hkm:k<m
    ·have hz:=hc0s.out k hkm
     rw[hz];clear hz;go_wp2
     go_roundw
     case rel=>exact⟨k+1,by omega,by go_num,HR2⟩
     case measure=>simp[intOf];omega
    ·obtain rfl:m=k:=by omega
     have hnz:=hcm.out hk8;have hnz2:(c m != 0)=true:=by simpa using hnz
     have HP:Hid (yP I c dev n m (.returned (.iface 265 (.agg #[.int .i64 (c m),.int .i64 dev]))) w2):=O ⟨fun e=>absurd e (by omega),fun _=>rfl,by rw[Nat.min_eq_right (by omega)];exact HR2.out⟩;have hbd:=fun w=>CQ w (c m) dev
     clear hnz hk0 hk1;go_wp2;go_ret;exact HP.out
  ·obtain rfl:n=k:=by omega
   have hmn:m=n:=by omega
   have HP:Hid (yP I c dev n m (.returned .nilIface) wr):=O ⟨fun _=>rfl,fun e=>absurd e (by omega),by rw[Nat.min_eq_left (by omega)];exact hR.out⟩;clear hmn hR;go_wp2;go_ret;exact HP.out
variable {w:World}{a dv dc D Z:Nat}{lv:Value}{st:Int}{f:Nat->Nat}{F:Nat->Nat->List UInt8}{W:List Lw}
def mL(d s:Int)(D Z:Nat):Bool:=(decide (0≤d) && decide (d<(D:Int))) && decide (0≤s) && decide (s<(Z:Int))
theorem No(h:bP w a dv dc lv st f F W D Z)(d s:Int):Calls Tryz.prog 200 #[.pointer (some ⟨a,0,none⟩),.int .i64 d,.int .i64 s] w (aK w (.bool (mL d s D Z))):=by
 have HD:=O (Kf h d);have HA:=O h;obtain⟨r,hr⟩:∃r,mL d s D Z=r:=⟨_,rfl⟩
 obtain⟨b1,hb1⟩:∃b,(decide (0≤d) && decide (d<(D:Int)))=b:=⟨_,rfl⟩
 rw[hr];unfold mL at hr;rw[hb1] at HD hr;clear hb1 h;cases b1
 ·obtain rfl:r=false:=by rw[←hr];rfl
  clear hr;go_in;go_wp2_with fail;refine HD.out.mono ?_;rintro e w1 ⟨rfl,hk⟩;have HK:=O hk;have HS:=O (BZ (HA.out.keep hk fun _ h=>h.elim));clear hk HD;go_wp2;go_ret;exact aK.of HK.out
 ·by_cases h1:0≤s
  ·obtain⟨b2,hb2⟩:∃b,decide (s<(Z:Int))=b:=⟨_,rfl⟩
   obtain rfl:r=b2:=by rw[←hr,←hb2,decide_eq_true h1];rfl
   clear hr;go_in;go_wp2_with fail;refine HD.out.mono ?_;rintro e w1 ⟨rfl,hk⟩;have HK:=O hk;have HS:=O (BZ (HA.out.keep hk fun _ h=>h.elim));clear hk HD;go_wp2_with fail;refine HS.out.mono ?_;rintro e w2 ⟨rfl,hk2⟩;replace HK:=O (HK.out.trans hk2);clear hk2;go_wp2;go_ret;exact aK.of HK.out
  ·obtain rfl:r=false:=by rw[←hr,decide_eq_false h1];rfl
   clear hr;go_in;go_wp2_with fail;refine HD.out.mono ?_;rintro e w1 ⟨rfl,hk⟩;have HK:=O hk;have HS:=O (BZ (HA.out.keep hk fun _ h=>h.elim));clear hk HD;go_wp2;go_ret;exact aK.of HK.out
theorem aup(h:bP w a dv dc lv st f F W D Z)(d:Int):Calls Tryz.prog 82 #[.pointer (some ⟨a,0,none⟩),.int .i64 d] w (aK w (.bool (decide (0≤d) && decide (d<(D:Int))))):=by
 have HN:=O (BY h);have HA:=O h;clear h;obtain⟨b1,hb1⟩:∃b,(decide (0≤d) && decide (d<(D:Int)))=b:=⟨_,rfl⟩
 have HB:=O hb1;rw[hb1];clear hb1;go_in;go_wp2_with fail;refine HN.out.mono ?_;rintro e w1 ⟨rfl,hk⟩;have HK:=O hk;have ha1:=HA.out.keep hk fun _ h=>h.elim
 have HA1:=O ha1;have c3:=aC (i:=3) ha1.top rfl;clear hk HN ha1;go_wp2_with fail;refine(Kf HA1.out d).mono ?_;rintro e w2 ⟨rfl,hk2⟩;rw[HB.out];have HK2:=O (HK.out.trans hk2);have ha2:=HA1.out.keep hk2 fun _ h=>h.elim
 have HA2:=O ha2;have c0:=aC (i:=0) ha2.top rfl;clear hk2 c3 HA1 ha2;cases b1
 ·go_wp2
  go_ret;exact aK.of HK2.out
 ·have hb:=HB.out
  rw[Bool.and_eq_true,decide_eq_true_eq,decide_eq_true_eq] at hb;obtain⟨d,rfl⟩:∃n:Nat,d=(n:Int):=⟨d.toNat,by omega⟩
  have hd:d<D:=by omega
  have hd2:(d:Int)<(D:Int):=by omega
  have hd0:(0:Int)≤(d:Int):=by omega
  have c1:w2.cell? ⟨dv,d*5+1,none⟩=some (.bool false):=HA2.out.dev hd 1 _ rfl;clear hb;go_wp2;go_ret;exact aK.of HK2.out
def kW(w:World)(G:Nat)(cs:List (Value×TypeId))(e:Ending)(w':World):Prop:=
 ∃bs:List Nat,e=.returned (.func (.func G) #[] (bs.map fun b=>.pointer (some ⟨b,0,none⟩)).toArray)/\bs.length=cs.length/\(∀(i b:Nat) (c:Value×TypeId),bs[i]?=some b->cs[i]?=some c->w'.heap[b]?=some (.cells #[c.1] c.2 (0,0)))/\aA aB w w'/\∀b∈bs,w.heap.size≤b
theorem uI(w:World)(a:Nat)(d s:Int):Calls Tryz.prog 148 #[.pointer (some ⟨a,0,none⟩),.int .i64 d,.int .i64 s] w (kW w 199 [(Value.pointer (some ⟨a,0,none⟩),40),(.int .i64 d,3),(.int .i64 s,3)]):=by
 have HL:=lN w;go_in
 go_wp2_with ((with_reducible show WL _ _);refine bxL HL 40 (.tmp 0) (#[.pointer (some ⟨a,0,none⟩)]) ?_)
 intro b3 w1 hk HL;clear hk
 go_wp2_with ((with_reducible show WL _ _);refine bxL HL 3 (.tmp 1) (#[.int .i64 d]) ?_)
 intro b4 w2 hk HL;clear hk
 go_wp2_with ((with_reducible show WL _ _);refine bxL HL 3 (.tmp 2) (#[.int .i64 s]) ?_)
 intro b5 w3 hk HL;clear hk;go_wp2;go_ret;refine⟨[b3,b4,b5],rfl,rfl,?_,HL.out.keep,?_⟩
 ·intro i b c hb hc
  match i,hb,hc with
  | 0,hb,hc=>cases hb;cases hc;exact HL.out.b 2
  | 1,hb,hc=>cases hb;cases hc;exact HL.out.b 1
  | 2,hb,hc=>cases hb;cases hc;exact HL.out.b 0
  | i+3,hb,_=>simp at hb
 ·intro b hb
  simp only[List.mem_cons,List.not_mem_nil,or_false] at hb;rcases hb with rfl|rfl|rfl
  ·exact(HL.out.lt 2).1
  ·exact(HL.out.lt 1).1
  ·exact(HL.out.lt 0).1
theorem oS(w:World)(a:Nat)(d:Int):Calls Tryz.prog 134 #[.pointer (some ⟨a,0,none⟩),.int .i64 d] w (kW w 188 [(Value.pointer (some ⟨a,0,none⟩),40),(.int .i64 d,3)]):=by
 have HL:=lN w;go_in
 go_wp2_with ((with_reducible show WL _ _);refine bxL HL 40 (.tmp 0) (#[.pointer (some ⟨a,0,none⟩)]) ?_)
 intro b2 w1 hk HL;clear hk
 go_wp2_with ((with_reducible show WL _ _);refine bxL HL 3 (.tmp 1) (#[.int .i64 d]) ?_)
 intro b3 w2 hk HL;clear hk;go_wp2;go_ret;refine⟨[b2,b3],rfl,rfl,?_,HL.out.keep,?_⟩
 ·intro i b c hb hc
  match i,hb,hc with
  | 0,hb,hc=>cases hb;cases hc;exact HL.out.b 1
  | 1,hb,hc=>cases hb;cases hc;exact HL.out.b 0
  | i+2,hb,_=>simp at hb
 ·intro b hb
  simp only[List.mem_cons,List.not_mem_nil,or_false] at hb;rcases hb with rfl|rfl
  ·exact(HL.out.lt 1).1
  ·exact(HL.out.lt 0).1
theorem FV(w:World)(a:Nat)(d:Int):Calls Tryz.prog 133 #[.pointer (some ⟨a,0,none⟩),.int .i64 d] w (kW w 187 [(Value.pointer (some ⟨a,0,none⟩),40),(.int .i64 d,3)]):=by
 have HL:=lN w;go_in
 go_wp2_with ((with_reducible show WL _ _);refine bxL HL 40 (.tmp 0) (#[.pointer (some ⟨a,0,none⟩)]) ?_)
 intro b2 w1 hk HL;clear hk
 go_wp2_with ((with_reducible show WL _ _);refine bxL HL 3 (.tmp 1) (#[.int .i64 d]) ?_)
 intro b3 w2 hk HL;clear hk;go_wp2;go_ret;refine⟨[b2,b3],rfl,rfl,?_,HL.out.keep,?_⟩
 ·intro i b c hb hc
  match i,hb,hc with
  | 0,hb,hc=>cases hb;cases hc;exact HL.out.b 1
  | 1,hb,hc=>cases hb;cases hc;exact HL.out.b 0
  | i+2,hb,_=>simp at hb
 ·intro b hb
  simp only[List.mem_cons,List.not_mem_nil,or_false] at hb;rcases hb with rfl|rfl
  ·exact(HL.out.lt 1).1
  ·exact(HL.out.lt 0).1
theorem sK(h:bP w a dv dc lv st f F W D Z)(d s:Int)(p0 p1 p2:Nat)(hp0:w.heap[p0]?=some (.cells #[.pointer (some ⟨a,0,none⟩)] 40 (0,0)))(hp1:w.heap[p1]?=some (.cells #[.int .i64 d] 3 (0,0)))(hp2:w.heap[p2]?=some (.cells #[.int .i64 s] 3 (0,0))):Calls Tryz.prog 199 #[.pointer (some ⟨p0,0,none⟩),.pointer (some ⟨p1,0,none⟩),.pointer (some ⟨p2,0,none⟩)] w (aK w (.int .i64 (if mL d s D Z then 0 else 5))):=by
 have HS:=O (No h d s);have q0:=aC (i:=0) hp0 rfl;have q1:=aC (i:=0) hp1 rfl;have q2:=aC (i:=0) hp2 rfl;obtain⟨bb,hbb⟩:∃b,mL d s D Z=b:=⟨_,rfl⟩
 rw[hbb] at HS ⊢;clear h hp0 hp1 hp2 hbb;cases bb
 all_goals
  go_in;go_wp2_with fail;refine HS.out.mono ?_;rintro e w1 ⟨rfl,hk⟩;go_wp2_with fail;refine(kA w1 _ 5).mono ?_;rintro e w2 ⟨rfl,hk2⟩;have HK:=O (hk.trans hk2);clear hk hk2 HS q0 q1 q2;go_wp2;go_ret;exact aK.of HK.out
theorem Eg(h:bP w a dv dc lv st f F W D Z)(d:Int)(p0 p1:Nat)(hp0:w.heap[p0]?=some (.cells #[.pointer (some ⟨a,0,none⟩)] 40 (0,0)))(hp1:w.heap[p1]?=some (.cells #[.int .i64 d] 3 (0,0))):Calls Tryz.prog 187 #[.pointer (some ⟨p0,0,none⟩),.pointer (some ⟨p1,0,none⟩)] w (aK w (.int .i64 (if (decide (0≤d) && decide (d<(D:Int))) then 0 else 5))):=by
 have HS:=O (Kf h d);have q0:=aC (i:=0) hp0 rfl;have q1:=aC (i:=0) hp1 rfl;obtain⟨bb,hbb⟩:∃b,(decide (0≤d) && decide (d<(D:Int)))=b:=⟨_,rfl⟩
 rw[hbb] at HS ⊢;clear h hp0 hp1 hbb;cases bb
 all_goals
  go_in;go_wp2_with fail;refine HS.out.mono ?_;rintro e w1 ⟨rfl,hk⟩;go_wp2_with fail;refine(kA w1 _ 5).mono ?_;rintro e w2 ⟨rfl,hk2⟩;have HK:=O (hk.trans hk2);clear hk hk2 HS q0 q1;go_wp2;go_ret;exact aK.of HK.out
theorem qV(h:bP w a dv dc lv st f F W D Z){d:Nat}(hd:d<D)(p0 p1:Nat)(hp0:w.heap[p0]?=some (.cells #[.pointer (some ⟨a,0,none⟩)] 40 (0,0)))(hp1:w.heap[p1]?=some (.cells #[.int .i64 d] 3 (0,0))):Calls Tryz.prog 188 #[.pointer (some ⟨p0,0,none⟩),.pointer (some ⟨p1,0,none⟩)] w (aK w (.int .i64 0)):=by
 have HL:=lN w;have HP0:=O hp0;have HP1:=O hp1;have HA:=O h.top;have HD:=O (h.dev hd);clear hp0 hp1 h;have hd2:(d:Int)<(D:Int):=by omega
 have hd0:(0:Int)≤(d:Int):=by omega
 go_in;go_wp2_with fail;refine dwA aB (by kernel_rfl) ?_;intro w1 S HSE HSI hS hkd;replace HL:=kL HL hkd;replace HP0:=O (hkd.blk HP0.out id);replace HP1:=O (hkd.blk HP1.out id);replace HA:=O (hkd.blk HA.out id);replace HD:=O (hkd.rangeAt HD.out);clear hkd;have HLs:=HL;have HP0s:=HP0;have HP1s:=HP1;have HAs:=HA;have HDs:=HD;refine tnd 0 (.pointer (some ⟨a,0,none⟩)) rfl (.inl ⟨by rfl,fun w' hw'=>by have c:=(HSE.out w' hw').cell (aC (i:=0) HP0s.out rfl) id;go_simp⟩) hS ?_;refine tnb 1 (.pointer (some ⟨a,0,none⟩)) rfl hS ?_;refine tnb 2 (.pointer (some ⟨a,0,none⟩)) rfl hS ?_;refine tnd 3 (.slice (some ⟨dv,0,none⟩) D dc) rfl (.inl ⟨by rfl,fun w' hw'=>by have c:=(HSE.out w' hw').cell (aC (i:=0) HAs.out rfl) id;go_simp⟩) hS ?_;refine tnd 4 (.int .i64 (d:Int)) rfl (.inl ⟨by rfl,fun w' hw'=>by have c:=(HSE.out w' hw').cell (aC (i:=0) HP1s.out rfl) id;go_simp⟩) hS ?_;refine tnb 5 (.pointer (some ⟨dv,d*5,none⟩)) rfl hS ?_;refine tnb 6 (.pointer (some ⟨dv,d*5+1,none⟩)) rfl hS ?_;refine tnd 7 (.bool false) rfl (.inl ⟨by rfl,fun w' hw'=>by have c:=(HSE.out w' hw').cell (show World.cell? _ ⟨dv,d*5+1,none⟩=some (.bool false) from HDs.out 1 _ rfl) id;go_simp⟩) hS ?_;refine tnb 8 (.bool true) rfl hS ?_;refine wA9 9 ?_;go_wp2_with fail;refine(kA w1 true 14).mono ?_;rintro e w2 ⟨rfl,hk⟩;have hS1:=HSI.out _ ((HSE.out _ hS).trans hk);replace HL:=kL HL hk;replace HP0:=O (hk.blk HP0.out id);replace HP1:=O (hk.blk HP1.out id);replace HA:=O (hk.blk HA.out id);replace HD:=O (hk.rangeAt HD.out);clear hS hk;go_wp2_with fail;refine⟨hS1,?_⟩;refine tna 10 (.int .i64 0) rfl hS1 ?_;refine wpAnyH_done (by kernel_rfl) ?_ _;clear hS1 HSE HSI HLs HP0s HP1s HAs HDs;go_wp2;go_ret;exact aK.of HL.out.keep
theorem Im(w:World)(p n c:Nat)(q:Option Addr)(hp:w.heap[p]?=some (.cells #[.slice q n c] 109 (0,0))):Calls Tryz.prog 146 #[.pointer (some ⟨p,0,none⟩)] w (aK w (.int .i64 (if n=256 then 0 else 2))):=by
 have q0:=aC (i:=0) hp rfl;obtain⟨bb,hbb⟩:∃b,decide (n=256)=b:=⟨_,rfl⟩
 have he:((n:Int) == 256)=bb:=by rw[←hbb,Bool.eq_iff_iff,beq_iff_eq,decide_eq_true_eq];omega
 have hi:(if n=256 then (0:Int) else 2)=if bb then 0 else 2:=by rw[←hbb];simp
 rw[hi];clear hp hbb hi;cases bb
 all_goals
  go_in;go_wp2_with fail;refine(kA w _ 2).mono ?_;rintro e w2 ⟨rfl,hk2⟩;have HK:=O hk2;clear hk2 q0 he;go_wp2;go_ret;exact aK.of HK.out
theorem In(h:bP w a dv dc lv st f F W D Z){d:Nat}(hd:d<D)(p0 p1:Nat)(hp0:w.heap[p0]?=some (.cells #[.pointer (some ⟨a,0,none⟩)] 40 (0,0)))(hp1:w.heap[p1]?=some (.cells #[.int .i64 d] 3 (0,0))):Calls Tryz.prog 166 #[.pointer (some ⟨p0,0,none⟩),.pointer (some ⟨p1,0,none⟩)] w (aK w (.int .i64 0)):=by
 have HL:=lN w;have HP0:=O hp0;have HP1:=O hp1;have HA:=O h.top;have HD:=O (h.dev hd);clear hp0 hp1 h;have hd2:(d:Int)<(D:Int):=by omega
 have hd0:(0:Int)≤(d:Int):=by omega
 go_in;go_wp2_with fail;refine dwA aB (by kernel_rfl) ?_;intro w1 S HSE HSI hS hkd;replace HL:=kL HL hkd;replace HP0:=O (hkd.blk HP0.out id);replace HP1:=O (hkd.blk HP1.out id);replace HA:=O (hkd.blk HA.out id);replace HD:=O (hkd.rangeAt HD.out);clear hkd;have HLs:=HL;have HP0s:=HP0;have HP1s:=HP1;have HAs:=HA;have HDs:=HD;refine tnd 0 (.pointer (some ⟨a,0,none⟩)) rfl (.inl ⟨by rfl,fun w' hw'=>by have c:=(HSE.out w' hw').cell (aC (i:=0) HP0s.out rfl) id;go_simp⟩) hS ?_;refine tnb 1 (.pointer (some ⟨a,0,none⟩)) rfl hS ?_;refine tnb 2 (.pointer (some ⟨a,0,none⟩)) rfl hS ?_;refine tnd 3 (.slice (some ⟨dv,0,none⟩) D dc) rfl (.inl ⟨by rfl,fun w' hw'=>by have c:=(HSE.out w' hw').cell (aC (i:=0) HAs.out rfl) id;go_simp⟩) hS ?_;refine tnd 4 (.int .i64 (d:Int)) rfl (.inl ⟨by rfl,fun w' hw'=>by have c:=(HSE.out w' hw').cell (aC (i:=0) HP1s.out rfl) id;go_simp⟩) hS ?_;refine tnb 5 (.pointer (some ⟨dv,d*5,none⟩)) rfl hS ?_;refine tna 6 (.pointer (some ⟨dv,d*5,none⟩)) rfl hS ?_;refine wpAnyH_done (by kernel_rfl) ?_ _;clear hS HSE HSI HLs HP0s HP1s HAs HDs;have c4:w1.cell? ⟨dv,d*5+4,none⟩=some (.int .i64 0):=HD.out 4 _ rfl;go_wp2;go_ret;exact aK.of HL.out.keep
variable {w:World}{a dv dc D Z:Nat}{lv:Value}{st:Int}{f:Nat->Nat}{F:Nat->Nat->List UInt8}{W:List Lw}
theorem CR{w:World}{b:Nat}{x:Lw}(h:w.heap[b]?=some (.cells (dU x).toArray WrT (0,0))):w.rangeAt b 2 (x.b.map vb):=fun j v hv=>by
 have:=aD h (2+j) v (by unfold dU;rw[Nat.add_comm 2 j];exact hv)
 rwa [Nat.zero_add] at this
theorem sL{D Z d s:Nat}:∀{l:List Lw}{b:List UInt8},vJ D Z l->b.length=256->(dV l d s b).length=256
 | [],b,_,hb=>hb
 | y::l,b,hl,hb=>by
   refine sL (l:=l) (fun z hz=>hl z (List.mem_cons_of_mem _ hz)) ?_;split
   ·exact(hl y (List.mem_cons_self ..)).1
   ·exact hb
def Kg(w:World)(b:List UInt8)(e:Ending)(w':World):Prop:=∃v,e=.returned v/\w'.ownsRow w.heap.size 5 1 v 256 (b.map vb)/\aA aB w w'
theorem AX(h:bP w a dv dc lv st f F W D Z){d s:Nat}(hd:d<D)(hs:s<Z):Calls Tryz.prog 167 #[.pointer (some ⟨a,0,none⟩),.int .i64 (d:Int),.int .i64 (s:Int)] w (Kg w (dV W d s (F d s))):=by
 obtain⟨p,cap,rfl⟩:=h.lv;have HL:=lN w;have HH:=O h;have HA:=O h.top;have HD:=O (h.dev hd);have HS:=O (h.sec hd hs);have hmx:W.length≤maxLen:=by obtain⟨_,a',c',h1,h2,h3,-⟩:=Rd.of_owns h.loose;omega
 unfold maxLen at hmx;have hd2:(d:Int)<(D:Int):=by omega
 have hd0:(0:Int)≤(d:Int):=by omega
 have hs2:(s:Int)<(Z:Int):=by omega
 have hs0:(0:Int)≤(s:Int):=by omega
 have HBD:=O h.bd;have HFO:=O (h.fok d s hd hs);obtain⟨b0,hb0e⟩:∃b,(F d s).map vb=b:=⟨_,rfl⟩
 have HB0:=O hb0e;have hb0:b0.length=256:=by rw[←hb0e,List.length_map];exact HFO.out
 have HO:Hid (∀u∈b0,u.oneCell'=true):=O (by rw[←hb0e];exact bN _);rw[hb0e] at HS;obtain⟨n,hn⟩:∃n,W.length=n:=⟨_,rfl⟩
 have HN:=O hn;rw[hn] at hmx HA;clear h hb0e hd hs hn;go_in;have c1:w.cell? ⟨a,0,none⟩=some (.slice (some ⟨dv,0,none⟩) D dc):=(aC (i:=0) HA.out rfl)
 have c2:w.cell? ⟨dv,d*5,none⟩=some (.slice (some ⟨f d,0,none⟩) Z Z):=(HD.out 0 _ rfl)
 go_wp2_with ((with_reducible show WL _ _);first
  | refine wpList_load_mid rfl 210 (.tmp 19) rfl (f d) (s*256) rfl b0 _ HS.out Tryz.underlying210 rfl (by rw[hb0];exact kV) ?_
  | refine al 210 (.agg dB.toArray) (dB.toArray) Ke ?_)
 clear c1 c2;intro b7 w1 hbs hk0 hb0_
 go_wp2_with ((with_reducible show WL _ _);refine sta 210 (.tmp 7) (.tmp 20) b7 0 b0 hb0_ (by first|decide|(rw[List.size_toArray,hb0];exact Nat.le_refl _)|simp[hb0,lM]) (by rw[hb0];exact kV) HO.out ?_)
 intro w2 hk hb;rw[aI _ _ (by first|rfl|(rw[List.size_toArray,hb0];rfl)|simp[hb0,lM])] at hb;replace hk:=tX hk0 hk (fun i hi e=>by omega);replace HL:=lW HL hbs hk hb;replace HA:=O (hk.blk HA.out id);replace HD:=O (hk.rangeAt HD.out);replace HS:=O (hk.rangeAt HS.out);clear hbs hk hb hk0 hb0_;have c1:w2.cell? ⟨a,1,none⟩=some (.slice p n cap):=(aC (i:=1) HA.out rfl)
 go_wp2_with fail;clear c1
 go_loopw [26] (fun i wr=>∃k:Nat,k≤n/\i=.int .i64 k/\Hid (Loc aB aB w wr [(b7,((dV (W.take k) d s (F d s)).map vb).toArray,gP)])) (fun i _=>n-(intOf i).toNat)
 case atStart=>exact⟨0,by omega,rfl,by rw[List.take_zero];show Hid (Loc _ _ _ _ [(_,((F d s).map vb).toArray,_)]);rw[HB0.out];exact HL⟩
 case round =>
  clear HL HS HA HD;obtain⟨k,hk,rfl,hR⟩:=hrel
  by_cases hk8:k<n
  ·obtain⟨x,hx⟩:∃x,W[k]?=some x:=⟨W[k]'(by rw[HN.out];exact hk8),List.getElem?_eq_getElem _⟩
   have hok:=HH.out.wok x (List.mem_of_getElem? hx);obtain⟨g,cap',hv,hat⟩:=HH.out.wr hx;cases hv
   have HX:=O (hR.out.keep.rangeAt hat);have HXX:=O hx;have HL:=hR;have hlx:=kU hok.1;have hxb:(x.b.map vb).length=256:=by rw[List.length_map];exact hok.1
   obtain⟨bk,hbk_⟩:∃b,(dV (W.take k) d s (F d s)).map vb=b:=⟨_,rfl⟩
   have HBK:=O hbk_;have hbk:bk.length=256:=by rw[←hbk_,List.length_map];exact sL (fun y hy=>HH.out.wok y (List.mem_of_mem_take hy)) HFO.out
   have HO:Hid (∀u∈bk,u.oneCell'=true):=O (by rw[←hbk_];exact bN _);rw[hbk_] at HL;have hk0:(0:Int)≤(k:Int):=by omega
   have hk1:(k:Int)<(n:Int):=by omega
   have HT:=O (FU hx d s (F d s));clear hR hbk_ hat hx hok
   go_wp2_with ((with_reducible show WL _ _);first
    | refine wpList_load_mid rfl 212 (.tmp 28) rfl g (k*258) rfl (dU x) _ HX.out oX rfl (by rw[hlx];exact jY) ?_
    | refine al 212 (.agg fU.toArray) (fU.toArray) Aj ?_)
   intro b9 w3 hbs hk0 hb0_
   go_wp2_with ((with_reducible show WL _ _);refine sta 212 (.tmp 9) (.tmp 29) b9 0 (dU x) hb0_ (by first|decide|(rw[List.size_toArray,hlx];exact Nat.le_refl _)|simp[hlx,iP]) (by rw[hlx];exact jY) (sJ x) ?_)
   intro w4 hk hb;rw[aI _ _ (by first|rfl|(rw[List.size_toArray,hlx];rfl)|simp[hlx,iP])] at hb;replace hk:=tX hk0 hk (fun i hi e=>by omega);replace HL:=lW HL hbs hk hb;replace HX:=O (hk.rangeAt HX.out);clear hbs hk hb hk0 hb0_;have HF:=O (HL.out.b 0);have c1:w4.cell? ⟨b9,0,none⟩=some (.int .i64 (x.dev:Int)):=aC (i:=0) HF.out (by rw[List.getElem?_toArray];rfl);have c2:w4.cell? ⟨b9,1,none⟩=some (.int .i64 (x.at_:Int)):=aC (i:=1) HF.out (by rw[List.getElem?_toArray];rfl);have HR2:=O (CR HF.out)
   by_cases h1:x.dev=d
   ·have e1:((x.dev:Int) == (d:Int))=true:=by rw[beq_iff_eq];omega
    by_cases h2:x.at_=s
    ·have e2:((x.at_:Int) == (s:Int))=true:=by rw[beq_iff_eq];omega
     clear HF
     go_wp2_with ((with_reducible show WL _ _);first
      | refine wpList_load_mid rfl 210 (.tmp 40) rfl b9 2 rfl (x.b.map vb) _ HR2.out Tryz.underlying210 rfl (by rw[hxb];exact kV) ?_
      | refine sta 210 (.tmp 7) (.tmp 41) b7 0 (x.b.map vb) (HL.out.b 1) (by first|decide|(rw[hxb];exact Nat.le_refl _)|simp[hxb,hbk]) (by rw[hxb];exact kV) (bN _) ?_)
     intro w5 hk hb;rw[aI _ _ (by first|rfl|simp[hxb,hbk])] at hb;replace HL:=O (HL.out.set 1 hk hb);clear hk hb;clear c1 c2 HR2;go_wp2
     go_roundw
     case rel=>exact⟨k+1,by omega,by go_num,by rw[HT.out,if_pos ⟨h1,h2⟩];exact O HL.out.tail⟩
     case measure=>simp[intOf];omega
    ·have e2:((x.at_:Int) == (s:Int))=false:=by rw[beq_eq_false_iff_ne];omega
     clear HF HR2;go_wp2
     go_roundw
     case rel=>exact⟨k+1,by omega,by go_num,by rw[HT.out,if_neg (fun e=>h2 e.2),HBK.out];exact O HL.out.tail⟩
     case measure=>simp[intOf];omega
   ·have e1:((x.dev:Int) == (d:Int))=false:=by rw[beq_eq_false_iff_ne];omega
    clear HF HR2;go_wp2
    go_roundw
    case rel=>exact⟨k+1,by omega,by go_num,by rw[HT.out,if_neg (fun e=>h1 e.1),HBK.out];exact O HL.out.tail⟩
    case measure=>simp[intOf];omega
  ·obtain rfl:n=k:=by omega
   rw[List.take_of_length_le (by rw[HN.out];exact Nat.le_refl _)] at hR;have hft:=hR.out.b 0;have hl:=sL (d:=d) (s:=s) HH.out.wok HFO.out;have HRD:Hid (Rd wr 1 (.slice (some ⟨b7,0,none⟩) 256 256) 256 ((dV W d s (F d s)).map vb)):=O (eE (n:=256) (size:=1) hft (by rw[List.length_map,hl]) (by unfold maxLen;omega));have HKR:=O hR.out.keep;obtain⟨bs,hbs⟩:∃b,(dV W d s (F d s)).map vb=b:=⟨_,rfl⟩
   have hbl:bs.length=256:=by rw[←hbs,List.length_map,hl]
   have HO2:Hid (∀u∈bs,u.oneCell'=true):=O (by rw[←hbs];exact bN _);rw[hbs] at HRD;have HBS:=O hbs;clear hR hft hl hbs
   go_wp2_with (at_builtin;refine aN rfl (.const (.slice none 0 0)) (.tmp 43) 109 rfl wr.heap.size 5 (.int .u8 0) 1 1 Tryz.underlying109 fN rfl (by omega) (.slice none 0 0) 0 [] rfl (World.ownsRow_nil _ _ _ _) (.slice (some ⟨b7,0,none⟩) 256 256) 256 bs rfl HRD.out HO2.out (by unfold maxLen;omega) (by omega) (Nat.le_refl _) ?_)
   intro v2 w3 ho5 hk5 hn5 hb5;have HK3:=O (HKR.out.trans (hk5.mono (T:=aB) fun k _ e=>by cases e));obtain⟨g',cap',rfl⟩:=ownsRow_succ ho5;have HO5:=O ho5;have hsz:=HKR.out.size;clear ho5 hk5 hn5 hb5;go_wp2;go_ret;exact⟨_,rfl,by rw[HBS.out];exact aV HO5.out hsz,HK3.out⟩
variable {w:World}{a dv dc D Z:Nat}{lv:Value}{st:Int}{f:Nat->Nat}{F:Nat->Nat->List UInt8}{W:List Lw}
theorem kW.three{w w':World}{G:Nat}{e:Ending}{c0 c1 c2:Value×TypeId}(h:kW w G [c0,c1,c2] e w'):∃p0 p1 p2,e=.returned (.func (.func G) #[] #[.pointer (some ⟨p0,0,none⟩),.pointer (some ⟨p1,0,none⟩),.pointer (some ⟨p2,0,none⟩)]) /\
 w'.heap[p0]?=some (.cells #[c0.1] c0.2 (0,0))/\w'.heap[p1]?=some (.cells #[c1.1] c1.2 (0,0))/\w'.heap[p2]?=some (.cells #[c2.1] c2.2 (0,0))/\aA aB w w':=by
 obtain⟨bs,rfl,hl,hb,hk,-⟩:=h
 match bs,hl with
 | [p0,p1,p2],_=>exact⟨p0,p1,p2,rfl,hb 0 _ _ rfl rfl,hb 1 _ _ rfl rfl,hb 2 _ _ rfl rfl,hk⟩
theorem kW.two{w w':World}{G:Nat}{e:Ending}{c0 c1:Value×TypeId}(h:kW w G [c0,c1] e w'):∃p0 p1,e=.returned (.func (.func G) #[] #[.pointer (some ⟨p0,0,none⟩),.pointer (some ⟨p1,0,none⟩)]) /\
 w'.heap[p0]?=some (.cells #[c0.1] c0.2 (0,0))/\w'.heap[p1]?=some (.cells #[c1.1] c1.2 (0,0))/\aA aB w w':=by
 obtain⟨bs,rfl,hl,hb,hk,-⟩:=h
 match bs,hl with
 | [p0,p1],_=>exact⟨p0,p1,rfl,hb 0 _ _ rfl rfl,hb 1 _ _ rfl rfl,hk⟩
theorem ckc{W:World}{G:Nat}{x:Array Value}{c:Int}{v:Value}(hv:v=.func (.func G) #[] x\/v=.func (.func G) x #[])(hc:∀w,Sem.run Tryz.prog (callFunc G x) w=.ok (.enter G x) w)(hC:∀wr,aA aB W wr->Calls Tryz.prog G x wr (aK wr (.int .i64 c))) :
 ∃G x,(v=.func (.func G) #[] x\/v=.func (.func G) x #[])/\(∀w,Sem.run Tryz.prog (callFunc G x) w=.ok (.enter G x) w)/\∀wr,aA aB W wr->Calls Tryz.prog G x wr fun e w'=>e=.returned (.int .i64 c)/\aA aB W w':=
 ⟨G,x,hv,hc,fun wr k=>(hC wr k).mono fun e w' h=>⟨h.1,k.trans h.2⟩⟩
theorem rkb{w:World}{F:Nat}{x:Array Value}{p q:Bool}(e:p=q)(h:Calls Tryz.prog F x w (aK w (.bool p))):Calls Tryz.prog F x w (aK w (.bool q)):=e▸h
theorem rki{w:World}{F:Nat}{x:Array Value}{p q:Int}(e:p=q)(h:Calls Tryz.prog F x w (aK w (.int .i64 p))):Calls Tryz.prog F x w (aK w (.int .i64 q)):=e▸h
def sM(w:World)(b:List UInt8)(y:Value)(e:Ending)(w':World):Prop:=∃v,e=.returned (.tuple #[v,y])/\w'.ownsRow w.heap.size 5 1 v 256 (b.map vb)/\aA aB w w'
theorem Kh(h:bP w a dv dc lv st f F W D Z){d s:Nat}(hd:d<D)(hs:s<Z):Calls Tryz.prog 185 #[.pointer (some ⟨a,0,none⟩),.int .i64 (d:Int),.int .i64 (s:Int)] w (sM w (dV W d s (F d s)) (.bool true)):=by
 have HL:=lN w;have HH:=O h;have HU:(decide (0≤(d:Int)) && decide ((d:Int)<(D:Int)))=true:=by rw[Bool.and_eq_true,decide_eq_true_eq,decide_eq_true_eq];omega
 have HSB:mL d s D Z=true:=by unfold mL;rw[HU,Bool.true_and,Bool.and_eq_true,decide_eq_true_eq,decide_eq_true_eq];omega
 have HU:=O HU;have HSB:=O HSB;clear h;go_in;go_wp2_with fail;refine(rkb HU.out (aup HH.out (d:Int))).mono ?_;rintro e w1 ⟨rfl,hk⟩;replace HL:=kL HL hk;replace HH:=O (HH.out.keep hk fun _ h=>h.elim);clear hk;go_wp2_with fail;refine(rkb HSB.out (No HH.out (d:Int) (s:Int))).mono ?_;rintro e w2 ⟨rfl,hk⟩;replace HL:=kL HL hk;replace HH:=O (HH.out.keep hk fun _ h=>h.elim);clear hk;go_wp2_with fail;have HKX:=O HL.out.keep.size;refine(AX HH.out hd hs).mono ?_;rintro e w3 ⟨v,rfl,ho,hk⟩;replace HL:=kL HL hk;go_wp2_with fail;have hsz:=HKX.out;clear HKX
 go_ret2
 exact⟨_,rfl,aV ho (hsz),HL.out.keep⟩
theorem Md(h:bP w a dv dc lv st f F W D Z){d s:Nat}(hd:d<D)(hs:s<Z):Calls Tryz.prog 115 #[.pointer (some ⟨a,0,none⟩),.int .i64 (d:Int),.int .i64 (s:Int)] w (sM w (dV W d s (F d s)) (.int .i64 0)):=by
 have HSB:mL d s D Z=true:=by unfold mL;simp only[Bool.and_eq_true,decide_eq_true_eq];omega
 replace HSB:=O HSB;have HL:=lN w;have HH:=O h;clear h;go_in
 go_wp2_with ((with_reducible show WL _ _);refine bxL HL 40 (.tmp 0) (#[.pointer (some ⟨a,0,none⟩)]) ?_)
 intro b3 w1 hk HL;replace HH:=O (HH.out.keep hk fun _ h=>h.elim);clear hk
 go_wp2_with ((with_reducible show WL _ _);refine bxL HL 3 (.tmp 1) (#[.int .i64 (d:Int)]) ?_)
 intro b4 w2 hk HL;replace HH:=O (HH.out.keep hk fun _ h=>h.elim);clear hk;go_wp2_with fail;refine dwA aB (by kernel_rfl) ?_;intro w3 S HSE HSI hS hkd;replace HL:=kL HL hkd;replace HH:=O (HH.out.keep hkd fun _ h=>h.elim);clear hkd;have HLs:=HL;have HHs:=HH;refine tnd 0 (.int .i64 (d:Int)) rfl (.inl ⟨by rfl,fun w' hw'=>by have c:=aC (i:=0) ((HSE.out w' hw').blk (HLs.out.b 0) id) rfl;go_simp⟩) hS ?_;refine tnd 1 (.pointer (some ⟨a,0,none⟩)) rfl (.inl ⟨by rfl,fun w' hw'=>by have c:=aC (i:=0) ((HSE.out w' hw').blk (HLs.out.b 1) id) rfl;go_simp⟩) hS ?_;refine tnb 2 (.func (.func 131) #[.pointer (some ⟨a,0,none⟩)] #[]) rfl hS ?_;refine tnd 3 (.pointer (some ⟨a,0,none⟩)) rfl (.inl ⟨by rfl,fun w' hw'=>by have c:=aC (i:=0) ((HSE.out w' hw').blk (HLs.out.b 1) id) rfl;go_simp⟩) hS ?_;refine tnb 4 (.func (.func 132) #[.pointer (some ⟨a,0,none⟩)] #[]) rfl hS ?_;refine tnd 5 (.pointer (some ⟨a,0,none⟩)) rfl (.inl ⟨by rfl,fun w' hw'=>by have c:=aC (i:=0) ((HSE.out w' hw').blk (HLs.out.b 1) id) rfl;go_simp⟩) hS ?_;refine tnd 6 (.int .i64 (d:Int)) rfl (.inl ⟨by rfl,fun w' hw'=>by have c:=aC (i:=0) ((HSE.out w' hw').blk (HLs.out.b 0) id) rfl;go_simp⟩) hS ?_;refine tna 7 (.int .i64 (s:Int)) rfl hS ?_;refine tnd 9 (.pointer (some ⟨a,0,none⟩)) rfl (.inl ⟨by rfl,fun w' hw'=>by have c:=aC (i:=0) ((HSE.out w' hw').blk (HLs.out.b 1) id) rfl;go_simp⟩) hS ?_;refine tnd 10 (.int .i64 (d:Int)) rfl (.inl ⟨by rfl,fun w' hw'=>by have c:=aC (i:=0) ((HSE.out w' hw').blk (HLs.out.b 0) id) rfl;go_simp⟩) hS ?_;refine tnb 12 (.func (.func 166) #[] #[.pointer (some ⟨b3,0,none⟩),.pointer (some ⟨b4,0,none⟩)]) rfl hS ?_;refine wA9 8 ?_;go_wp2_with fail;refine(uI w3 a (d:Int) (s:Int)).mono ?_;rintro e w4 hp;obtain⟨p0,p1,p2,rfl,HP0,HP1,HP2,hk⟩:=hp.three;have hS1:=HSI.out _ ((HSE.out _ hS).trans hk);replace HL:=kL HL hk;replace HH:=O (HH.out.keep hk fun _ h=>h.elim);clear hS hk;replace HP0:=O HP0;replace HP1:=O HP1;replace HP2:=O HP2;go_wp2_with fail;refine⟨hS1,?_⟩;refine wA9 11 ?_;go_wp2_with fail;refine(oS w4 a (d:Int)).mono ?_;rintro e w5 hp;obtain⟨q0,q1,rfl,HQ0,HQ1,hk⟩:=hp.two;have hS2:=HSI.out _ ((HSE.out _ hS1).trans hk);replace HL:=kL HL hk;replace HH:=O (HH.out.keep hk fun _ h=>h.elim);replace HP0:=O (hk.blk HP0.out id);replace HP1:=O (hk.blk HP1.out id);replace HP2:=O (hk.blk HP2.out id);clear hS1 hk;replace HQ0:=O HQ0;replace HQ1:=O HQ1;go_wp2_with fail;refine⟨hS2,?_⟩;refine wA9 13 ?_;obtain⟨w6,hw_w6,hk,hb,-⟩:=aT w5 #[.func (.func 131) #[.pointer (some ⟨a,0,none⟩)] #[],.func (.func 132) #[.pointer (some ⟨a,0,none⟩)] #[],.func (.func 199) #[] #[.pointer (some ⟨p0,0,none⟩),.pointer (some ⟨p1,0,none⟩),.pointer (some ⟨p2,0,none⟩)],.func (.func 188) #[] #[.pointer (some ⟨q0,0,none⟩),.pointer (some ⟨q1,0,none⟩)],.func (.func 166) #[] #[.pointer (some ⟨b3,0,none⟩),.pointer (some ⟨b4,0,none⟩)]] 113;obtain⟨b22,hbs⟩:∃b,w5.heap.size=b:=⟨_,rfl⟩
 rw[hbs] at hb;have hS3:=HSI.out _ ((HSE.out _ hS2).trans hk);clear hS2;replace HL:=lW HL hbs hk hb;have HBSb22:=O hbs;replace HH:=O (HH.out.keep hk fun _ h=>h.elim);replace HP0:=O (hk.blk HP0.out id);replace HP1:=O (hk.blk HP1.out id);replace HP2:=O (hk.blk HP2.out id);replace HQ0:=O (hk.blk HQ0.out id);replace HQ1:=O (hk.blk HQ1.out id);clear hk hb hbs;go_wp2_with fail;clear hw_w6;rw[HBSb22.out];refine⟨hS3,?_⟩;refine wA9 14 ?_;go_wp2_with fail;have HFB:=O (HL.out.b 0)
 have HCK:Hid (∀k,k<5->k≤5->∃G x,((#[.func (.func 131) #[.pointer (some ⟨a,0,none⟩)] #[],.func (.func 132) #[.pointer (some ⟨a,0,none⟩)] #[],.func (.func 199) #[] #[.pointer (some ⟨p0,0,none⟩),.pointer (some ⟨p1,0,none⟩),.pointer (some ⟨p2,0,none⟩)],.func (.func 188) #[] #[.pointer (some ⟨q0,0,none⟩),.pointer (some ⟨q1,0,none⟩)],.func (.func 166) #[] #[.pointer (some ⟨b3,0,none⟩),.pointer (some ⟨b4,0,none⟩)]]:Array Value).getD k .nilFunc=.func (.func G) #[] x\/(#[.func (.func 131) #[.pointer (some ⟨a,0,none⟩)] #[],.func (.func 132) #[.pointer (some ⟨a,0,none⟩)] #[],.func (.func 199) #[] #[.pointer (some ⟨p0,0,none⟩),.pointer (some ⟨p1,0,none⟩),.pointer (some ⟨p2,0,none⟩)],.func (.func 188) #[] #[.pointer (some ⟨q0,0,none⟩),.pointer (some ⟨q1,0,none⟩)],.func (.func 166) #[] #[.pointer (some ⟨b3,0,none⟩),.pointer (some ⟨b4,0,none⟩)]]:Array Value).getD k .nilFunc=.func (.func G) x #[])/\(∀w,Sem.run Tryz.prog (callFunc G x) w=.ok (.enter G x) w)/\∀wr,aA aB w6 wr->Calls Tryz.prog G x wr fun e w'=>e=.returned (.int .i64 (0))/\aA aB w6 w'):=O (by
  intro k hk hm
  match k,hk,hm with
  | 0,_,_=>exact ckc (.inr rfl) (fun w=>by rfl) fun wr k=>B4 (HH.out.keep k fun _ h=>h.elim)
  | 1,_,_=>exact ckc (.inr rfl) (fun w=>by rfl) fun wr k=>B5 (HH.out.keep k fun _ h=>h.elim)
  | 2,_,_=>exact ckc (.inl rfl) (fun w=>by rfl) fun wr k=>rki (by rw[HSB.out];rfl) (sK (HH.out.keep k fun _ h=>h.elim) (d:Int) (s:Int) p0 p1 p2 (k.blk HP0.out id) (k.blk HP1.out id) (k.blk HP2.out id))
  | 3,_,_=>exact ckc (.inl rfl) (fun w=>by rfl) fun wr k=>qV (HH.out.keep k fun _ h=>h.elim) hd q0 q1 (k.blk HQ0.out id) (k.blk HQ1.out id)
  | 4,_,_=>exact ckc (.inl rfl) (fun w=>by rfl) fun wr k=>In (HH.out.keep k fun _ h=>h.elim) hd b3 b4 (k.blk (HL.out.b 2) id) (k.blk (HL.out.b 1) id))
 refine(oR w6 (d:Int) b22 5 5 #[.func (.func 131) #[.pointer (some ⟨a,0,none⟩)] #[],.func (.func 132) #[.pointer (some ⟨a,0,none⟩)] #[],.func (.func 199) #[] #[.pointer (some ⟨p0,0,none⟩),.pointer (some ⟨p1,0,none⟩),.pointer (some ⟨p2,0,none⟩)],.func (.func 188) #[] #[.pointer (some ⟨q0,0,none⟩),.pointer (some ⟨q1,0,none⟩)],.func (.func 166) #[] #[.pointer (some ⟨b3,0,none⟩),.pointer (some ⟨b4,0,none⟩)]] (fun k=>0) (fun _ wr=>aA aB w6 wr) (by decide) (by decide) (fun k wr hk=>hk.blk HFB.out id) (by intro k hk;match k,hk with
  | 0,_=>rfl
  | 1,_=>rfl
  | 2,_=>rfl
  | 3,_=>rfl
  | 4,_=>rfl) (aA.refl _ _) (by intro k hk;rfl) (by decide) HCK.out).mono ?_
 rintro e w7 ⟨h1,h2,hk⟩;clear HCK HFB;obtain rfl:=h1 rfl;clear h1 h2;have hS4:=HSI.out _ ((HSE.out _ hS3).trans hk);replace HL:=kL HL hk;replace HH:=O (HH.out.keep hk fun _ h=>h.elim);replace HP0:=O (hk.blk HP0.out id);replace HP1:=O (hk.blk HP1.out id);replace HP2:=O (hk.blk HP2.out id);replace HQ0:=O (hk.blk HQ0.out id);replace HQ1:=O (hk.blk HQ1.out id);clear hS3 hk;go_wp2_with fail;refine⟨hS4,?_⟩;refine tna 15 .nilIface rfl hS4 ?_;refine wpAnyH_done (by kernel_rfl) ?_ _;clear hS4 HSE HSI HLs HHs;have c1:w7.cell? ⟨b3,0,none⟩=some (.pointer (some ⟨a,0,none⟩)):=(aC (i:=0) (HL.out.b 2) rfl)
 have c2:w7.cell? ⟨b4,0,none⟩=some (.int .i64 (d:Int)):=(aC (i:=0) (HL.out.b 1) rfl)
 go_wp2_with fail;clear c1 c2;have HKX:=O HL.out.keep.size;refine(AX HH.out hd hs).mono ?_;rintro e w8 ⟨v,rfl,ho,hk⟩;replace HL:=kL HL hk;replace HH:=O (HH.out.keep hk fun _ h=>h.elim);replace HP0:=O (hk.blk HP0.out id);replace HP1:=O (hk.blk HP1.out id);replace HP2:=O (hk.blk HP2.out id);replace HQ0:=O (hk.blk HQ0.out id);replace HQ1:=O (hk.blk HQ1.out id);clear hk;go_wp2_with fail;have hsz:=HKX.out;clear HKX
 go_ret2
 exact⟨_,rfl,aV ho hsz,HL.out.keep⟩
theorem lU:(Tryz.prog.info? 27).map (fun i=>(i.zero,i.size,i.bytes))=some (some (.agg aH.toArray),35,72):=by kernel_rfl
def lV(t:Int):Bool:=decide (1≤t) && decide (t≤2147483648)
def iK(t:Int):Int:=if lV t=true then 1+t % 4 else 0
def xV(w:World)(t:Int)(e:Ending)(w':World):Prop:=e=.returned (.tuple #[.int .i64 (iK t),.bool (lV t)])/\aA aB w w'
theorem Lj(w:World)(t:Int)(h1:-9223372036854775808≤t)(h2:t≤9223372036854775807):Calls Tryz.prog 101 #[.int .i64 t] w (xV w t):=by
 unfold xV
 by_cases ha:t<1
 ·have e1:lV t=false:=by unfold lV;rw[decide_eq_false (by omega)];rfl
  rw[show iK t=0 by unfold iK;rw[e1];rfl,e1];clear e1;go_in;go_wp2
  go_ret2
  exact⟨rfl,aA.refl _ _⟩
 ·by_cases hb:2147483648<t
  ·have e1:lV t=false:=by unfold lV;rw[decide_eq_false (p:=t≤2147483648) (by omega)];simp
   rw[show iK t=0 by unfold iK;rw[e1];rfl,e1];clear e1;have ha1:decide (t<1)=false:=decide_eq_false ha;go_in;go_wp2
   go_ret2
   exact⟨rfl,aA.refl _ _⟩
  ·have e1:lV t=true:=by unfold lV;rw[decide_eq_true (by omega),decide_eq_true (by omega)];rfl
   rw[show iK t=1+t % 4 by unfold iK;rw[e1];rfl,e1];clear e1;have ha1:decide (t<1)=false:=decide_eq_false ha;have hb1:decide (2147483648<t)=false:=decide_eq_false hb;have hm:t.tmod 4=t % 4:=Int.tmod_eq_emod_of_nonneg (by omega);have hw1:wrap64 (1+t % 4)=1+t % 4:=by unfold wrap64;omega
   have hw2:wrap64 (t % 4)=t % 4:=by unfold wrap64;omega
   have HM:=O hm;have H1:=O hw1;have H2:=O hw2;clear hm hw1 hw2;go_in;go_wp2
   go_ret2
   refine⟨?_,aA.refl _ _⟩
   first|rfl|(rw[HM.out,H1.out];rfl)|(rw[HM.out,H2.out,H1.out];rfl)
end
end Go.Proofs.YtiinnfhjpaeffaaGreat
