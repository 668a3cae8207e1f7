import Derived.Test.YtoeinblfcbpcmaaGreatDoorC11
import Derived.Test.YtoeinblfcbpcmaaGreatDoorC22
namespace Go.Proofs.YtoeinblfcbpcmaaGreatDoor
open Tryz
set_option maxHeartbeats 0
set_option maxRecDepth 100000
set_option linter.unusedVariables false
section
open Go.RowKit Go.Maps Go.ChangeMaps
structure Kor where
 D:Nat
 Z:Nat
 cp:Nat
 L:List Ad
 M:Nat->Nat->List UInt8
 txg:Int
structure Kor.Bd(S:Kor):Prop where
 d2:2≤S.D
 d8:S.D≤8
 z8:8≤S.Z
 z4:S.Z≤4096
 c1:1≤S.cp
 c3:S.cp≤3
 cD:S.cp≤S.D
 t0:0≤S.txg
 t1:S.txg<2147483648
def fP(b:List UInt8):List Ad->(Nat->Nat->List UInt8)->Nat->Nat->List UInt8
 | [],M=>M
 | a::l,M=>fP b l (fN M a.dev.toNat a.sec.toNat b)
variable{p:Pt}{lv m a D Z nw d s:Nat}{b:List UInt8}{w:World}{B:Nat->Prop}{M Mm:Nat->Nat->List UInt8}
theorem C5(b:List UInt8)(a:Ad):∀(l:List Ad) (M:Nat->Nat->List UInt8),fP b (l++[a]) M=fN (fP b l M) a.dev.toNat a.sec.toNat b
 | [],M=>rfl
 | x::l,M=>C5 b a l _
theorem Cs(b:List UInt8):∀(l:List Ad) (M:Nat->Nat->List UInt8) (d s:Nat),((∃a∈l,d=a.dev.toNat/\s=a.sec.toNat)\/M d s=b)->fP b l M d s=b
 | [],M,d,s,h=>by
   rcases h with⟨a,c,-⟩|h
   ·cases c
   ·exact h
 | x::l,M,d,s,h=>by
   refine Cs b l _ d s ?_;rcases h with⟨a,c,e,f⟩|h
   ·rcases List.mem_cons.1 c with rfl|c
    ·right;unfold fN;rw[if_pos ⟨e,f⟩]
    ·exact .inl ⟨a,c,e,f⟩
   ·right;unfold fN;split
    ·rfl
    ·exact h
theorem vG(b:List UInt8):∀(l:List Ad) (M:Nat->Nat->List UInt8) (d s:Nat),(∀a∈l,¬(d=a.dev.toNat/\s=a.sec.toNat))->fP b l M d s=M d s
 | [],M,d,s,h=>rfl
 | x::l,M,d,s,h=>by
   rw[fP,vG b l _ d s fun a c=>h a (List.mem_cons_of_mem _ c)];unfold fN;rw[if_neg (h x (List.mem_cons_self ..))]
def Kor.allUp(S:Kor):List Bool:=List.replicate S.D true
def Kor.put(S:Kor)(lv:Nat)(b:List UInt8):Option (Pt×Kor):=
 match bL (bN S.L S.D S.Z) S.allUp S.cp with
 | none=>none
 | some l=>some (⟨aU S.L S.Z l,S.txg+1,(lv:Int),bU b⟩,⟨S.D,S.Z,S.cp,S.L++aU S.L S.Z l,fP b (aU S.L S.Z l) S.M,S.txg⟩)
structure Ext(S T:Kor):Prop where
 D:T.D=S.D
 Z:T.Z=S.Z
 cp:T.cp=S.cp
 txg:S.txg≤T.txg
 L:∀a∈S.L,a∈T.L
 M:∀a∈S.L,bW a S.D S.Z->T.M a.dev.toNat a.sec.toNat=S.M a.dev.toNat a.sec.toNat
theorem Ext.refl(S:Kor):Ext S S:=⟨rfl,rfl,rfl,Int.le_refl _,fun _ h=>h,fun _ _ _=>rfl⟩
theorem Ext.trans{S T U:Kor}(h:Ext S T)(k:Ext T U):Ext S U:=
 ⟨k.D.trans h.D,k.Z.trans h.Z,k.cp.trans h.cp,Int.le_trans h.txg k.txg,fun a c=>k.L a (h.L a c),fun a c e=>(k.M a (h.L a c) (by rw[h.D,h.Z];exact e)).trans (h.M a c e)⟩
structure qH(S:Kor)(p:Pt)(lv:Nat)(b:List UInt8):Prop where
 may:p.may=true
 ne:p.addrs≠[]
 lev:p.level=(lv:Int)
 sum:p.sum=bU b
 len:b.length=256
 born:1≤p.birth/\p.birth≤S.txg+1
 lies:∀a∈p.addrs,bW a S.D S.Z/\a∈S.L/\S.M a.dev.toNat a.sec.toNat=b
theorem qH.sl{S:Kor}(h:qH S p lv b):p.sum.length=32:=by rw[h.sum,dB]
theorem qH.ne_hole{S:Kor}(h:qH S p lv b):p.hole=false:=by
 unfold Pt.hole
 have:((p.addrs.length:Int) == 0)=false:=by
  rw[beq_eq_false_iff_ne];intro e;exact h.ne (List.eq_nil_of_length_eq_zero (by omega))
 rw[this,Bool.false_and]
theorem oC{S:Kor}(c:S.Bd)(J:lv≤3)(I:b.length=256){T:Kor}(h:S.put lv b=some (p,T)) :
 qH T p lv b/\Ext S T/\T.Bd/\T.txg=S.txg/\p.birth=S.txg+1/\(∀a∈p.addrs,a ∉ S.L)/\p.addrs.Nodup/\∃l,bL (bN S.L S.D S.Z) S.allUp S.cp=some l/\T.L=S.L++aU S.L S.Z l/\p.addrs=aU S.L S.Z l:=by
 unfold Kor.put at h;cases o:bL (bN S.L S.D S.Z) S.allUp S.cp with
 | none=>rw[o] at h;cases h
 | some l =>
   rw[o] at h;have h:=Option.some.inj h;injection h with y A
   subst y A;have n:2≤S.D/\S.D≤8/\8≤S.Z/\S.Z≤4096:=⟨c.d2,c.d8,c.z8,c.z4⟩
   have g:=fun x u=>CS n o (x:=x) u
   obtain⟨-,q,L,z,C⟩:=eM o;have k:∀a∈aU S.L S.Z l,bW a S.D S.Z:=fun a f=>(Ch n).1 (g a f).1
   have t:upN S.allUp=S.D:=by
    unfold upN Kor.allUp;rw[List.countP_replicate];rfl
   have i:l.length=S.cp:=by
    rw[q];unfold kU;rw[t];exact Nat.min_eq_left c.cD
   have r:=F9 o
   have j:((aU S.L S.Z l).map (·.dev)).Nodup:=by
    unfold aU;rw[List.map_map];have:((fun(x:Ad)=>x.dev) ∘ fun(d:Nat)=>(⟨(d:Int),(aZ S.L d S.Z).headD 0⟩:Ad))=fun(d:Nat)=>(d:Int):=rfl
    rw[this];show List.Pairwise _ _;rw[List.pairwise_map];exact z.imp fun h e=>h (by exact_mod_cast e)
   refine⟨⟨?_,?_,rfl,rfl,I,⟨?_,Int.le_refl _⟩,?_⟩,⟨rfl,rfl,rfl,Int.le_refl _,fun a f=>List.mem_append_left _ f,?_⟩,⟨c.d2,c.d8,c.z8,c.z4,c.c1,c.c3,c.cD,c.t0,c.t1⟩,rfl,rfl,fun a f=>(g a f).2.1,r,l,rfl,rfl,rfl⟩
   ·unfold Pt.may sV Pt.numsB
    rw[Bool.or_eq_true];right;have t0:=c.t0;have t1:=c.t1;have c1:=c.c1;have c3:=c.c3;simp only[Bool.and_eq_true,decide_eq_true_eq,List.all_eq_true,mW];refine⟨⟨⟨⟨fun a f=>?_,j⟩,by omega⟩,by omega⟩,⟨⟨by omega,by omega⟩,by omega⟩,by omega⟩;obtain⟨y,A,H,W⟩:=k a f;unfold lH;have d8:=c.d8;have z4:=c.z4;simp only[Bool.and_eq_true,decide_eq_true_eq];exact⟨⟨⟨y,by show a.1<8;omega⟩,H⟩,by show a.2<4096;omega⟩
   ·intro e
    have:=congrArg List.length e;rw[mW] at this;have c1:=c.c1;simp at this;rw[this] at i;simp at i;omega
   ·have t0:=c.t0
    show 1≤S.txg+1;omega
   ·exact fun a f=>⟨k a f,List.mem_append_right _ f,Cs b _ _ _ _ (.inl ⟨a,f,rfl,rfl⟩)⟩
   ·intro a f K
    refine vG b _ _ _ _ fun x u e=>(g x u).2.1 ?_
    obtain⟨X,Y,x3,x4⟩:=k x u;obtain⟨Q,R,U,V⟩:=K
    have:x=a:=by
     obtain⟨N,P⟩:=x;obtain⟨E,v⟩:=a;simp only[] at *;have F:N=E:=by have:=e.1;omega
     have G:P=v:=by have:=e.2;omega
     rw[F,G]
    rw[this];exact f
theorem E6:Hid (∀w,(zeroValue 198).run prog w=.ok (.agg #[.int .i64 0,.slice none 0 0]) w):=O fun w=>by kernel_rfl
def Ed(a:Nat):List Value:=.pointer a::List.replicate 24 (.int .i64 0)
def eQ(w:World)(m a:Nat):Prop:=w.heap[m]?=some (.cells (Ed a).toArray 166 (0,0))
theorem eQ.c0(h:eQ w m a):w.cell? ⟨m,0,none⟩=some (.pointer a):=aC h rfl
theorem iW(h:bE w a B D Z M nw):Calls prog 59 #[.pointer a] w (aN w (.int .i64 (D:Int))):=by
 obtain⟨g,e,lv,st,f,F,W,c,-⟩:=h;exact QM c
theorem tU(h:bE w a B D Z M nw):Calls prog 56 #[.pointer a] w (aN w (.int .i64 (Z:Int))):=by
 obtain⟨g,e,lv,st,f,F,W,c,-⟩:=h;exact Eb c
theorem Q7(h:bE w a B D Z M nw)(d:Int):Calls prog 60 #[.pointer a,.int .i64 d] w (aN w (.bool (decide (0≤d) && decide (d<(D:Int))))):=by
 obtain⟨g,e,lv,st,f,F,W,c,-⟩:=h;exact aup c d
theorem QP(h:bE w a B D Z M nw)(c:d<D)(e:s<Z):Calls prog 129 #[.pointer a,.int .i64 (d:Int),.int .i64 (s:Int)] w (vD w (M d s) (.int .i64 0)):=by
 obtain⟨k,j,lv,st,f,F,W,g,-,-,i⟩:=h;rw[i d s c e];exact Pb g c e
theorem OC(h:bE w a B D Z M nw)(c:d<D)(e:s<Z):Calls prog 112 #[.pointer a,.int .i64 (d:Int),.int .i64 (s:Int)] w (vD w (M d s) (.bool true)):=by
 obtain⟨k,j,lv,st,f,F,W,g,-,-,i⟩:=h;rw[i d s c e];exact M6 g c e
theorem Pg(h:bE w a B D Z M nw):Calls prog 129 #[.pointer a,.int .i64 (-1),.int .i64 0] w (aN w (.tuple #[.slice none 0 0,.int .i64 5])):=by
 obtain⟨g,e,lv,st,f,F,W,c,-⟩:=h;exact Pd c
theorem bE.len(h:bE w a B D Z M nw)(e:d<D)(g:s<Z):(M d s).length=256:=by
 obtain⟨k,j,lv,st,f,F,W,c,-,-,i⟩:=h;rw[i d s e g];exact vC c.wok (c.fok d s e g)
theorem C6(w:World)(m a:Nat)(c:eQ w m a):Calls prog 97 #[.pointer m] w (aN w (.bool false)):=by
 have c0:=c.c0;clear c;go_in;go_wp2;go_ret;exact aN.of (aA.refl _ _)
theorem Nd(w:World)(n:Nat)(c:0<n):Calls prog 101 #[.int .i64 (n:Int)] w (aN w (.tuple #[.int .i64 (n:Int),.int .i64 0])):=by
 have e:((n:Int) == 0)=false:=by rw[beq_eq_false_iff_ne];omega
 go_in;go_wp2
 go_ret2
 exact aN.of (aA.refl _ _)
theorem Nf(h:bE w a B D Z M nw):Calls prog 133 #[.pointer a] w fun e l=>∃m,e=.returned (.tuple #[.pointer (some ⟨m,0,none⟩),.int .i64 0])/\w.heap.size≤m/\eQ l m a/\aA aB w l:=by
 have j:=O (iW h);have g:=h.bd;have e:((D:Int) == 0)=false:=by rw[beq_eq_false_iff_ne];omega
 have f:∀w,(Instr.build 166 #[(0,.pointer a)]).run prog w=.ok (.agg (Ed a).toArray) w:=fun w=>by kernel_rfl
 clear h g;go_in;go_wp2_with fail;refine j.mono ?_;rintro e u ⟨rfl,i⟩;have o:=O i;have t:=i.size;clear i j
 go_wp2_with ((with_reducible show WL _ _);first
  | refine bld 166 #[(0,.tmp 7)] [(0,.pointer a)] (.agg (Ed a).toArray) f ?_
  | refine bxA (Ed a).toArray ?_)
 intro b n r c k;have q:Hid (∃m,Ending.returned (.tuple #[.pointer b,.int .i64 0])=.returned (.tuple #[.pointer (some ⟨m,0,none⟩),.int .i64 0])/\w.heap.size≤m/\eQ n m a/\aA aB w n):=O ⟨b,rfl,by omega,k,o.trans c⟩;clear r c k;go_wp2
 go_ret2
 exact q.out
theorem nA{x:Ad}(h:bW x D Z):∃d s:Nat,x=⟨(d:Int),(s:Int)⟩/\d<D/\5≤s/\s<Z:=by
 obtain⟨e,f⟩:=x;obtain⟨c,g,i,j⟩:=h;replace c:0≤e:=c;replace g:e<(D:Int):=g;replace i:5≤f:=i;replace j:f<(Z:Int):=j;exact⟨e.toNat,f.toNat,by rw[Int.toNat_of_nonneg c,Int.toNat_of_nonneg (by omega)],by omega,by omega,by omega⟩
theorem xO(h:bE w a B D Z Mm nw)(hm:eQ w m a)(v:Value)(l:List Ad)(T:Rd w 2 v l.length (aJ l))(hl:∀x∈l,bW x D Z):Calls prog 98 #[.pointer m,v] w (aN w (.bool true)):=by
 obtain⟨oa,ca,rfl,-,-⟩:=T.form;obtain⟨n,hn⟩:=zX9 l.length
 have HN:=O hn;rw[hn] at T ⊢;have qc:n≤maxLen:=by obtain⟨_,a',c',h1,h2,h3,-⟩:=T;omega
 unfold maxLen at qc;have HR:=O T;have HA:=O h;have X:=O hm;have W:=O hl;clear T h hm hl hn;go_in;go_wp2_with fail
 go_loopw [9] (fun i wr=>∃k:Nat,k≤n/\i=.int .i64 k/\Hid (aA aB w wr)) (fun i _=>n-(intOf i).toNat)
 case atStart=>exact⟨0,by omega,rfl,O (aA.refl _ _)⟩
 case round =>
  obtain⟨k,t,rfl,P⟩:=hrel
  by_cases qa:k<n
  ·obtain⟨x,hx⟩:∃x,l[k]?=some x:=⟨l[k]'(by rw[HN.out];exact qa),List.getElem?_eq_getElem _⟩
   obtain⟨d,s,rfl,hd,qf,qg⟩:=nA (W x (List.mem_of_getElem? hx));have L:=HR.out;rw[←HN.out] at L;obtain⟨g,o,qd,hv,Q⟩:=fT L hx;obtain rfl:oa=some ⟨g,o,none⟩:=by cases hv;rfl
   have U:=O (P.rangeAt Q);have A:=lN wr;have j:=O (HA.keep0 P.out);have r:Hid (eQ wr m a):=O (P.blk X.out id);have K:(0:Int)≤(k:Int):=by omega
   have qe:(k:Int)<(n:Int):=by omega
   have e1:¬((d:Int)<0):=by omega
   have e2:¬((D:Int)≤(d:Int)):=by omega
   have e3:¬((s:Int)<5):=by omega
   have e4:¬((Z:Int)≤(s:Int)):=by omega
   clear hx L Q hv
   go_wp2_with (first
    | refine ldM g (o+k*2) (aO ⟨(d:Int),(s:Int)⟩) U.out bY (by rw[bD];exact iV) ?_
    | refine alA xJ ?_)
   intro F w1 R K I
   go_wp2_with ((with_reducible show WL _ _);refine sta 93 (.tmp 6) (.tmp 12) F 0 (aO ⟨(d:Int),(s:Int)⟩) I (by first|decide|(rw[List.size_toArray,bD];exact Nat.le_refl _)|simp[bD]) (by rw[bD];exact iV) (bV _) ?_)
   intro w2 t Y;rw[aI _ _ (by first|rfl|(rw[List.size_toArray,bD];rfl)|simp[bD])] at Y;replace t:=tX K t (fun i hi e=>by omega);replace A:=lW A R t Y;replace U:=O (t.rangeAt U.out);replace j:=O (j.keep0 t);replace r:=O (t.blk r.out id);clear R t Y K I;clear U;go_wp2_with fail;refine dwA aB (by kernel_rfl) ?_;intro w3 S u J z H;replace A:=kL A H;replace j:=O (j.keep0 H);replace r:=O (H.blk r.out id);clear H;have C:=A;have N:=j;have E:=r;refine tnb 0 (.pointer F) rfl z ?_;refine tnd 1 (.int .i64 (d:Int)) rfl (.inl ⟨by rfl,fun y q=>by have c:World.cell? y ⟨F,0,none⟩=some (.int .i64 (d:Int)):=(aC (i:=0) ((u y q).blk (C.b 0) id) rfl);go_simp⟩) z ?_;refine tnd 2 (.bool false) rfl (.inl ⟨by rfl,fun _ _=>by go_simp<;>first|omega|(simp;omega)⟩) z ?_;refine tna 3 (.bool false) rfl z ?_;refine tnb 4 (.pointer F) rfl z ?_;refine tnd 5 (.int .i64 (d:Int)) rfl (.inl ⟨by rfl,fun y q=>by have c:World.cell? y ⟨F,0,none⟩=some (.int .i64 (d:Int)):=(aC (i:=0) ((u y q).blk (C.b 0) id) rfl);go_simp⟩) z ?_;refine tna 6 (.pointer m) rfl z ?_;refine tnb 7 (.pointer m) rfl z ?_;refine tnb 8 (.pointer m) rfl z ?_;refine tnd 9 (.pointer a) rfl (.inl ⟨by rfl,fun y q=>by have c:World.cell? y ⟨m,0,none⟩=some (.pointer a):=(u y q).cell (eQ.c0 E.out) id;go_simp⟩) z ?_;refine wA9 10 ?_;go_wp2_with fail;refine(iW j.out).mono ?_;rintro e w4 ⟨rfl,t⟩;have f:=J.out _ ((u _ z).trans t);replace A:=kL A t;replace j:=O (j.keep0 t);replace r:=O (t.blk r.out id);clear z t;go_wp2_with fail;refine⟨f,?_⟩;refine tnd 11 (.bool false) rfl (.inl ⟨by rfl,fun _ _=>by go_simp<;>first|omega|(simp;omega)⟩) f ?_;refine tna 12 (.bool false) rfl f ?_;refine tna 13 (.bool false) rfl f ?_;refine tnb 14 (.pointer (some ⟨F,1,none⟩)) rfl f ?_;refine tnd 15 (.int .i64 (s:Int)) rfl (.inl ⟨by rfl,fun y q=>by have c:World.cell? y ⟨F,1,none⟩=some (.int .i64 (s:Int)):=(aC (i:=1) ((u y q).blk (C.b 0) id) rfl);go_simp⟩) f ?_;refine tnd 16 (.bool false) rfl (.inl ⟨by rfl,fun _ _=>by go_simp<;>first|omega|(simp;omega)⟩) f ?_;refine tna 17 (.bool false) rfl f ?_;refine tna 18 (.bool false) rfl f ?_;refine tnb 19 (.pointer (some ⟨F,1,none⟩)) rfl f ?_;refine tnd 20 (.int .i64 (s:Int)) rfl (.inl ⟨by rfl,fun y q=>by have c:World.cell? y ⟨F,1,none⟩=some (.int .i64 (s:Int)):=(aC (i:=1) ((u y q).blk (C.b 0) id) rfl);go_simp⟩) f ?_;refine tna 21 (.pointer m) rfl f ?_;refine tnb 22 (.pointer m) rfl f ?_;refine tnb 23 (.pointer m) rfl f ?_;refine tnd 24 (.pointer a) rfl (.inl ⟨by rfl,fun y q=>by have c:World.cell? y ⟨m,0,none⟩=some (.pointer a):=(u y q).cell (eQ.c0 E.out) id;go_simp⟩) f ?_;refine wA9 25 ?_;go_wp2_with fail;refine(tU j.out).mono ?_;rintro e w5 ⟨rfl,t⟩;have G:=J.out _ ((u _ f).trans t);replace A:=kL A t;replace j:=O (j.keep0 t);replace r:=O (t.blk r.out id);clear f t;go_wp2_with fail;refine⟨G,?_⟩;refine tnd 26 (.bool false) rfl (.inl ⟨by rfl,fun _ _=>by go_simp<;>first|omega|(simp;omega)⟩) G ?_;refine tna 27 (.bool false) rfl G ?_;refine wpAnyH_done (by kernel_rfl) ?_ _;clear G u J C N E;have V:=O (P.trans A.keep);clear A j r;go_wp2
   go_roundw
   case rel=>exact⟨k+1,by omega,by go_num,V⟩
   case measure=>simp[intOf];omega
  ·obtain rfl:n=k:=by omega
   go_wp2;go_ret;exact aN.of P.out
theorem IG(w:World)(v:Value)(l:List Ad)(G:Rd w 2 v l.length (aJ l))(hl:(l.map (·.dev)).Nodup)(K:jF l):Calls prog 99 #[v] w (aN w (.bool true)):=by
 obtain⟨oa,ca,rfl,-,-⟩:=G.form;obtain⟨n,X⟩:=zX9 l.length
 have N:=O X;rw[X] at G ⊢;have qk:n≤ca:=by obtain⟨_,a',c',J,P,h3,-⟩:=G;cases J;exact P
 have W:n≤maxLen:=by obtain⟨_,a',c',J,P,h3,-⟩:=G;omega
 unfold maxLen at W;have HR:=O G;have T:=O hl;have qc:=O K;clear G hl K X;go_in;go_wp2_with fail
 go_loopw [9] (fun i wr=>∃k:Nat,k≤n/\i=.int .i64 k/\Hid (aA aB w wr)) (fun i _=>n-(intOf i).toNat)
 case atStart=>exact⟨0,by omega,rfl,O (aA.refl _ _)⟩
 case round =>
  obtain⟨k,h,rfl,S⟩:=hrel
  by_cases V:k<n
  ·obtain⟨x,Y⟩:∃x,l[k]?=some x:=⟨l[k]'(by rw[N.out];exact V),List.getElem?_eq_getElem _⟩
   have f:=HR.out;rw[←N.out] at f;obtain⟨g,o,I,Q,r⟩:=fT f Y;obtain rfl:oa=some ⟨g,o,none⟩:=by cases Q;rfl
   have A:=O (S.rangeAt r);have U:=O Y;have z:=lN wr;have q:(0:Int)≤(k:Int):=by omega
   have qi:(k:Int)<(n:Int):=by omega
   have qj:(k:Int)≤(ca:Int):=by omega
   clear Y f r Q
   go_wp2_with (first
    | refine ldM g (o+k*2) (aO x) A.out bY (by rw[bD];exact iV) ?_
    | refine alA xJ ?_)
   intro b4 w1 t q c
   go_wp2_with ((with_reducible show WL _ _);refine sta 93 (.tmp 4) (.tmp 13) b4 0 (aO x) c (by first|decide|(rw[List.size_toArray,bD];exact Nat.le_refl _)|simp[bD]) (by rw[bD];exact iV) (bV _) ?_)
   intro w2 h F;rw[aI _ _ (by first|rfl|(rw[List.size_toArray,bD];rfl)|simp[bD])] at F;replace h:=tX q h (fun i hi e=>by omega);replace z:=lW z t h F;replace A:=O (h.rangeAt A.out);clear t h F q c;clear A;go_wp2_with fail;have R:=O (z.b 0);have H:=O (S.trans z.keep)
   go_loopw [18] (fun i qa=>∃j:Nat,j≤k/\i=.int .i64 j/\Hid (aA aB w2 qa)) (fun i _=>k-(intOf i).toNat)
   case atStart=>exact⟨0,by omega,rfl,O (aA.refl _ _)⟩
   case round =>
    rename_i wo;obtain⟨j,hj,rfl,u⟩:=hrel
    by_cases qh:j<k
    ·obtain⟨y,hy⟩:∃y,l[j]?=some y:=⟨l[j]'(by rw[N.out];omega),List.getElem?_eq_getElem _⟩
     have f:=HR.out;rw[←N.out] at f;obtain⟨g',o',I,Q,r⟩:=fT f hy;cases Q
     have A:=O ((H.trans u.out).rangeAt r)
     have L:x.dev≠y.dev:=by
      intro e;have J:(l.map (·.dev))[k]?=some x.dev:=by rw[List.getElem?_map,U.out];rfl
      have P:(l.map (·.dev))[j]?=some x.dev:=by rw[List.getElem?_map,hy,e];rfl
      have:=((List.getElem?_inj (List.getElem?_eq_some_iff.1 J).1 T.out).1 (J.trans P.symm))
      omega
     have qd:(x.dev == y.dev)=false:=by rw[beq_eq_false_iff_ne];exact L
     have C:=O (u.blk R.out id);have qe:(0:Int)≤(j:Int):=by omega
     have qf:(j:Int)<(k:Int):=by omega
     have qg:(j:Int)<(n:Int):=by omega
     have z:=lN wr;clear hy f r L
     go_wp2_with (first
      | refine ldM g (o+j*2) (aO y) A.out bY (by rw[bD];exact iV) ?_
      | refine alA xJ ?_)
     intro b6 w3 t q c
     go_wp2_with ((with_reducible show WL _ _);refine sta 93 (.tmp 6) (.tmp 21) b6 0 (aO y) c (by first|decide|(rw[List.size_toArray,bD];exact Nat.le_refl _)|simp[bD]) (by rw[bD];exact iV) (bV _) ?_)
     intro w4 h F;rw[aI _ _ (by first|rfl|(rw[List.size_toArray,bD];rfl)|simp[bD])] at F;replace h:=tX q h (fun i hi e=>by omega);replace z:=lW z t h F;replace A:=O (h.rangeAt A.out);replace C:=O (h.blk C.out id);clear t h F q c;have c1:w4.cell? ⟨b4,0,none⟩=some (.int .i64 x.dev):=aC (i:=0) C.out rfl;have c2:w4.cell? ⟨b6,0,none⟩=some (.int .i64 y.dev):=aC (i:=0) (z.b 0) rfl;have E:=O (u.trans z.keep);go_wp2
     go_roundw
     case rel=>exact⟨j+1,by omega,by go_num,E⟩
     case measure=>simp[intOf];omega
    ·obtain rfl:k=j:=by omega
     have E:=O (H.trans u.out);go_wp2
     go_roundw
     case rel=>exact⟨k+1,by omega,by go_num,E⟩
     case measure=>simp[intOf];omega
  ·obtain rfl:n=k:=by omega
   go_wp2;go_ret;exact aN.of S.out
def rH(w:World)(a:Nat)(B:Nat->Prop)(D Z:Nat)(Mm:Nat->Nat->List UInt8)(nw:Nat)(l:List Ad)(b:List UInt8)(e:Ending)(f:World):Prop:=
 e=.returned (.tuple #[.int .i64 (l.length:Int),.int .i64 0])/\∃c,bE f a c D Z (fP b l Mm) (nw+l.length)/\(∀k,c k->B k\/w.heap.size≤k)/\aA B w f
theorem rH.keep{c f:World}{l:List Ad}{e:Ending}(h:rH w a B D Z Mm nw l b e c)(k:aA aB c f):rH w a B D Z Mm nw l b e f:=by
 obtain⟨i,g,j,n,o⟩:=h;exact⟨i,g,j.keep0 k,n,o.trans k.any⟩
structure MPI(w wr:World)(a:Nat)(B Bk:Nat->Prop)(D Z:Nat)(Mm:Nat->Nat->List UInt8)(nw k:Nat)(l:List Ad)(b:List UInt8):Prop where
 arr:bE wr a Bk D Z (fP b (l.take k) Mm) (nw+k)
 grow:∀i,Bk i->B i\/w.heap.size≤i
 keep:aA B w wr
theorem Ng(h:bE w a B D Z Mm nw)(hm:eQ w m a)(qw:¬B m)(v:Value)(l:List Ad)(hr:Rd w 2 v l.length (aJ l))(hl:∀x∈l,bW x D Z)(qu:(l.map (·.dev)).Nodup)(qv:jF l)(h1:1≤l.length)(h3:l.length≤3)
 (hv:∀i,v.ownBlock=some i->¬B i) (R:Value) (b:List UInt8) (q7:b.length=256) (V:Rd w 1 R 256 (b.map vb)) (qx:∀i,R.ownBlock=some i->¬B i) (hn:nw<90000000000) :
 Calls prog 42 #[.pointer m,v,R] w (rH w a B D Z Mm nw l b):=by
 obtain⟨oa,ca,rfl,-,-⟩:=hr.form
 obtain⟨g2,o2,c2,rfl⟩:∃g o c,R=.slice (some ⟨g,o,none⟩) 256 c:=by
  obtain⟨h1,a',c',rfl,-,-,-,h4⟩:=V;obtain⟨g,o,rfl,hc⟩:=h4 (by rw[h1];decide);exact⟨g,o,c',rfl⟩
 obtain⟨n,Q⟩:=zX9 l.length
 have HN:=O Q
 have qr:oa=none\/∃g o,oa=some ⟨g,o,none⟩/\g<w.heap.size:=by
  obtain⟨J,a',c',he,-,-,-,h4⟩:=hr;obtain⟨g,o,rfl,hc⟩:=h4 (by rw[J];omega);cases he
  obtain⟨u,hu⟩:∃u,(aJ l)[0]?=some u:=⟨_,List.getElem?_eq_getElem (by rw[J];omega)⟩
  exact .inr ⟨g,o,rfl,World.block_lt_of_cell? w _ (hc 0 u hu)⟩
 have zg:m<w.heap.size:=lt_of_block hm
 have qe:g2<w.heap.size:=by
  obtain⟨J,a',c',he,-,-,-,h4⟩:=V;obtain⟨g,o,e,hc⟩:=h4 (by rw[J];decide);cases he;cases e
  obtain⟨u,hu⟩:∃u,(b.map vb)[0]?=some u:=⟨_,List.getElem?_eq_getElem (by rw[J];decide)⟩
  exact World.block_lt_of_cell? w _ (hc 0 u hu)
 rw[Q] at hr h1 h3 hv ⊢;have e1:¬((n:Int)<1):=by omega
 have e3:¬(3<(n:Int)):=by omega
 have N:=O h;have q:=O hm;have P:=O hr;have z:=O V;have qi:=O hl;have qz:=O qu;have q0:=O qv;have HV:=O hv;have qm:=O qx;have zi:=O qr;have HS:=O (by have:=xO h hm _ l (by rw[Q];exact hr) hl;exact this);have qa:=O (aA.refl aB w);clear h hm hr V hl qu qv hv qx Q qr;have t:=lN w;go_in;clear HS qa;go_wp2_with fail;refine(C6 w m a q.out).mono ?_;rintro e w1 ⟨rfl,f⟩;replace t:=kL t f;replace N:=O (N.keep0 f);replace q:=O (f.blk q.out id);replace P:=O (P.keep f fun _ _=>id);replace z:=O (z.keep f fun _ _=>id);clear f;go_wp2_with fail;refine(xO N.out q.out _ l (by rw[HN.out];exact P.out) qi.out).mono ?_;rintro e w2 ⟨rfl,f⟩;replace t:=kL t f;replace N:=O (N.keep0 f);replace q:=O (f.blk q.out id);replace P:=O (P.keep f fun _ _=>id);replace z:=O (z.keep f fun _ _=>id);clear f;go_wp2_with fail;refine(IG w2 _ l (by rw[HN.out];exact P.out) qz.out q0.out).mono ?_;rintro e w3 ⟨rfl,f⟩;replace t:=kL t f;replace N:=O (N.keep0 f);replace q:=O (f.blk q.out id);replace P:=O (P.keep f fun _ _=>id);replace z:=O (z.keep f fun _ _=>id);clear f;go_wp2_with fail;have H0:Hid (MPI w3 w3 a B B D Z Mm nw 0 l b):=O ⟨by rw[List.take_zero];exact N.out,fun i h=>.inl h,aA.refl _ _⟩;have zk:m<w3.heap.size:=lt_of_block q.out;have q1:Hid (w.heap.size≤w3.heap.size):=O t.keep.size;have qa:=O t.keep;have zh:w.heap.size≤w3.heap.size:=q1.out;have q4:=O P.out;have qk:=O z.out;have qj:=O q.out
 go_loopw [8,41] (fun c i wr=>∃(k:Nat) (T:Nat->Prop),k≤n/\i=.int .i64 k/\c=.int .i64 k/\Hid (MPI w3 wr a B T D Z Mm nw k l b)) (fun _ i _=>n-(intOf i).toNat)
 case atStart=>exact⟨0,B,by omega,rfl,rfl,H0⟩
 case round =>
  clear H0 t N;obtain⟨k,T,f,rfl,rfl,L⟩:=hrel
  by_cases q9:k<n
  ·obtain⟨x,hx⟩:∃x,l[k]?=some x:=⟨l[k]'(by rw[HN.out];exact q9),List.getElem?_eq_getElem _⟩
   obtain⟨d,s,rfl,hd,zl,ze⟩:=nA (qi x (List.mem_of_getElem? hx));have qc:=O L.keep;have qg:=q4.keep qc.out HV.out;rw[←HN.out] at qg;obtain⟨g,o,zf,hv,qp⟩:=fT qg hx;obtain rfl:oa=some ⟨g,o,none⟩:=by cases hv;rfl
   have HX:=O qp;have q5:=O hx;have za:¬T g2:=fun e=>(L.grow g2 e).elim (qm g2 rfl) (by omega)
   have zd:¬T m:=fun e=>(L.grow m e).elim qw (by omega)
   have j:=O (qk.keep qc.out qm.out);have r:Hid (eQ wr m a):=O (qc.blk qj.out qw);have y:=O L.arr;have t:=O (Loc.nil T T wr);have qf:(0:Int)≤(k:Int):=by omega
   have zj:(k:Int)<(n:Int):=by omega
   have zb:nw+k<100000000000:=by omega
   clear hx qg qp hv
   go_wp2_with (first
    | refine ldM g (o+k*2) (aO ⟨(d:Int),(s:Int)⟩) HX.out bY (by rw[bD];exact iV) ?_
    | refine alA xJ ?_)
   intro G w4 qq qf W
   go_wp2_with ((with_reducible show WL _ _);refine sta 93 (.tmp 10) (.tmp 44) G 0 (aO ⟨(d:Int),(s:Int)⟩) W (by first|decide|(rw[List.size_toArray,bD];exact Nat.le_refl _)|simp[bD]) (by rw[bD];exact iV) (bV _) ?_)
   intro w5 f V;rw[aI _ _ (by first|rfl|(rw[List.size_toArray,bD];rfl)|simp[bD])] at V;replace f:=tX qf f (fun i X e=>by omega);replace t:=O (t.new (fun _ f=>y.lt f) qq f V);replace HX:=O (f.rangeAt HX.out);replace y:=O (y.keep0 f);replace r:=O (f.blk r.out id);replace j:=O (j.keep f fun _ _=>id);clear qq f V qf W;clear HX;go_wp2_with fail;refine dwA T (by kernel_rfl) ?_;intro w6 S F ql H I;replace t:=kL t I;replace y:=O (y.keep0 I);replace r:=O (I.blk r.out id);replace j:=O (j.keep I fun _ _=>id);clear I;have C:=t;have qh:=y;have E:=r;have qd:=j;refine tna 0 (.pointer m) rfl H ?_;refine tnb 1 (.pointer m) rfl H ?_;refine tnb 2 (.pointer m) rfl H ?_;refine tnd 3 (.pointer a) rfl (.inl ⟨by rfl,fun Y K=>by have c:World.cell? Y ⟨m,0,none⟩=some (.pointer a):=(F Y K).cell (eQ.c0 E.out) zd;go_simp⟩) H ?_;refine tnb 4 (.pointer G) rfl H ?_;refine tnd 5 (.int .i64 (d:Int)) rfl (.inl ⟨by rfl,fun Y K=>by have c:World.cell? Y ⟨G,0,none⟩=some (.int .i64 (d:Int)):=(aC (i:=0) ((F Y K).blk (C.b 0) ((C.aq 0))) rfl);go_simp⟩) H ?_;refine tnb 6 (.pointer (some ⟨G,1,none⟩)) rfl H ?_;refine tnd 7 (.int .i64 (s:Int)) rfl (.inl ⟨by rfl,fun Y K=>by have c:World.cell? Y ⟨G,1,none⟩=some (.int .i64 (s:Int)):=(aC (i:=1) ((F Y K).blk (C.b 0) ((C.aq 0))) rfl);go_simp⟩) H ?_;refine tna 8 (.slice (some ⟨g2,o2,none⟩) 256 c2) rfl H ?_;refine wA9 9 ?_;go_wp2_with fail;refine(qG y.out hd ze b q7 _ j.out (fun i X=>by cases X;exact za) zb).mono ?_;rintro e w7 ⟨rfl,B2,qo,qe,A⟩;have qn:=ql.out _ ((F _ H).trans A);have qt:=L.keep.trans' ((t.keep).trans A) (U:=B) (fun _ _ h=>h) (fun i X e=>(L.grow i e).elim id (fun h=>absurd X (by omega)));have qy:Hid (MPI w3 w7 a B B2 D Z Mm nw (k+1) l b):=O ⟨by rw[List.take_add_one,q5.out];show bE _ _ _ _ _ (fP b (l.take k++[⟨(d:Int),(s:Int)⟩]) Mm) _;rw[C5];exact qo,fun i X=>(qe i X).elim (fun h=>L.grow i h) (fun h=>.inr (Nat.le_trans (Nat.le_trans L.keep.size t.keep.size) h)),qt⟩;clear qo qe A qt H;go_wp2_with fail;refine⟨qn,?_⟩;refine wpAnyH_done (by kernel_rfl) ?_ _;clear qn F ql C qh E qd;clear t y r j;go_wp2
   go_roundw
   case rel=>exact⟨k+1,_,by omega,by go_num,by go_num,qy⟩
   case measure=>simp[intOf];omega
  ·obtain rfl:n=k:=by omega
   have HP:Hid (rH w a B D Z Mm nw l b (.returned (.tuple #[.int .i64 (n:Int),.int .i64 0])) wr):=O (by
    have h:=L.out;refine⟨by rw[HN.out],T,?_,fun i X=>(h.grow i X).imp id fun h=>by omega,qa.any.trans h.keep⟩;have ha:=h.arr;rw[List.take_of_length_le (by rw[HN.out];exact Nat.le_refl _)] at ha;rw[HN.out];exact ha)
   clear L;go_wp2_with fail;refine(Nd wr n (by omega)).mono ?_;rintro e w2 ⟨rfl,A⟩;have q3:=O (HP.keep A);clear A HP;go_wp2
   go_ret2
   exact q3.out
def Kor.room(S:Kor)(N:Nat):Prop:=gJ S.allUp S.cp (bN S.L S.D S.Z) N
theorem Nz{S:Kor}{N:Nat}(h:S.room (N+1))(lv:Nat)(b:List UInt8):∃p T,S.put lv b=some (p,T)/\T.room N:=by
 obtain⟨l,c,e⟩:=Ih h;refine⟨⟨aU S.L S.Z l,S.txg+1,(lv:Int),bU b⟩,⟨S.D,S.Z,S.cp,S.L++aU S.L S.Z l,fP b (aU S.L S.Z l) S.M,S.txg⟩,?_,?_⟩
 ·unfold Kor.put;rw[c]
 ·unfold Kor.room
  show gJ S.allUp S.cp (bN (S.L++aU S.L S.Z l) S.D S.Z) N;rw[zY c];exact e
theorem Li{S:Kor}(h:S.room 0)(lv:Nat)(b:List UInt8):S.put lv b=none:=by
 unfold Kor.put;rw[Ii h]
end
end Go.Proofs.YtoeinblfcbpcmaaGreatDoor
