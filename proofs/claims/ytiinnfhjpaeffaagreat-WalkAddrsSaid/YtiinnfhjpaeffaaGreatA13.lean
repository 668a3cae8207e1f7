import Derived.Test.YtiinnfhjpaeffaaGreatA1
import Derived.Test.YtiinnfhjpaeffaaGreatA12
import Derived.Laws.BytesArg
import Derived.Laws.BitsAllLaws
import Derived.Outline
namespace Go.Proofs.YtiinnfhjpaeffaaGreat
set_option maxHeartbeats 64000000
set_option maxRecDepth 100000
set_option linter.unusedVariables false
section
open Go.RowKit
variable{w w' w2:World}{base p n:Nat}{v v':Value}{l:List UInt8}{e:Int}{S:Nat->Prop}{r:List UInt8×Int}
theorem fS:(Tryz.prog.info? 5).map (fun i=>(i.zero,i.size,i.bytes))=some (some (.int .u8 0),1,1):=by kernel_rfl
theorem Kh{P:Program}{b:Func}{R:Ending->World->Prop}{a:Act}(d:b.results=#[])(c:a.defers=[])(hR:R (.returned (.tuple #[])) w):bodyPost P b R .ret a w:=
 bodyPost_ret (results_none d _ _ _) c hR
structure Wr(w:World)(base p:Nat)(v:Value)(l:List UInt8)(e:Int):Prop where
 blk:w.heap[p]?=some (.cells #[.bool true,v,.int .i64 e] 271 (0,0))
 own:w.ownsRow base 5 1 v l.length (l.map vb)
 ne:v.ownBlock≠some p
 le:base≤p
def dV(w:World)(base p:Nat)(v:Value)(r:List UInt8×Int)(e:Ending)(w':World):Prop:=
 e=.returned (.tuple #[])/\∃v',Wr w' base p v' r.1 r.2/\aA (fun k=>k=p\/v.ownBlock=some k) w w'/\(v'.ownBlock=v.ownBlock\/∃g,v'.ownBlock=some g/\w.heap.size≤g)
def kB(w:World)(bs:List UInt8)(b:Int)(e:Ending)(w':World):Prop:=
 ∃a,e=.returned (.tuple #[a,.int .i64 b])/\aA aB w w'/\Rd w' 1 a bs.length (bs.map vb)
theorem Wr.cells(h:Wr w base p v l e) :
 w.cell? ⟨p,0,none⟩=some (.bool true)/\w.cell? ⟨p,1,none⟩=some v/\w.cell? ⟨p,2,none⟩=some (.int .i64 e)/\(∀i,w.frozen? ⟨p,i,none⟩=false):=by
 refine⟨?_,?_,?_,fun i=>frozen_of_row w p i _ _ h.blk⟩<;>(rw[cell_of_row w p _ _ _ _ h.blk];rfl)
theorem Wr.keep(h:Wr w base p v l e)(k:aA S w w')(a:¬S p)(b:∀g,v.ownBlock=some g->¬S g):Wr w' base p v l e:=
 ⟨k.blk h.blk a,k.owns h.own b,h.ne,h.le⟩
theorem Wr.setErr(h:Wr w base p v l e)(a:Int):Wr (w.setCell ⟨p,2,none⟩ (.int .i64 a)) base p v l a:=
 ⟨by rw[dO h.blk];rfl,ownsRow_setCell_other h.own (by simpa using h.ne) _,h.ne,h.le⟩
theorem Wr.app{m:World}{bs:List UInt8}(d:Wr m base p v l 0)(o:aA (fun k=>k=p\/v.ownBlock=some k) w m)
 (c:w2.ownsRow base 5 1 v' (l.length+bs.length) (l.map vb++bs.map vb)) (i:aA (fun k=>v.ownBlock=some k) m w2) (f:v'.ownBlock=v.ownBlock\/v'.ownBlock=some m.heap.size) :
 w2.cell? ⟨p,1,none⟩=some v/\w2.frozen? ⟨p,1,none⟩=false /\
 Hid (Wr (w2.setCell ⟨p,1,none⟩ v') base p v' (l++bs) 0/\aA (fun k=>k=p\/v.ownBlock=some k) w (w2.setCell ⟨p,1,none⟩ v')/\(v'.ownBlock=v.ownBlock\/∃g,v'.ownBlock=some g/\w.heap.size≤g)):=by
 have b:=i.blk d.blk d.ne;refine⟨by rw[cell_of_row w2 p _ _ _ _ b];rfl,frozen_of_row w2 p _ _ _ b,O ⟨?_,?_,?_⟩⟩
 ·have j:v'.ownBlock≠some p:=by
   rcases f with h|h
   ·rw[h];exact d.ne
   ·rw[h];have:=lt_of_block d.blk;intro e;simp only[Option.some.injEq] at e;omega
  refine⟨by rw[dO b];rfl,?_,j,d.le⟩;have:=ownsRow_setCell_other c (a:=⟨p,1,none⟩) j v'
  simpa using this
 ·exact(o.trans (i.mono fun _ _ h=>.inr h)).setCell (fun _=>.inl rfl) _
 ·rcases f with h|h
  ·exact .inl h
  ·exact .inr ⟨_,h,o.size⟩
theorem It(p:Nat)(e:Int)(w:World)(c:Nat)(a:Array Value)(base:Nat)(v:Value)(l:List UInt8)(h:Wr w base p v l e)(b:e≠0) :
 Calls Tryz.prog 191 #[.pointer p,.func (.func c) #[] a] w (dV w base p v (l,e)):=by
 obtain⟨i,j,k,m⟩:=h.cells;have d:(e != 0)=true:=by simp[b]
 have f:(e == 0)=false:=by simp[b]
 have g:=O b;clear b;have H:=O h;clear h;go_in;go_wp2_with fail;refine Kh rfl rfl ?_;exact⟨rfl,v,H.out,aA.refl _ _,.inl rfl⟩
theorem Ki(p:Nat)(w:World)(i:Nat)(a:Array Value)(base:Nat)(v:Value)(l:List UInt8)(h:Wr w base p v l 0)
 (t:∀w,Sem.run Tryz.prog (callFunc i a) w=.ok (.enter i a) w)
 (bs:List UInt8) (c:Int) (b:c≠0) (m:Calls Tryz.prog i a w (kB w bs c)) :
 Calls Tryz.prog 191 #[.pointer p,.func (.func i) #[] a] w (dV w base p v (l,c)):=by
 obtain⟨d,f,g,o⟩:=h.cells;have u:(c != 0)=true:=by simp[b]
 have x:(c == 0)=false:=by simp[b]
 have y:=O b;clear b;have H:=O h;clear h;have C:=O m;clear m;go_in;go_wp2_with fail;refine C.out.mono ?_;rintro e A ⟨z,rfl,k,-⟩;have j:=H.keep k (fun h=>h) (fun _ _ h=>h);clear d f g o;obtain⟨d,f,g,o⟩:=j.cells;have s:=O k;clear k;have q:=O j;clear j;go_wp2_with fail;refine Kh rfl rfl ?_;refine⟨rfl,v,q.setErr c,?_,.inl rfl⟩;exact(s.any).setCell (fun _=>.inl rfl) _
theorem Gb(p:Nat)(w:World)(k:Nat)(b:Array Value)(base:Nat)(v:Value)(l:List UInt8)(h:Wr w base p v l 0)
 (F:∀w,Sem.run Tryz.prog (callFunc k b) w=.ok (.enter k b) w)
 (bs:List UInt8) (Q:l.length≤65536) (N:bs.length≤140737488351232) (s:65536<l.length+bs.length) (x:Calls Tryz.prog k b w (kB w bs 0)) :
 Calls Tryz.prog 191 #[.pointer p,.func (.func k) #[] b] w (dV w base p v (l,3)):=by
 obtain⟨i,c,j,y⟩:=h.cells;have H:=O h;clear h;have C:=O x;clear x
 obtain⟨a,n,d,t,z⟩:∃a n d,v=.slice a n d/\n=l.length:=by
  rcases H.own.2 with⟨o,E⟩|⟨g,d,cur,o,_⟩
  ·exact⟨_,_,_,o,E.symm⟩
  ·exact⟨_,_,_,o,rfl⟩
 rw[t] at c;have D:=O t;clear t;have G:n≤65536:=by omega
 have I:65536<n+bs.length:=by omega
 have J:=O z;clear z;go_in;go_wp2_with fail;refine C.out.mono ?_;rintro e R ⟨M,rfl,q,f⟩;have m:=H.keep q (fun h=>h) (fun _ _ h=>h);clear i c j y;obtain⟨i,c,j,y⟩:=m.cells;rw[D.out] at c;obtain⟨L,u,rfl,-,-⟩:=f.form;have B:=O q;clear q;have A:=O m;clear m;have K:=O f;clear f;go_wp2_with fail;refine Kh rfl rfl ?_;refine⟨rfl,v,A.setErr 3,?_,.inl rfl⟩;exact(B.any).setCell (fun _=>.inl rfl) _
theorem Kj(p:Nat)(w:World)(A:Nat)(c:Array Value)(base:Nat)(v:Value)(l:List UInt8)(h:Wr w base p v l 0)
 (Y:∀w,Sem.run Tryz.prog (callFunc A c) w=.ok (.enter A c) w)
 (bs:List UInt8) (F:l.length+bs.length≤65536) (L:Calls Tryz.prog A c w (kB w bs 0)) :
 Calls Tryz.prog 191 #[.pointer p,.func (.func A) #[] c] w (dV w base p v (l++bs,0)):=by
 obtain⟨o,f,i,M⟩:=h.cells;have H:=O h;clear h;have C:=O L;clear L
 obtain⟨a,n,m,G,N⟩:∃a n m,v=.slice a n m/\n=l.length:=by
  rcases H.own.2 with⟨D,X⟩|⟨g,m,cur,D,_⟩
  ·exact⟨_,_,_,D,X.symm⟩
  ·exact⟨_,_,_,D,rfl⟩
 rw[G] at f;have K:=O G;clear G;have Z:n+bs.length≤65536:=by omega
 have HN:=O N;clear N;go_in;go_wp2_with fail;refine C.out.mono ?_;rintro e I ⟨bv,rfl,E,q⟩;have B:=H.keep E (fun h=>h) (fun _ _ h=>h);clear o f i M;obtain⟨o,f,i,M⟩:=B.cells;rw[K.out] at f;obtain⟨W,s,rfl,-,-⟩:=q.form;have z:=B.setErr 0;have d:aA (fun k=>k=p\/v.ownBlock=some k) w (I.setCell ⟨p,2,none⟩ (.int .i64 0)):=(E.any).setCell (fun _=>.inl rfl) _;have j:Rd (I.setCell ⟨p,2,none⟩ (.int .i64 0)) 1 (.slice W bs.length s) bs.length (bs.map vb):=q.setCell i (by simp[vb]) _;have x:base≤(I.setCell ⟨p,2,none⟩ (.int .i64 0)).heap.size:=by have:=z.le;have:=lt_of_block z.blk;omega
 have T:=O x;clear x;have Q:=O d;clear E d;have J:=O z;clear z B;have R:=O j;clear j q;have y:l.length+bs.length≤maxLen:=by unfold maxLen;omega
 have V:=O y;clear y
 go_wp2_with (at_builtin;refine aL rfl (.tmp 50) (.tmp 51) 109 rfl base 5 _ 1 1 Tryz.underlying109 fS rfl (by omega) v l.length (l.map vb) (by exact K.symm) J.own _ bs.length (bs.map vb) rfl R.out (bS _) V.out (by omega) T.out ?_;intro v' w2 b d u t;obtain⟨a3,c3,rfl,-,-⟩:=(Rd.of_owns b).form;obtain⟨c1,f1,U⟩:=Wr.app J.out Q.out b d t;clear b d u t o f i)
 go_end0
 exact⟨rfl,_,U.out⟩
theorem uI(p:Nat)(w:World)(c:Nat)(a:Array Value)(base:Nat)(v:Value)(l:List UInt8)(e:Int)(h:Wr w base p v l e)(m:l.length≤65536)
 (f:∀w,Sem.run Tryz.prog (callFunc c a) w=.ok (.enter c a) w)
 (bs:List UInt8) (d:Int) (k:bs.length≤140737488351232) (i:Calls Tryz.prog c a w (kB w bs d)) :
 Calls Tryz.prog 191 #[.pointer p,.func (.func c) #[] a] w (dV w base p v (wst (l,e) (bs,d))):=by
 by_cases j:e=0
 ·subst j
  by_cases g:d=0
  ·subst g
   by_cases b:65536<l.length+bs.length
   ·have:wst (l,0) (bs,0)=(l,3):=by simp[wst,b]
    rw[this];exact Gb p w c a base v l h f bs m k b i
   ·have:wst (l,0) (bs,0)=(l++bs,0):=by simp[wst,b]
    rw[this];exact Kj p w c a base v l h f bs (by omega) i
  ·have:wst (l,0) (bs,d)=(l,d):=by simp[wst,g]
   rw[this];exact Ki p w c a base v l h f bs d g i
 ·have:wst (l,e) (bs,d)=(l,e):=by simp[wst,j]
  rw[this];exact It p e w c a base v l h j
open Go.RowKit
set_option maxRecDepth 100000
theorem Mj{wr:World}{k s:Nat}(b:wr.ownsRow w.heap.size 5 1 v k (((List.range k).map (iN n s)).map vb))(d:aA aB w wr)
 (a:w2.ownsRow w.heap.size 5 1 v' (k+1) (((List.range k).map (iN n s)).map vb++[.int .u8 ((n:Int) / 2 ^ (8*(s-k-1)) % 256)]))
 (c:aA (fun i=>v.ownBlock=some i) (wr.alloc (.cells #[.int .u8 ((n:Int) / 2 ^ (8*(s-k-1)) % 256)] 5)) w2) :
 Hid (w2.ownsRow w.heap.size 5 1 v' (k+1) (((List.range (k+1)).map (iN n s)).map vb))/\Hid (aA aB w w2):=by
 refine⟨O ?_,O ?_⟩
 ·rw[rL,List.map_append]
  simpa [vb,sJ] using a
 ·refine(d.alloc _).trans' c (fun _ _ h=>h) (fun i f h=>?_)
  have:=(b.lt i h).1;omega
theorem Mk(A B s:Nat)(n:Nat)(w:World)(J:1≤s)(K:s≤7)(o:n<2 ^ (8*s))
 (t:w.heap[A]?=some (.cells #[.int .i64 n] 3 (0,0))) (y:w.heap[B]?=some (.cells #[.int .i64 s] 3 (0,0))) :
 Calls Tryz.prog 193 #[.pointer B,.pointer A] w (kB w (be n s) 0):=by
 have F:n<72057594037927936:=Nat.lt_of_lt_of_le o (Nat.pow_le_pow_right (by omega) (show 8*s≤56 by omega));have D:n / 2 ^ (8*s)=0:=Nat.div_eq_of_lt o
 have L:((n:Int) / 2 ^ (8*s) != 0)=false:=by
  have:((n:Int) / 2 ^ (8*s))=((n / 2 ^ (8*s):Nat):Int):=by simp
  rw[this,D];rfl
 have d:=cell_of_one t;have f:=cell_of_one y;have M:=O t;have N:=O y;have Q:=O o;have T:=O D;clear t y o D;go_in;go_wp2_with fail
 go_loopw [4,5] (fun v i wr=>∃k:Nat,k≤s/\i=.int .i64 (s-k:Nat)/\Hid (wr.ownsRow w.heap.size 5 1 v k (((List.range k).map (iN n s)).map vb))/\Hid (aA aB w wr)) (fun _ i _=>(intOf i).toNat)
 case atStart=>exact⟨0,by omega,rfl,O (World.ownsRow_nil _ _ _ _),O (aA.refl _ _)⟩
 case round =>
  obtain⟨k,U,rfl,a,b⟩:=hrel;have x:=b.out.cell d id;have z:=b.out.cell f id;clear d f
  by_cases I:k<s
  ·have m:w.heap.size≤(wr.alloc (.cells #[.int .u8 ((n:Int) / 2 ^ (8*(s-k-1)) % 256)] 5)).heap.size:=by have:=b.out.size;simp;omega
   have H:=O m;clear m;have h:k+1≤maxLen:=by unfold maxLen;omega
   have q:=O h;clear h;have E:∀u∈[Value.int .u8 ((n:Int) / 2 ^ (8*(s-k-1)) % 256)],u.oneCell'=true:=by simp[Value.oneCell']
   have G:=O E;clear E
   go_wp2_with (at_builtin;refine aL rfl (.tmp 28) (.tmp 35) 109 rfl w.heap.size 5 _ 1 1 Tryz.underlying109 fS rfl (by omega) _ k _ rfl (a.out.alloc _) _ 1 _ rfl (tN _ _ _) G.out q.out (by omega) H.out ?_;intro v' w2 c g j C;have R:=Mj a.out b.out c g;clear c g j C a b x z)
   go_roundw
   case rel=>exact⟨k+1,by omega,by rw[show s-(k+1)=s-k-1 by omega];go_num,R⟩
   case measure=>simp[intOf];omega
  ·obtain rfl:k=s:=by omega
   go_wp2
   go_ret2
   exact⟨_,rfl,b.out,by have:=Rd.of_owns a.out;rw[bM];exact this⟩
theorem qJ{a:Int}{e:Ending}(b:e=.returned (.tuple #[.slice none 0 0,.int .i64 a]))(c:w=w'):kB w [] a e w':=by
 subst c;exact⟨_,b,aA.refl _ _,Rd.nil _ _⟩
theorem Iu(A B:Nat)(size:Int)(w:World)(a:size<1\/7<size)
 (b:w.heap[B]?=some (.cells #[.int .i64 size] 3 (0,0))) :
 Calls Tryz.prog 193 #[.pointer B,.pointer A] w (kB w [] 2):=by
 have c:=cell_of_one b;clear b;rcases a with a|a
 ·go_in
  go_wp2
  go_ret2
  exact qJ rfl rfl
 ·have d:¬size<1:=by omega
  go_in;go_wp2
  go_ret2
  exact qJ rfl rfl
theorem Gc(A B s:Nat)(n:Int)(w:World)(i:1≤s)(j:s≤7)(a:n<0\/n / 2 ^ (8*s)≠0)
 (b:w.heap[A]?=some (.cells #[.int .i64 n] 3 (0,0))) (c:w.heap[B]?=some (.cells #[.int .i64 s] 3 (0,0))) :
 Calls Tryz.prog 193 #[.pointer B,.pointer A] w (kB w [] 5):=by
 have f:=cell_of_one b;have g:=cell_of_one c;clear b c
 by_cases h0:n<0
 ·clear a
  go_in;go_wp2
  go_ret2
  exact qJ rfl rfl
 ·have k:(n / 2 ^ (8*s) != 0)=true:=by
   rcases a with h|h
   ·exact absurd h h0
   ·simpa using h
  have d:0≤n:=by omega
  clear a h0;go_in;go_wp2
  go_ret2
  exact qJ rfl rfl
theorem Kk(A B:Nat)(n size:Int)(w:World)
 (d:w.heap[A]?=some (.cells #[.int .i64 n] 3 (0,0))) (b:w.heap[B]?=some (.cells #[.int .i64 size] 3 (0,0))) :
 Calls Tryz.prog 193 #[.pointer B,.pointer A] w (kB w (eO n size).1 (eO n size).2):=by
 unfold eO
 by_cases c:size<1\/7<size
 ·rw[if_pos c];exact Iu A B size w c b
 ·rw[if_neg c]
  obtain⟨s,rfl⟩:=Int.eq_ofNat_of_zero_le (show 0≤size by omega);have f:(8*(s:Int)).toNat=8*s:=by omega
  rw[f]
  by_cases a:n<0\/n / 2 ^ (8*s)≠0
  ·rw[if_pos a];exact Gc A B s n w (by omega) (by omega) a d b
  ·rw[if_neg a]
   obtain⟨m,rfl⟩:=Int.eq_ofNat_of_zero_le (show 0≤n by omega)
   have g:m<2 ^ (8*s):=by
    have:(m:Int) / 2 ^ (8*s)=0:=by
     rcases Classical.em ((m:Int) / 2 ^ (8*s)=0) with h|h
     ·exact h
     ·exact absurd (.inr h) a
    have i:m / 2 ^ (8*s)=0:=by
     have j:((m / 2 ^ (8*s):Nat):Int)=0:=by simpa using this
     omega
    rcases Nat.lt_or_ge m (2 ^ (8*s)) with h|h
    ·exact h
    ·have:=Nat.div_pos h (Nat.pos_of_ne_zero (by simp));omega
   exact Mk A B s m w (by omega) (by omega) g d b
theorem dV.of{e:Ending}(a:aA aB w w2)(h:dV w2 base p v r e w'):dV w base p v r e w':=by
 obtain⟨f,v',b,c,d⟩:=h;refine⟨f,v',b,a.trans' c (fun _ _ h=>h.elim) (fun _ _ h=>h),?_⟩;rcases d with h|⟨g,h,i⟩
 ·exact .inl h
 ·exact .inr ⟨g,h,Nat.le_trans a.size i⟩
theorem Gd(n size:Int):(eO n size).1.length≤7:=by
 unfold eO;split
 ·simp
 ·split
  ·simp
  ·rw[bM];omega
theorem uJ(a:aA aB w w2){e:Ending}(h:dV w2 base p v r e w'):e=.returned (.tuple #[])/\Hid (dV w base p v r e w'):=
 ⟨h.1,dV.of a h⟩
theorem mJ(p:Nat)(n size:Int)(w:World)(base:Nat)(v:Value)(l:List UInt8)(e:Int)(h:Wr w base p v l e)(g:l.length≤65536) :
 Calls Tryz.prog 142 #[.pointer p,.int .i64 n,.int .i64 size] w (dV w base p v (wst (l,e) (eO n size))):=by
 have K:aA aB w ((w.alloc (.cells #[.int .i64 n] 3)).alloc (.cells #[.int .i64 size] 3)):=((aA.refl _ _).alloc _).alloc _;have a:=h.keep K id (fun _ _ h=>h);have c:=Kk w.heap.size (w.heap.size+1) n size ((w.alloc (.cells #[.int .i64 n] 3)).alloc (.cells #[.int .i64 size] 3)) (heap_alloc2_old _ _ _) (heap_alloc2_new _ _ _);have W:=uI p _ 193 _ base v l e a g (fun _=>rfl) _ _ (by have:=Gd n size;omega) c;have d:=O W;have b:=O K;clear h a c W K;go_in;go_wp2_with fail;refine d.mono ?_;rintro e i h;obtain⟨rfl,f⟩:=uJ b.out h;go_wp2_with fail
 go_end0
 exact f.out
open Go.RowKit
set_option maxRecDepth 100000
theorem E7(w:World):Calls Tryz.prog 140 #[] w fun e w'=>∃p,e=.returned (.pointer (some ⟨p,0,none⟩))/\Wr w' w.heap.size p (.slice none 0 0) [] 0/\aA aB w w'/\w.heap.size≤p:=by
 go_in;go_wp2;go_ret;refine⟨_,rfl,⟨?_,World.ownsRow_nil _ _ _ _,by simp[Value.ownBlock],Nat.le_refl _⟩,(aA.refl _ _).alloc _,Nat.le_refl _⟩;exact heap_alloc_new w _
theorem Kl(A:Nat)(d:Value)(bs:List UInt8)(w:World)(f:w.heap[A]?=some (.cells #[d] 109 (0,0)))(b:Rd w 1 d bs.length (bs.map vb)) :
 Calls Tryz.prog 192 #[.pointer A] w (kB w bs 0):=by
 have h:=cell_of_one f;obtain⟨a,c,rfl,-,-⟩:=b.form;have g:=O b;clear b f;go_in;go_wp2
 go_ret2
 exact⟨_,rfl,aA.refl _ _,g.out⟩
theorem rP(p:Nat)(b:Value)(bs:List UInt8)(w:World)(base:Nat)(v:Value)(l:List UInt8)(e:Int)(h:Wr w base p v l e)(m:l.length≤65536)(d:Rd w 1 b bs.length (bs.map vb))(k:bs.length≤140737488351232) :
 Calls Tryz.prog 141 #[.pointer p,b] w (dV w base p v (wst (l,e) (bs,0))):=by
 have K:aA aB w (w.alloc (.cells #[b] 109)):=(aA.refl _ _).alloc _;have f:=h.keep K id (fun _ _ h=>h);have c:=Kl w.heap.size b bs (w.alloc (.cells #[b] 109)) (heap_alloc_new _ _) (d.keep K fun _ _=>id);have W:=uI p _ 192 _ base v l e f m (fun _=>rfl) bs 0 k c;obtain⟨a,cp,rfl,-,-⟩:=d.form;have i:=O W;have g:=O K;clear h f c W K d;go_in;go_wp2_with fail;refine i.mono ?_;rintro e o h;obtain⟨rfl,j⟩:=uJ g.out h;go_wp2_with fail
 go_end0
 exact j.out
theorem Ml(A B p:Nat)(b:Int)(w:World)(base:Nat)(v:Value)(l:List UInt8)(e:Int)(h:Wr w base p v l e)(c:65536<b\/b<l.length)
 (d:w.heap[A]?=some (.cells #[.pointer p] 214 (0,0))) (f:w.heap[B]?=some (.cells #[.int .i64 b] 3 (0,0))) :
 Calls Tryz.prog 194 #[.pointer B,.pointer A] w (kB w [] 2):=by
 obtain⟨m,o,q,t⟩:=h.cells;obtain⟨a,cp,rfl,-,-⟩:=(Rd.of_owns h.own).form;have j:=cell_of_one d;have k:=cell_of_one f;clear h d f
 by_cases g:65536<b
 ·clear c
  go_in;go_wp2_with fail
  go_quiet (fail)
  go_wp2
  go_ret2
  exact⟨_,rfl,(aA.refl _ _).drewN _,Rd.nil _ _⟩
 ·have s:b<l.length:=by omega
  have i:decide (65536<b)=false:=by simpa using g
  clear c;go_in;go_wp2_with fail
  go_quiet (fail)
  go_wp2
  go_ret2
  exact⟨_,rfl,(aA.refl _ _).drewN _,Rd.nil _ _⟩
theorem Mn(A B p:Nat)(b:Nat)(w:World)(base:Nat)(v:Value)(l:List UInt8)(e:Int)(h:Wr w base p v l e)(G:l.length≤b)(z:b≤65536)
 (q:w.heap[A]?=some (.cells #[.pointer p] 214 (0,0))) (s:w.heap[B]?=some (.cells #[.int .i64 b] 3 (0,0))) :
 Calls Tryz.prog 194 #[.pointer B,.pointer A] w (kB w (List.replicate (b-l.length) 0) 0):=by
 obtain⟨m,k,o,F⟩:=h.cells;obtain⟨a,cp,rfl,-,-⟩:=(Rd.of_owns h.own).form;have i:=cell_of_one q;have j:=cell_of_one s;have y:decide (65536<(b:Int))=false:=by simp;omega
 have C:IntKind.i64.wrap ((b:Int)-l.length)=((b-l.length:Nat):Int):=by rw[IntWalk.i64_in _ (by omega)];omega
 clear h q s;go_in;go_wp2_with fail
 go_quiet (fail)
 go_wp2_with fail;obtain⟨w2,d,c1,D,E⟩:∃w2,w.drewN nq=w2/\w2.cell? ⟨p,1,none⟩=some (.slice a l.length cp)/\w2.cell? ⟨A,0,none⟩=some (.pointer p)/\w2.cell? ⟨B,0,none⟩=some (.int .i64 b):=⟨_,rfl,k,i,j⟩
 rw[d];have g:=O d;clear d m k o i j
 go_still_tail 7,(by kernel_rfl)
 refine qE rfl (.tmp 21) (.tmp 21) 109 rfl w.heap.size 5 _ 1 Tryz.underlying109 fS rfl (b-l.length) (by rfl) (by rfl) (by omega) (by unfold maxLen;omega) (by rw[←g.out];exact Nat.le_refl _) ?_;intro t c f
 have u:Hid (aA aB w t):=by
  refine O ?_;have:aA aB w w2:=by rw[←g.out];exact(aA.refl _ _).drewN _
  exact this.trans' (show aA aB w2 t from⟨f.os,f.tape,f.output,f.size,f.block⟩) (fun _ _ h=>h) (fun _ _ h=>h)
 have x:=O c;clear c f C;go_wp2
 go_ret2
 refine⟨_,rfl,u.out,?_⟩;have:=Rd.of_owns x.out
 simpa [vb] using this
theorem Km(A B p:Nat)(b:Int)(w:World)(base:Nat)(v:Value)(l:List UInt8)(e:Int)(h:Wr w base p v l e)
 (c:w.heap[A]?=some (.cells #[.pointer p] 214 (0,0))) (d:w.heap[B]?=some (.cells #[.int .i64 b] 3 (0,0))) :
 Calls Tryz.prog 194 #[.pointer B,.pointer A] w (kB w (iT b l).1 (iT b l).2):=by
 unfold iT
 by_cases a:65536<b\/b<l.length
 ·rw[if_pos a];exact Ml A B p b w base v l e h a c d
 ·rw[if_neg a]
  obtain⟨n,rfl⟩:=Int.eq_ofNat_of_zero_le (show 0≤b by omega);exact Mn A B p n w base v l e h (by omega) (by omega) c d
theorem E8(p:Nat)(a:Int)(w:World)(base:Nat)(v:Value)(l:List UInt8)(e:Int)(h:Wr w base p v l e)(i:l.length≤65536) :
 Calls Tryz.prog 143 #[.pointer p,.int .i64 a] w (dV w base p v (wst (l,e) (iT a l))):=by
 have K:aA aB w ((w.alloc (.cells #[.pointer p] 214)).alloc (.cells #[.int .i64 a] 3)):=((aA.refl _ _).alloc _).alloc _;have b:=h.keep K id (fun _ _ h=>h);have c:=Km w.heap.size (w.heap.size+1) p a ((w.alloc (.cells #[.pointer p] 214)).alloc (.cells #[.int .i64 a] 3)) base v l e b (heap_alloc2_old _ _ _) (heap_alloc2_new _ _ _);have W:=uI p _ 194 _ base v l e b i (fun _=>rfl) _ _ (by have:=F9 a l;omega) c;have f:=O W;have d:=O K;clear h b c W K;go_in;go_wp2_with fail;refine f.mono ?_;rintro e j h;obtain⟨rfl,g⟩:=uJ d.out h;go_wp2_with fail
 go_end0
 exact g.out
def LV(w:World)(bs:List UInt8)(e:Ending)(w':World):Prop:=
 ∃v',e=.returned v'/\w'.ownsRow w.heap.size 5 1 v' bs.length (bs.map vb)/\aA aB w w'
theorem Bh(y:Value)(bs:List UInt8)(w:World)(G:Rd w 1 y bs.length (bs.map vb))(J:bs.length≤140737488351232) :
 Calls Tryz.prog 195 #[y] w (LV w bs):=by
 obtain⟨x,a,m,rfl,o,q,j,s⟩:=G;cases a with
 | none =>
   have E:=j rfl;subst E;have u:bs=[]:=List.eq_nil_of_length_eq_zero (by omega);subst u;clear o q j s x;have F:=fun(w:World) (a:Option Addr) (n c:Nat)=>Lib.run_eql_slice_nil (P:=Tryz.prog) w 109 5 a n c 0 0 Tryz.underlying109
   go_in;go_wp2;go_ret;exact⟨_,rfl,World.ownsRow_nil _ _ _ _,aA.refl _ _⟩
 | some D =>
   have K:aA aB w (w.alloc (.cells #[] 5)):=(aA.refl _ _).alloc _;have B:=O ((show Rd w 1 (.slice (some D) bs.length m) bs.length (bs.map vb) from⟨x,_,_,rfl,o,q,j,s⟩).keep K fun _ _=>id);have z:=O K;have g:0+bs.length≤maxLen:=by unfold maxLen;omega
   have C:=O g;clear o q j s x K g;have F:=fun(w:World) (a:Option Addr) (n c:Nat)=>Lib.run_eql_slice_nil (P:=Tryz.prog) w 109 5 a n c 0 0 Tryz.underlying109
   go_in
   go_wp2_with (at_builtin;refine aL rfl (.tmp 5) (.tmp 6) 109 rfl w.heap.size 5 _ 1 1 Tryz.underlying109 fS rfl (by omega) _ 0 [] rfl (World.ownsRow_made w #[] 0 (Nat.le_refl _) (by unfold maxLen;omega) (by simp)) _ bs.length (bs.map vb) rfl B.out (bS _) C.out (by omega) (by simp) ?_;intro v' w2 b d f t;obtain⟨H,c3,rfl,-,-⟩:=(Rd.of_owns b).form;have A:=O b;have k:=O d;clear b d f t)
   go_ret;refine⟨_,rfl,by simpa using A.out,z.trans' k.out (fun _ _ h=>h) (fun i L h=>?_)⟩;have I:w.heap.size=i:=Option.some.inj h;omega
def Fit(p:Value->Prop)(w:World)(v:Value):Prop:=∀g cur e a,v.ownBlock=some g->w.heap[g]?=some (.cells cur e a)->∀c∈cur.toList,p c
theorem Fit.nil(p:Value->Prop)(w:World):Fit p w (.slice none 0 0):=fun _ _ _ _ h=>by cases h
theorem Fit.keep{p:Value->Prop}(h:Fit p w v)(j:aA S w w')(a:∀g,v.ownBlock=some g->g<w.heap.size/\¬S g):Fit p w' v:=by
 intro g cur e d c b;obtain⟨f,i⟩:=a g c;rw[j.block g f i] at b;exact h g cur e d c b
theorem Fit.made{p:Value->Prop}(w:World)(l:List Value)(t:TypeId)(a:Nat×Nat)(n c:Nat)(h:∀u∈l,p u):Fit p (w.alloc (.cells l.toArray t a)) (.slice (w.heap.size) n c):=by
 intro g cur e a d b;have:w.heap.size=g:=by simpa [Value.ownBlock] using d
 subst this;rw[heap_alloc_new] at b;cases b
 simpa using h
theorem B4{z:Array Value}{c:Value}(b:0<z.size)(h:c∈(Builtin.zeroCells z n).toList):c∈z.toList:=by
 simp only[Builtin.zeroCells,Array.toList_map,List.mem_map] at h;obtain⟨i,-,rfl⟩:=h;have a:i % z.size<z.size:=Nat.mod_lt _ b;rw[getElem!_pos z _ a];exact Array.getElem_mem_toList a
section
variable {P:Program}(w:World)
theorem AB(base:Nat)(t I e:TypeId)(i:TypeInfo)(z:Value)(H:P.underlying t=some (.slice e))(G:P.info? e=some i)(W:i.zero=some z)(T:z.cells.size=i.size)(Q:0<i.size)
 (v:Value) (n:Nat) (F:List Value) (s:w.ownsRow base e i.size v n F)
 (a:Addr) (m c:Nat) (b:List Value) (E:b.length=m*i.size) (h:∀j u,b[j]?=some u->w.cell? (a.add j)=some u) (h1:∀u∈b,u.oneCell'=true)
 (K:n+m≤maxLen) (o:(n+m)*i.bytes≤140737488355328) (p:Value->Prop) (N:∀u∈z.cells.toList,p u) (A:∀u∈b,p u) (hf:Fit p w v) :
 ∃v' w',(Builtin.append_ #[t,t] I #[v,.slice (some a) m c]).run P w=.ok v' w'/\Fit p w' v':=by
 have V:n+m≤9223372036854775807:=by simpa [maxLen] using K
 have R:0<z.cells.size:=by rw[T];exact Q
 have fresh:∀(J:List Value) (k f:Nat),(∀u∈J,p u)->Fit p (w.drew.alloc (.cells (J.toArray++Builtin.zeroCells z.cells k) e)) (.slice (w.heap.size) (n+m) f):=by
  intro J k f y g cur X Y D C;have:w.heap.size=g:=by simpa [Value.ownBlock] using D
  subst this;rw[show w.heap.size=w.drew.heap.size from rfl,heap_alloc_new] at C;cases C
  intro u d;simp only[Array.toList_append,List.mem_append] at d;rcases d with d|d
  ·exact y u d
  ·exact N u (B4 R d)
 rcases s.2 with⟨rfl,rfl⟩|⟨g,f,cur,rfl,hbg,D,hnc,hcm,y,B⟩
 ·by_cases hm:m=0
  ·subst hm
   have hn:b=[]:=List.eq_nil_of_length_eq_zero (by simpa using E);subst hn;refine⟨.slice none 0 0,w,?_,Fit.nil p w⟩;simp[Builtin.append_,run_underlying H,sizeOf,typeInfo,G,Builtin.lenOf,Builtin.firstCells,loadCells,loadCellsFrom]
  ·refine⟨_,_,run_append_nil (P:=P) w t I e i z H G W a m c b E h (by omega) (by omega) (by rw[Nat.zero_add] at o;omega),?_⟩
   have:=fresh b (grownCap w m 0 e-m) (grownCap w m 0 e) A
   rwa [Nat.zero_add] at this
 ·have q:∀u∈cur.toList,p u:=hf g cur e (0,0) rfl D
  by_cases x:n+m≤f
  ·refine⟨_,_,run_append_room (P:=P) w t I e i H G g n f cur D a m c b E h h1 x (by rw[E,y,←Nat.add_mul];exact Nat.mul_le_mul_right _ x),?_⟩
   intro Z U X Y M C;have:g=Z:=by simpa [Value.ownBlock] using M
   subst this;rw[setRow_heap w g cur _ e _ D] at C;cases C
   intro u d;simp only[List.mem_append] at d;rcases d with (d|d)|d
   ·exact q u (List.mem_of_mem_take d)
   ·exact A u d
   ·exact q u (List.mem_of_mem_drop d)
  ·refine⟨_,_,run_append_grow (P:=P) w t I e i z H G W ⟨g,0,none⟩ n f F s.1 (s.cells (g:=g) rfl) a m c b E h (by omega) (by omega) (growslice_fits (by omega) o),?_⟩
   have L:=fresh (F++b) (grownCap w (n+m) f e-(n+m)) (grownCap w (n+m) f e) ?_
   ·rwa [show (F++b).toArray=F.toArray++b.toArray by simp] at L
   intro u d;rcases List.mem_append.1 d with d|d
   ·rw[←B] at d;exact q u (List.mem_of_mem_take d)
   ·exact A u d
end
theorem kN{P:Program}{w:World}{ops:Array Oper}{rest:List Oper}{o:Oper}{a:Act}{Q:Exit->Act->World->Prop}(D:o.guard=none)(s x:Operand)(t:TypeId)
 (ho:o.op=.call { callee:=.builtin .append,args:=#[s,x],argTypes:=#[t,t] })
 (base:Nat) (e:TypeId) (z:Value) (size bytes:Nat) (U:P.underlying t=some (.slice e)) (E:(P.info? e).map (fun i=>(i.zero,i.size,i.bytes))=some (some z,size,bytes)) (I:z.cells.size=size) (G:0<size)
 (v:Value) (n:Nat) (J:List Value) (hs:a.eval s=v) (q:w.ownsRow base e size v n J)
 (v2:Value) (m:Nat) (b:List Value) (hx:a.eval x=v2) (T:Rd w size v2 m b) (Y:∀u∈b,u.oneCell'=true)
 (C:n+m≤maxLen) (d:(n+m)*bytes≤140737488355328) (y:base≤w.heap.size) (p:Value->Prop) (R:∀u∈z.cells.toList,p u) (N:∀u∈b,p u) (Z:Fit p w v)
 (h:∀v' w',w'.ownsRow base e size v' (n+m) (J++b)->aA (fun k=>v.ownBlock=some k) w w' ->
   (v'=.slice none 0 0↔v=.slice none 0 0/\m=0) ->
   (v'.ownBlock=v.ownBlock\/v'.ownBlock=some w.heap.size)->Fit p w' v'->wpList P ops Q rest (a.put o.dst v') w'):wpList P ops Q (o::rest) a w:=by
 obtain⟨i,M,H,W,X⟩:=info_parts E;subst W;subst X;obtain⟨c,A,B,rfl,h2,h3,h4,h5⟩:=T;cases A with
 | none =>
   have L:=h4 rfl;have hl:m=0:=by omega
   subst hl;have hn:b=[]:=List.eq_nil_of_length_eq_zero (by simpa using c);subst hn;subst L;exact wpList_append_own_none D s x t ho base e i _ U M v n J hs q hx (h v w (by simpa using q) (aA.refl _ _) (by simp) (.inl rfl) Z)
 | some A =>
   have f:∀j u,b[j]?=some u->w.cell? (A.add j)=some u:=by
    intro j u V
    have c:0<b.length:=by
     rcases Nat.eq_zero_or_pos b.length with h0|h0
     ·rw[List.eq_nil_of_length_eq_zero h0] at V;simp at V
     ·exact h0
    obtain⟨g,o',hh,L⟩:=h5 c;cases hh
    rw[iD];exact L j u V
   refine wpList_plain D fun K hK=>?_
   obtain⟨v',w',hr,g2,g3,g4,g5⟩:=run_append_own_at (P:=P) w base t o.type e i z _ _ U M H rfl rfl I G v n J q A m B b c f Y C d y;obtain⟨v'',w'',F,g6⟩:=AB (P:=P) w base t o.type e i z U M H I G v n J q A m B b c f Y C d p R N Z;rw[hr] at F;cases F
   unfold Oper.wp;simp[execOp,ho,resolve,invoke,builtin,hs,hx,hr,Result.andThen];exact hK _ _ (h v' w' g2 (aA.of_grown g3) g4 g5 g6)
open Go.RowKit
set_option maxRecDepth 100000
def IsB(u:Value):Prop:=∃b:UInt8,u=vb b
theorem AC(l:List UInt8):∀u∈l.map vb,IsB u:=by
 intro u a;obtain⟨b,-,rfl⟩:=List.mem_map.1 a;exact⟨b,rfl⟩
theorem xO:∀u∈(Value.int IntKind.u8 0).cells.toList,IsB u:=by
 intro u a;have:u=.int .u8 0:=by simpa [Value.cells] using a
 exact⟨0,this⟩
def NH(w:World)(bs:List UInt8)(e:Ending)(w':World):Prop:=
 ∃v',e=.returned v'/\w'.ownsRow w.heap.size 5 1 v' bs.length (bs.map vb)/\aA aB w w'/\Fit IsB w' v'
theorem IM(A:Value)(bs:List UInt8)(w:World)(I:Rd w 1 A bs.length (bs.map vb))(M:bs.length≤140737488351232) :
 Calls Tryz.prog 195 #[A] w (NH w bs):=by
 obtain⟨z,a,q,rfl,s,t,k,u⟩:=I;cases a with
 | none =>
   have G:=k rfl;subst G;have y:bs=[]:=List.eq_nil_of_length_eq_zero (by omega);subst y;clear s t k u z;have H:=fun(w:World) (a:Option Addr) (n c:Nat)=>Lib.run_eql_slice_nil (P:=Tryz.prog) w 109 5 a n c 0 0 Tryz.underlying109
   go_in;go_wp2;go_ret;exact⟨_,rfl,World.ownsRow_nil _ _ _ _,aA.refl _ _,Fit.nil _ _⟩
 | some F =>
   have K:aA aB w (w.alloc (.cells #[] 5)):=(aA.refl _ _).alloc _;have D:=O ((show Rd w 1 (.slice (some F) bs.length q) bs.length (bs.map vb) from⟨z,_,_,rfl,s,t,k,u⟩).keep K fun _ _=>id);have B:=O K;have j:0+bs.length≤maxLen:=by unfold maxLen;omega
   have E:=O j;clear s t k u z K j;have H:=fun(w:World) (a:Option Addr) (n c:Nat)=>Lib.run_eql_slice_nil (P:=Tryz.prog) w 109 5 a n c 0 0 Tryz.underlying109
   go_in
   go_wp2_with (at_builtin;refine kN rfl (.tmp 5) (.tmp 6) 109 rfl w.heap.size 5 _ 1 1 Tryz.underlying109 fS rfl (by omega) _ 0 [] rfl (World.ownsRow_made w #[] 0 (Nat.le_refl _) (by unfold maxLen;omega) (by simp)) _ bs.length (bs.map vb) rfl D.out (bS _) E.out (by omega) (by simp) IsB xO (AC bs) (Fit.made w [] 5 (0,0) 0 0 (by simp)) ?_;intro v' w2 b f g x d;obtain⟨J,c3,rfl,-,-⟩:=(Rd.of_owns b).form;have C:=O b;have o:=O f;have m:=O d;clear b f g x d)
   go_ret;refine⟨_,rfl,by simpa using C.out,B.trans' o.out (fun _ _ h=>h) (fun i N h=>?_),by simpa using m.out⟩;have L:w.heap.size=i:=Option.some.inj h;omega
def KB(w:World)(l:List UInt8)(a:Int)(e:Ending)(w':World):Prop:=
 ∃v',e=.returned (.tuple #[v',.int .i64 a])/\w'.ownsRow w.heap.size 5 1 v' (if a=0 then l else []).length ((if a=0 then l else []).map vb)/\aA aB w w'/\Fit IsB w' v'
theorem Fe(p:Nat)(w:World)(base:Nat)(v:Value)(l:List UInt8)(e:Int)(h:Wr w base p v l e)(y:l.length≤65536) :
 Calls Tryz.prog 144 #[.pointer p] w (KB w l e):=by
 obtain⟨q,s,t,x⟩:=h.cells
 by_cases f:e=0
 ·subst f
  have c:=IM v l w (Rd.of_owns h.own) (by omega);have C:=O c;clear c;obtain⟨a,cp,rfl,-,-⟩:=(Rd.of_owns h.own).form;clear h;go_in;go_wp2_with fail;refine C.out.mono ?_;rintro e z ⟨v',rfl,b,g,d⟩;have m:=O b;have k:=O g;have j:=O d;obtain⟨u,c3,rfl,-,-⟩:=(Rd.of_owns b).form;clear b g d;go_wp2
  go_ret2
  exact⟨_,rfl,m.out,k.out,j.out⟩
 ·have o:(e != 0)=true:=by simp[f]
  have i:=O f;clear f h;go_in;go_wp2_with fail
  go_quiet (fail)
  go_wp2
  go_ret2
  refine⟨_,rfl,?_,(aA.refl _ _).drewN _,Fit.nil _ _⟩;rw[if_neg i.out];exact World.ownsRow_nil _ _ _ _
def xP(l:List UInt8):ByteArray:=⟨l.toArray⟩
theorem Ff{w:World}{v:Value}{l:List UInt8}(h:Rd w 1 v l.length (l.map vb)):Sem.run Tryz.prog (convert 109 9 v) w=.ok (.string (xP l)) w:=by
 obtain⟨h0,a,c,rfl,m,q,s,j⟩:=h;rcases Nat.eq_zero_or_pos l.length with d|d
 ·have:l=[]:=List.eq_nil_of_length_eq_zero d
  subst this;cases a with
  | none=>exact run_convert_bytes_nil w _ 5 Tryz.underlying109 Tryz.underlying5 _ _ _ Tryz.underlying9
  | some a =>
    rw[run_convert_bytes_string w _ _ 5 _ _ _ Tryz.underlying109 Tryz.underlying5 Tryz.underlying9];exact run_bytesToString w a 0 c [] rfl
 ·obtain⟨g,o,rfl,k⟩:=j (by simpa using d)
  have:=run_convert_bytes_arg (P:=Tryz.prog) w 109 5 Tryz.underlying109 Tryz.underlying5 g o l.length c (l.map fun b=>(b.toNat:Int)) (by simp) (fun i f=>by
   rw[k i (vb l[i]) (by simp[f])];simp[vb,List.getD,f]) _ Tryz.underlying9
  rw[this];simp[strOfNums,xP,Function.comp_def]
theorem MA(a b:List UInt8):((xP a).toList == (xP b).toList)=decide (a=b):=by
 unfold xP;rw[ByteArray.toList_mk,ByteArray.toList_mk]
 by_cases h:a=b
 ·subst h;simp
 ·simp[h]
theorem mL(w:World)(f g:Value)(a ys:List UInt8)(c:Rd w 1 f a.length (a.map vb))(d:Rd w 1 g ys.length (ys.map vb))(b:Bool)(h:decide (a=ys)=b) :
 Calls Tryz.prog 92 #[f,g] w (fun e w'=>e=.returned (.bool b)/\w=w'):=by
 have m:=Ff c;have o:=Ff d;have i:=O (show ((xP a).toList == (xP ys).toList)=b by rw[MA];exact h);clear h;obtain⟨j,c1,rfl,-,-⟩:=c.form;obtain⟨k,c2,rfl,-,-⟩:=d.form;clear c d;go_in;go_wp2;go_ret;exact⟨by rw[←i.out];rfl,rfl⟩
theorem cG(n lo d:Int)(w:World)(b:Bool)(c:decide (lo≤n/\n≤d)=b) :
 Calls Tryz.prog 216 #[.int .i64 n,.int .i64 lo,.int .i64 d] w (fun e w'=>e=.returned (.bool b)/\w=w'):=by
 by_cases a:lo≤n
 ·by_cases f:n≤d
  ·obtain rfl:true=b:=by rw[←c];simp[a,f]
   clear c;have g:decide (lo≤n)=true:=by simpa using a
   have h:decide (n≤d)=true:=by simpa using f
   go_in;go_wp2;go_ret;exact⟨rfl,rfl⟩
  ·obtain rfl:false=b:=by rw[←c];simp[a,f]
   clear c;have g:decide (lo≤n)=true:=by simpa using a
   have h:decide (n≤d)=false:=by simpa using f
   go_in;go_wp2;go_ret;exact⟨rfl,rfl⟩
 ·obtain rfl:false=b:=by rw[←c];simp[a]
  clear c;have g:decide (lo≤n)=false:=by simpa using a
  go_in;go_wp2;go_ret;exact⟨rfl,rfl⟩
def Lab.nums(L:Lab):List Value:=[.int .i64 L.dev,.int .i64 L.devs,.int .i64 L.copies,.int .i64 L.sectors,.int .i64 L.life]
def Lab.cells(L:Lab):List Value:=L.pool.map vb++L.nums
theorem Lab.cells_length(L:Lab)(h:L.pool.length=32):L.cells.length=37:=by simp[Lab.cells,Lab.nums,h]
theorem Lab.cells_num(L:Lab)(h:L.pool.length=32)(i:Nat):L.cells[32+i]?=L.nums[i]?:=by
 simp only[Lab.cells,List.getElem?_append,List.length_map,h];rw[if_neg (by omega),show 32+i-32=i by omega]
theorem Lab.cells_pool(L:Lab)(h:L.pool.length=32)(i:Nat)(a:i<32):L.cells[i]?=(L.pool.map vb)[i]?:=by
 simp[Lab.cells,List.getElem?_append,h,a]
theorem Lab.at(L:Lab)(h:L.pool.length=32):L.cells.toArray[32]?=some (.int .i64 L.dev)/\L.cells.toArray[33]?=some (.int .i64 L.devs)/\L.cells.toArray[34]?=some (.int .i64 L.copies) /\
 L.cells.toArray[35]?=some (.int .i64 L.sectors)/\L.cells.toArray[36]?=some (.int .i64 L.life):=by
 refine⟨?_,?_,?_,?_,?_⟩<;>rw[List.getElem?_toArray]
 ·exact L.cells_num h 0
 ·exact L.cells_num h 1
 ·exact L.cells_num h 2
 ·exact L.cells_num h 3
 ·exact L.cells_num h 4
theorem I2(cs:Array Value)(dev devs copies sectors life:Int)(w:World)(c0:cs[32]?=some (.int .i64 dev))(c1:cs[33]?=some (.int .i64 devs))(c2:cs[34]?=some (.int .i64 copies))(c3:cs[35]?=some (.int .i64 sectors))(c4:cs[36]?=some (.int .i64 life))
 (a:¬(2≤devs/\devs≤8)) :
 Calls Tryz.prog 168 #[.agg cs] w (fun e w'=>e=.returned (.int .i64 2)/\w.alloc (.cells cs 192)=w'):=by
 go_in;go_wp2_with fail;refine(cG _ _ _ _ false (by simp;omega)).mono ?_;rintro e w' ⟨rfl,rfl⟩;go_wp2;go_ret;exact⟨rfl,rfl⟩
theorem I3(cs:Array Value)(dev devs copies sectors life:Int)(w:World)(c0:cs[32]?=some (.int .i64 dev))(c1:cs[33]?=some (.int .i64 devs))(c2:cs[34]?=some (.int .i64 copies))(c3:cs[35]?=some (.int .i64 sectors))(c4:cs[36]?=some (.int .i64 life))
 (a:2≤devs/\devs≤8) (b:¬(0≤dev/\dev≤devs-1)) :
 Calls Tryz.prog 168 #[.agg cs] w (fun e w'=>e=.returned (.int .i64 2)/\w.alloc (.cells cs 192)=w'):=by
 go_in;go_wp2_with fail;refine(cG _ _ _ _ true (by simp;omega)).mono ?_;rintro e w' ⟨rfl,rfl⟩;go_wp2_with fail;refine(cG _ _ _ _ false (by simp;omega)).mono ?_;rintro e w' ⟨rfl,rfl⟩;go_wp2;go_ret;exact⟨rfl,rfl⟩
theorem I4(cs:Array Value)(dev devs copies sectors life:Int)(w:World)(c0:cs[32]?=some (.int .i64 dev))(c1:cs[33]?=some (.int .i64 devs))(c2:cs[34]?=some (.int .i64 copies))(c3:cs[35]?=some (.int .i64 sectors))(c4:cs[36]?=some (.int .i64 life))
 (a:2≤devs/\devs≤8) (b:0≤dev/\dev≤devs-1) (c:¬(1≤copies/\copies≤3/\copies≤devs)) :
 Calls Tryz.prog 168 #[.agg cs] w (fun e w'=>e=.returned (.int .i64 2)/\w.alloc (.cells cs 192)=w'):=by
 go_in;go_wp2_with fail;refine(cG _ _ _ _ true (by simp;omega)).mono ?_;rintro e w' ⟨rfl,rfl⟩;go_wp2_with fail;refine(cG _ _ _ _ true (by simp;omega)).mono ?_;rintro e w' ⟨rfl,rfl⟩;go_wp2_with fail
 all_goals
  refine(cG _ _ _ _ false (by simp;omega)).mono ?_;rintro e w' ⟨rfl,rfl⟩;go_wp2;go_ret;exact⟨rfl,rfl⟩
theorem I5(cs:Array Value)(dev devs copies sectors life:Int)(w:World)(c0:cs[32]?=some (.int .i64 dev))(c1:cs[33]?=some (.int .i64 devs))(c2:cs[34]?=some (.int .i64 copies))(c3:cs[35]?=some (.int .i64 sectors))(c4:cs[36]?=some (.int .i64 life))
 (a:2≤devs/\devs≤8) (b:0≤dev/\dev≤devs-1) (c:1≤copies/\copies≤3/\copies≤devs) (d:¬(8≤sectors/\sectors≤4096)) :
 Calls Tryz.prog 168 #[.agg cs] w (fun e w'=>e=.returned (.int .i64 2)/\w.alloc (.cells cs 192)=w'):=by
 go_in;go_wp2_with fail;refine(cG _ _ _ _ true (by simp;omega)).mono ?_;rintro e w' ⟨rfl,rfl⟩;go_wp2_with fail;refine(cG _ _ _ _ true (by simp;omega)).mono ?_;rintro e w' ⟨rfl,rfl⟩;go_wp2_with fail
 all_goals
  refine(cG _ _ _ _ true (by simp;omega)).mono ?_;rintro e w' ⟨rfl,rfl⟩;go_wp2_with fail;refine(cG _ _ _ _ false (by simp;omega)).mono ?_;rintro e w' ⟨rfl,rfl⟩;go_wp2;go_ret;exact⟨rfl,rfl⟩
theorem I6(cs:Array Value)(dev devs copies sectors life:Int)(w:World)(c0:cs[32]?=some (.int .i64 dev))(c1:cs[33]?=some (.int .i64 devs))(c2:cs[34]?=some (.int .i64 copies))(c3:cs[35]?=some (.int .i64 sectors))(c4:cs[36]?=some (.int .i64 life))
 (a:2≤devs/\devs≤8) (b:0≤dev/\dev≤devs-1) (c:1≤copies/\copies≤3/\copies≤devs) (d:8≤sectors/\sectors≤4096) (f:¬(0≤life/\life≤2147483648)) :
 Calls Tryz.prog 168 #[.agg cs] w (fun e w'=>e=.returned (.int .i64 2)/\w.alloc (.cells cs 192)=w'):=by
 go_in;go_wp2_with fail;refine(cG _ _ _ _ true (by simp;omega)).mono ?_;rintro e w' ⟨rfl,rfl⟩;go_wp2_with fail;refine(cG _ _ _ _ true (by simp;omega)).mono ?_;rintro e w' ⟨rfl,rfl⟩;go_wp2_with fail
 all_goals
  refine(cG _ _ _ _ true (by simp;omega)).mono ?_;rintro e w' ⟨rfl,rfl⟩;go_wp2_with fail;refine(cG _ _ _ _ true (by simp;omega)).mono ?_;rintro e w' ⟨rfl,rfl⟩;go_wp2_with fail;refine(cG _ _ _ _ false (by simp;omega)).mono ?_;rintro e w' ⟨rfl,rfl⟩;go_wp2;go_ret;exact⟨rfl,rfl⟩
theorem I7(cs:Array Value)(dev devs copies sectors life:Int)(w:World)(c0:cs[32]?=some (.int .i64 dev))(c1:cs[33]?=some (.int .i64 devs))(c2:cs[34]?=some (.int .i64 copies))(c3:cs[35]?=some (.int .i64 sectors))(c4:cs[36]?=some (.int .i64 life))
 (a:2≤devs/\devs≤8) (b:0≤dev/\dev≤devs-1) (c:1≤copies/\copies≤3/\copies≤devs) (d:8≤sectors/\sectors≤4096) (f:0≤life/\life≤2147483648) :
 Calls Tryz.prog 168 #[.agg cs] w (fun e w'=>e=.returned (.int .i64 0)/\w.alloc (.cells cs 192)=w'):=by
 go_in;go_wp2_with fail;refine(cG _ _ _ _ true (by simp;omega)).mono ?_;rintro e w' ⟨rfl,rfl⟩;go_wp2_with fail;refine(cG _ _ _ _ true (by simp;omega)).mono ?_;rintro e w' ⟨rfl,rfl⟩;go_wp2_with fail
 all_goals
  refine(cG _ _ _ _ true (by simp;omega)).mono ?_;rintro e w' ⟨rfl,rfl⟩;go_wp2_with fail;refine(cG _ _ _ _ true (by simp;omega)).mono ?_;rintro e w' ⟨rfl,rfl⟩;go_wp2_with fail;refine(cG _ _ _ _ true (by simp;omega)).mono ?_;rintro e w' ⟨rfl,rfl⟩;go_wp2;go_ret;exact⟨rfl,rfl⟩
theorem vB(L:Lab)(g:L.pool.length=32)(w:World) :
 Calls Tryz.prog 168 #[.agg L.cells.toArray] w (fun e w'=>e=.returned (.int .i64 (if L.may then 0 else 2))/\w.alloc (.cells L.cells.toArray 192)=w'):=by
 obtain⟨c0,c1,c2,c3,c4⟩:=L.at g
 by_cases a:2≤L.devs/\L.devs≤8
 ·by_cases b:0≤L.dev/\L.dev≤L.devs-1
  ·by_cases c:1≤L.copies/\L.copies≤3/\L.copies≤L.devs
   ·by_cases d:8≤L.sectors/\L.sectors≤4096
    ·by_cases f:0≤L.life/\L.life≤2147483648
     ·rw[show L.may=true by simp only[Lab.may,a,b,c,d,f];decide];exact I7 _ _ _ _ _ _ w c0 c1 c2 c3 c4 a b c d f
     ·rw[show L.may=false by simp only[Lab.may,f];simp];exact I6 _ _ _ _ _ _ w c0 c1 c2 c3 c4 a b c d f
    ·rw[show L.may=false by simp only[Lab.may,d];simp];exact I5 _ _ _ _ _ _ w c0 c1 c2 c3 c4 a b c d
   ·rw[show L.may=false by simp only[Lab.may,c];simp];exact I4 _ _ _ _ _ _ w c0 c1 c2 c3 c4 a b c
  ·rw[show L.may=false by simp only[Lab.may,b];simp];exact I3 _ _ _ _ _ _ w c0 c1 c2 c3 c4 a b
 ·rw[show L.may=false by simp only[Lab.may,a];simp];exact I2 _ _ _ _ _ _ w c0 c1 c2 c3 c4 a
end
end Go.Proofs.YtiinnfhjpaeffaaGreat
