import Derived.Test.YtoeinblfcbpcmaaGreatDoorC1
import Derived.Test.YtoeinblfcbpcmaaGreatDoorC13
import Derived.Laws.BytesArg
import Derived.Laws.BitsAllLaws
import Derived.Outline
namespace Go.Proofs.YtoeinblfcbpcmaaGreatDoor
open Tryz
set_option maxHeartbeats 0
set_option maxRecDepth 100000
set_option linter.unusedVariables false
section
open Go.RowKit
variable{w w' w2:World}{base p n:Nat}{v v':Value}{l:List UInt8}{e:Int}{S:Nat->Prop}{r:List UInt8×Int}
theorem eW:(prog.info? 5).map (fun i=>(i.zero,i.size,i.bytes))=some (some (.int .u8 0),1,1):=by kernel_rfl
theorem ME{P:Program}{b:Func}{R:Ending->World->Prop}{a:Act}(f:b.results=#[])(d:a.defers=[])(c:R (.returned (.tuple #[])) w):bodyPost P b R .ret a w:=
 bodyPost_ret (results_none f _ _ _) d c
structure Wr(w:World)(base p:Nat)(v:Value)(l:List UInt8)(e:Int):Prop where
 blk:w.heap[p]?=some (.cells #[.bool true,v,.int .i64 e] 320 (0,0))
 own:w.ownsRow base 5 1 v l.length (l.map vb)
 ne:v.ownBlock≠some p
 le:base≤p
def dR(w:World)(base p:Nat)(v:Value)(r:List UInt8×Int)(e:Ending)(w':World):Prop:=
 e=.returned (.tuple #[])/\∃v',Wr w' base p v' r.1 r.2/\aA (fun k=>k=p\/v.ownBlock=some k) w w'/\(v'.ownBlock=v.ownBlock\/∃g,v'.ownBlock=some g/\w.heap.size≤g)
def kX(w:World)(a:List UInt8)(c:Int)(e:Ending)(w':World):Prop:=
 ∃b,e=.returned (.tuple #[b,.int .i64 c])/\aA aB w w'/\Rd w' 1 b a.length (a.map vb)
theorem Wr.cells(h:Wr w base p v l e) :
 w.cell? ⟨p,0,none⟩=some (.bool true)/\w.cell? ⟨p,1,none⟩=some v/\w.cell? ⟨p,2,none⟩=some (.int .i64 e)/\(∀i,w.frozen? ⟨p,i,none⟩=false):=by
 refine⟨?_,?_,?_,fun i=>frozen_of_row w p i _ _ h.blk⟩<;>(rw[cell_of_row w p _ _ _ _ h.blk];rfl)
theorem Wr.keep(h:Wr w base p v l e)(k:aA S w w')(a:¬S p)(b:∀g,v.ownBlock=some g->¬S g):Wr w' base p v l e:=
 ⟨k.blk h.blk a,k.owns h.own b,h.ne,h.le⟩
theorem Wr.setErr(h:Wr w base p v l e)(a:Int):Wr (w.setCell ⟨p,2,none⟩ (.int .i64 a)) base p v l a:=
 ⟨by rw[cH h.blk];rfl,ownsRow_setCell_other h.own (by simpa using h.ne) _,h.ne,h.le⟩
theorem Wr.app{m:World}{o:List UInt8}(d:Wr m base p v l 0)(q:aA (fun k=>k=p\/v.ownBlock=some k) w m)
 (c:w2.ownsRow base 5 1 v' (l.length+o.length) (l.map vb++o.map vb)) (i:aA (fun k=>v.ownBlock=some k) m w2) (f:v'.ownBlock=v.ownBlock\/v'.ownBlock=some m.heap.size) :
 w2.cell? ⟨p,1,none⟩=some v/\w2.frozen? ⟨p,1,none⟩=false /\
 Hid (Wr (w2.setCell ⟨p,1,none⟩ v') base p v' (l++o) 0/\aA (fun k=>k=p\/v.ownBlock=some k) w (w2.setCell ⟨p,1,none⟩ v')/\(v'.ownBlock=v.ownBlock\/∃g,v'.ownBlock=some g/\w.heap.size≤g)):=by
 have b:=i.blk d.blk d.ne;refine⟨by rw[cell_of_row w2 p _ _ _ _ b];rfl,frozen_of_row w2 p _ _ _ b,O ⟨?_,?_,?_⟩⟩
 ·have j:v'.ownBlock≠some p:=by
   rcases f with h|h
   ·rw[h];exact d.ne
   ·rw[h];have:=lt_of_block d.blk;intro e;simp only[Option.some.injEq] at e;omega
  refine⟨by rw[cH b];rfl,?_,j,d.le⟩;have:=ownsRow_setCell_other c (a:=⟨p,1,none⟩) j v'
  simpa using this
 ·exact(q.trans (i.mono fun _ _ h=>.inr h)).setCell (fun _=>.inl rfl) _
 ·rcases f with h|h
  ·exact .inl h
  ·exact .inr ⟨_,h,q.size⟩
theorem Kf(p:Nat)(e:Int)(w:World)(c:Nat)(a:Array Value)(base:Nat)(v:Value)(l:List UInt8)(h:Wr w base p v l e)(b:e≠0) :
 Calls prog 224 #[.pointer p,.func (.func c) #[] a] w (dR w base p v (l,e)):=by
 obtain⟨i,j,k,m⟩:=h.cells;have d:(e != 0)=true:=by simp[b]
 have f:(e == 0)=false:=by simp[b]
 have g:=O b;clear b;have H:=O h;clear h;go_in;go_wp2_with fail;refine ME rfl rfl ?_;exact⟨rfl,v,H.out,aA.refl _ _,.inl rfl⟩
theorem MF(p:Nat)(w:World)(i:Nat)(a:Array Value)(base:Nat)(v:Value)(l:List UInt8)(h:Wr w base p v l 0)
 (u:∀w,Sem.run prog (callFunc i a) w=.ok (.enter i a) w)
 (t:List UInt8) (c:Int) (b:c≠0) (m:Calls prog i a w (kX w t c)) :
 Calls prog 224 #[.pointer p,.func (.func i) #[] a] w (dR w base p v (l,c)):=by
 obtain⟨d,f,g,o⟩:=h.cells;have x:(c != 0)=true:=by simp[b]
 have y:(c == 0)=false:=by simp[b]
 have z:=O b;clear b;have H:=O h;clear h;have C:=O m;clear m;go_in;go_wp2_with fail;refine C.out.mono ?_;rintro e B ⟨A,rfl,k,-⟩;have j:=H.keep k (fun h=>h) (fun _ _ h=>h);clear d f g o;obtain⟨d,f,g,o⟩:=j.cells;have s:=O k;clear k;have q:=O j;clear j;go_wp2_with fail;refine ME rfl rfl ?_;refine⟨rfl,v,q.setErr c,?_,.inl rfl⟩;exact(s.any).setCell (fun _=>.inl rfl) _
theorem Il(p:Nat)(w:World)(m:Nat)(b:Array Value)(base:Nat)(v:Value)(l:List UInt8)(h:Wr w base p v l 0)
 (G:∀w,Sem.run prog (callFunc m b) w=.ok (.enter m b) w)
 (k:List UInt8) (R:l.length≤65536) (Q:k.length≤140737488351232) (t:65536<l.length+k.length) (y:Calls prog m b w (kX w k 0)) :
 Calls prog 224 #[.pointer p,.func (.func m) #[] b] w (dR w base p v (l,3)):=by
 obtain⟨i,c,j,z⟩:=h.cells;have H:=O h;clear h;have C:=O y;clear y
 obtain⟨a,n,d,u,A⟩:∃a n d,v=.slice a n d/\n=l.length:=by
  rcases H.own.2 with⟨q,F⟩|⟨g,d,cur,q,_⟩
  ·exact⟨_,_,_,q,F.symm⟩
  ·exact⟨_,_,_,q,rfl⟩
 rw[u] at c;have E:=O u;clear u;have I:n≤65536:=by omega
 have J:65536<n+k.length:=by omega
 have K:=O A;clear A;go_in;go_wp2_with fail;refine C.out.mono ?_;rintro e T ⟨N,rfl,s,f⟩;have o:=H.keep s (fun h=>h) (fun _ _ h=>h);clear i c j z;obtain⟨i,c,j,z⟩:=o.cells;rw[E.out] at c;obtain⟨M,x,rfl,-,-⟩:=f.form;have D:=O s;clear s;have B:=O o;clear o;have L:=O f;clear f;go_wp2_with fail;refine ME rfl rfl ?_;refine⟨rfl,v,B.setErr 3,?_,.inl rfl⟩;exact(D.any).setCell (fun _=>.inl rfl) _
theorem MG(p:Nat)(w:World)(B:Nat)(c:Array Value)(base:Nat)(v:Value)(l:List UInt8)(h:Wr w base p v l 0)
 (Z:∀w,Sem.run prog (callFunc B c) w=.ok (.enter B c) w)
 (i:List UInt8) (G:l.length+i.length≤65536) (M:Calls prog B c w (kX w i 0)) :
 Calls prog 224 #[.pointer p,.func (.func B) #[] c] w (dR w base p v (l++i,0)):=by
 obtain⟨q,f,j,N⟩:=h.cells;have H:=O h;clear h;have C:=O M;clear M
 obtain⟨a,n,o,I,Q⟩:∃a n o,v=.slice a n o/\n=l.length:=by
  rcases H.own.2 with⟨E,Y⟩|⟨g,o,cur,E,_⟩
  ·exact⟨_,_,_,E,Y.symm⟩
  ·exact⟨_,_,_,E,rfl⟩
 rw[I] at f;have L:=O I;clear I;have qa:n+i.length≤65536:=by omega
 have HN:=O Q;clear Q;go_in;go_wp2_with fail;refine C.out.mono ?_;rintro e J ⟨bv,rfl,F,s⟩;have D:=H.keep F (fun h=>h) (fun _ _ h=>h);clear q f j N;obtain⟨q,f,j,N⟩:=D.cells;rw[L.out] at f;obtain⟨X,t,rfl,-,-⟩:=s.form;have A:=D.setErr 0;have d:aA (fun k=>k=p\/v.ownBlock=some k) w (J.setCell ⟨p,2,none⟩ (.int .i64 0)):=(F.any).setCell (fun _=>.inl rfl) _;have m:Rd (J.setCell ⟨p,2,none⟩ (.int .i64 0)) 1 (.slice X i.length t) i.length (i.map vb):=s.setCell j (by simp[vb]) _;have y:base≤(J.setCell ⟨p,2,none⟩ (.int .i64 0)).heap.size:=by have:=A.le;have:=lt_of_block A.blk;omega
 have U:=O y;clear y;have R:=O d;clear F d;have K:=O A;clear A D;have T:=O m;clear m s;have z:l.length+i.length≤maxLen:=by unfold maxLen;omega
 have W:=O z;clear z
 go_wp2_with (at_builtin;refine aK rfl (.tmp 50) (.tmp 51) 22 rfl base 5 _ 1 1 underlying22 eW rfl (by omega) v l.length (l.map vb) (by exact L.symm) K.own _ i.length (i.map vb) rfl T.out (bA _) W.out (by omega) U.out ?_;intro v' w2 b d x u;obtain⟨a3,c3,rfl,-,-⟩:=(Rd.of_owns b).form;obtain⟨c1,f1,V⟩:=Wr.app K.out R.out b d u;clear b d x u q f j)
 go_end0
 exact⟨rfl,_,V.out⟩
theorem xC(p:Nat)(w:World)(d:Nat)(a:Array Value)(base:Nat)(v:Value)(l:List UInt8)(e:Int)(h:Wr w base p v l e)(o:l.length≤65536)
 (g:∀w,Sem.run prog (callFunc d a) w=.ok (.enter d a) w)
 (b:List UInt8) (f:Int) (m:b.length≤140737488351232) (j:Calls prog d a w (kX w b f)) :
 Calls prog 224 #[.pointer p,.func (.func d) #[] a] w (dR w base p v (wst (l,e) (b,f))):=by
 by_cases k:e=0
 ·subst k
  by_cases i:f=0
  ·subst i
   by_cases c:65536<l.length+b.length
   ·have:wst (l,0) (b,0)=(l,3):=by simp[wst,c]
    rw[this];exact Il p w d a base v l h g b o m c j
   ·have:wst (l,0) (b,0)=(l++b,0):=by simp[wst,c]
    rw[this];exact MG p w d a base v l h g b (by omega) j
  ·have:wst (l,0) (b,f)=(l,f):=by simp[wst,i]
   rw[this];exact MF p w d a base v l h g b f i j
 ·have:wst (l,e) (b,f)=(l,e):=by simp[wst,k]
  rw[this];exact Kf p e w d a base v l h k
open Go.RowKit
set_option maxRecDepth 100000
theorem OV{wr:World}{k s:Nat}(b:wr.ownsRow w.heap.size 5 1 v k (((List.range k).map (jH n s)).map vb))(d:aA aB w wr)
 (a:w2.ownsRow w.heap.size 5 1 v' (k+1) (((List.range k).map (jH n s)).map vb++[.int .u8 ((n:Int) / 2 ^ (8*(s-k-1)) % 256)]))
 (c:aA (fun i=>v.ownBlock=some i) (wr.alloc (.cells #[.int .u8 ((n:Int) / 2 ^ (8*(s-k-1)) % 256)] 5)) w2) :
 Hid (w2.ownsRow w.heap.size 5 1 v' (k+1) (((List.range (k+1)).map (jH n s)).map vb))/\Hid (aA aB w w2):=by
 refine⟨O ?_,O ?_⟩
 ·rw[tJ,List.map_append]
  simpa [vb,uS] using a
 ·refine(d.alloc _).tT c (fun i f h=>?_)
  have:=(b.lt i h).1;omega
theorem OW(A B s:Nat)(n:Nat)(w:World)(J:1≤s)(K:s≤7)(o:n<2 ^ (8*s))
 (t:w.heap[A]?=some (.cells #[.int .i64 n] 3 (0,0))) (y:w.heap[B]?=some (.cells #[.int .i64 s] 3 (0,0))) :
 Calls prog 226 #[.pointer B,.pointer A] w (kX w (be n s) 0):=by
 have F:n<72057594037927936:=Nat.lt_of_lt_of_le o (Nat.pow_le_pow_right (by omega) (show 8*s≤56 by omega));have D:n / 2 ^ (8*s)=0:=Nat.div_eq_of_lt o
 have L:((n:Int) / 2 ^ (8*s) != 0)=false:=by
  have:((n:Int) / 2 ^ (8*s))=((n / 2 ^ (8*s):Nat):Int):=by simp
  rw[this,D];rfl
 have d:=cell_of_one t;have f:=cell_of_one y;have M:=O t;have N:=O y;have Q:=O o;have T:=O D;clear t y o D;go_in;go_wp2_with fail
 go_loopw [4,5] (fun v i wr=>∃k:Nat,k≤s/\i=.int .i64 (s-k:Nat)/\Hid (wr.ownsRow w.heap.size 5 1 v k (((List.range k).map (jH n s)).map vb))/\Hid (aA aB w wr)) (fun _ i _=>(intOf i).toNat)
 case atStart=>exact⟨0,by omega,rfl,O (World.ownsRow_nil _ _ _ _),O (aA.refl _ _)⟩
 case round =>
  obtain⟨k,U,rfl,a,b⟩:=hrel;have x:=b.out.cell d id;have z:=b.out.cell f id;clear d f
  by_cases I:k<s
  ·have m:w.heap.size≤(wr.alloc (.cells #[.int .u8 ((n:Int) / 2 ^ (8*(s-k-1)) % 256)] 5)).heap.size:=by have:=b.out.size;simp;omega
   have H:=O m;clear m;have h:k+1≤maxLen:=by unfold maxLen;omega
   have q:=O h;clear h;have E:∀u∈[Value.int .u8 ((n:Int) / 2 ^ (8*(s-k-1)) % 256)],u.oneCell'=true:=by simp[Value.oneCell']
   have G:=O E;clear E
   go_wp2_with (at_builtin;refine aK rfl (.tmp 28) (.tmp 35) 22 rfl w.heap.size 5 _ 1 1 underlying22 eW rfl (by omega) _ k _ rfl (a.out.alloc _) _ 1 _ rfl (wL _ _ _) G.out q.out (by omega) H.out ?_;intro v' w2 c g j C;have R:=OV a.out b.out c g;clear c g j C a b x z)
   go_roundw
   case rel=>exact⟨k+1,by omega,by rw[show s-(k+1)=s-k-1 by omega];go_num,R⟩
   case measure=>simp[intOf];omega
  ·obtain rfl:k=s:=by omega
   go_wp2
   go_ret2
   exact⟨_,rfl,b.out,by have:=Rd.of_owns a.out;rw[bK];exact this⟩
theorem rZ{a:Int}{e:Ending}(b:e=.returned (.tuple #[.slice none 0 0,.int .i64 a]))(c:w=w'):kX w [] a e w':=by
 subst c;exact⟨_,b,aA.refl _ _,Rd.nil _ _⟩
theorem Kg(A B:Nat)(size:Int)(w:World)(a:size<1\/7<size)
 (b:w.heap[B]?=some (.cells #[.int .i64 size] 3 (0,0))) :
 Calls prog 226 #[.pointer B,.pointer A] w (kX w [] 2):=by
 have c:=cell_of_one b;clear b;rcases a with a|a
 ·go_in
  go_wp2
  go_ret2
  exact rZ rfl rfl
 ·have d:¬size<1:=by omega
  go_in;go_wp2
  go_ret2
  exact rZ rfl rfl
theorem Im(A B s:Nat)(n:Int)(w:World)(i:1≤s)(j:s≤7)(a:n<0\/n / 2 ^ (8*s)≠0)
 (b:w.heap[A]?=some (.cells #[.int .i64 n] 3 (0,0))) (c:w.heap[B]?=some (.cells #[.int .i64 s] 3 (0,0))) :
 Calls prog 226 #[.pointer B,.pointer A] w (kX w [] 5):=by
 have f:=cell_of_one b;have g:=cell_of_one c;clear b c
 by_cases h0:n<0
 ·clear a
  go_in;go_wp2
  go_ret2
  exact rZ rfl rfl
 ·have k:(n / 2 ^ (8*s) != 0)=true:=by
   rcases a with h|h
   ·exact absurd h h0
   ·simpa using h
  have d:0≤n:=by omega
  clear a h0;go_in;go_wp2
  go_ret2
  exact rZ rfl rfl
theorem MH(A B:Nat)(n size:Int)(w:World)
 (d:w.heap[A]?=some (.cells #[.int .i64 n] 3 (0,0))) (b:w.heap[B]?=some (.cells #[.int .i64 size] 3 (0,0))) :
 Calls prog 226 #[.pointer B,.pointer A] w (kX w (eV n size).1 (eV n size).2):=by
 unfold eV
 by_cases c:size<1\/7<size
 ·rw[if_pos c];exact Kg A B size w c b
 ·rw[if_neg c]
  obtain⟨s,rfl⟩:=Int.eq_ofNat_of_zero_le (show 0≤size by omega);have f:(8*(s:Int)).toNat=8*s:=by omega
  rw[f]
  by_cases a:n<0\/n / 2 ^ (8*s)≠0
  ·rw[if_pos a];exact Im A B s n w (by omega) (by omega) a d b
  ·rw[if_neg a]
   obtain⟨m,rfl⟩:=Int.eq_ofNat_of_zero_le (show 0≤n by omega)
   have g:m<2 ^ (8*s):=by
    have:(m:Int) / 2 ^ (8*s)=0:=by
     rcases Classical.em ((m:Int) / 2 ^ (8*s)=0) with h|h
     ·exact h
     ·exact absurd (.inr h) a
    have i:m / 2 ^ (8*s)=0:=by
     have j:((m / 2 ^ (8*s):Nat):Int)=0:=by simpa using this
     omega
    rcases Nat.lt_or_ge m (2 ^ (8*s)) with h|h
    ·exact h
    ·have:=Nat.div_pos h (Nat.pos_of_ne_zero (by simp));omega
   exact OW A B s m w (by omega) (by omega) g d b
theorem dR.of{e:Ending}(a:aA aB w w2)(h:dR w2 base p v r e w'):dR w base p v r e w':=by
 obtain⟨f,v',b,c,d⟩:=h;refine⟨f,v',b,a.trans' c (fun _ _ h=>h.elim) (fun _ _ h=>h),?_⟩;rcases d with h|⟨g,h,i⟩
 ·exact .inl h
 ·exact .inr ⟨g,h,Nat.le_trans a.size i⟩
theorem In(n size:Int):(eV n size).1.length≤7:=by
 unfold eV;split
 ·simp
 ·split
  ·simp
  ·rw[bK];omega
theorem xD(a:aA aB w w2){e:Ending}(h:dR w2 base p v r e w'):e=.returned (.tuple #[])/\Hid (dR w base p v r e w'):=
 ⟨h.1,dR.of a h⟩
theorem nX(p:Nat)(n size:Int)(w:World)(base:Nat)(v:Value)(l:List UInt8)(e:Int)(h:Wr w base p v l e)(g:l.length≤65536) :
 Calls prog 184 #[.pointer p,.int .i64 n,.int .i64 size] w (dR w base p v (wst (l,e) (eV n size))):=by
 have K:aA aB w ((w.alloc (.cells #[.int .i64 n] 3)).alloc (.cells #[.int .i64 size] 3)):=((aA.refl _ _).alloc _).alloc _;have a:=h.keep K id (fun _ _ h=>h);have c:=MH w.heap.size (w.heap.size+1) n size ((w.alloc (.cells #[.int .i64 n] 3)).alloc (.cells #[.int .i64 size] 3)) (heap_alloc2_old _ _ _) (heap_alloc2_new _ _ _);have W:=xC p _ 226 _ base v l e a g (fun _=>rfl) _ _ (by have:=In n size;omega) c;have d:=O W;have b:=O K;clear h a c W K;go_in;go_wp2_with fail;refine d.mono ?_;rintro e i h;obtain⟨rfl,f⟩:=xD b.out h;go_wp2_with fail
 go_end0
 exact f.out
open Go.RowKit
set_option maxRecDepth 100000
theorem GS(w:World):Calls prog 179 #[] w fun e w'=>∃p,e=.returned (.pointer (some ⟨p,0,none⟩))/\Wr w' w.heap.size p (.slice none 0 0) [] 0/\aA aB w w'/\w.heap.size≤p:=by
 go_in;go_wp2;go_ret;refine⟨_,rfl,⟨?_,World.ownsRow_nil _ _ _ _,by simp[Value.ownBlock],Nat.le_refl _⟩,(aA.refl _ _).alloc _,Nat.le_refl _⟩;exact heap_alloc_new w _
theorem MI(A:Nat)(f:Value)(b:List UInt8)(w:World)(g:w.heap[A]?=some (.cells #[f] 22 (0,0)))(d:Rd w 1 f b.length (b.map vb)) :
 Calls prog 225 #[.pointer A] w (kX w b 0):=by
 have i:=cell_of_one g;obtain⟨a,c,rfl,-,-⟩:=d.form;have h:=O d;clear d g;go_in;go_wp2
 go_ret2
 exact⟨_,rfl,aA.refl _ _,h.out⟩
theorem tN(p:Nat)(d:Value)(b:List UInt8)(w:World)(base:Nat)(v:Value)(l:List UInt8)(e:Int)(h:Wr w base p v l e)(o:l.length≤65536)(f:Rd w 1 d b.length (b.map vb))(m:b.length≤140737488351232) :
 Calls prog 181 #[.pointer p,d] w (dR w base p v (wst (l,e) (b,0))):=by
 have K:aA aB w (w.alloc (.cells #[d] 22)):=(aA.refl _ _).alloc _;have g:=h.keep K id (fun _ _ h=>h);have c:=MI w.heap.size d b (w.alloc (.cells #[d] 22)) (heap_alloc_new _ _) (f.keep K fun _ _=>id);have W:=xC p _ 225 _ base v l e g o (fun _=>rfl) b 0 m c;obtain⟨a,cp,rfl,-,-⟩:=f.form;have j:=O W;have i:=O K;clear h g c W K f;go_in;go_wp2_with fail;refine j.mono ?_;rintro e q h;obtain⟨rfl,k⟩:=xD i.out h;go_wp2_with fail
 go_end0
 exact k.out
theorem OX(A B p:Nat)(b:Int)(w:World)(base:Nat)(v:Value)(l:List UInt8)(e:Int)(h:Wr w base p v l e)(c:65536<b\/b<l.length)
 (d:w.heap[A]?=some (.cells #[.pointer p] 266 (0,0))) (f:w.heap[B]?=some (.cells #[.int .i64 b] 3 (0,0))) :
 Calls prog 227 #[.pointer B,.pointer A] w (kX w [] 2):=by
 obtain⟨m,o,q,t⟩:=h.cells;obtain⟨a,cp,rfl,-,-⟩:=(Rd.of_owns h.own).form;have j:=cell_of_one d;have k:=cell_of_one f;clear h d f
 by_cases g:65536<b
 ·clear c
  go_in;go_wp2_with fail
  go_quiet (fail)
  go_wp2
  go_ret2
  exact⟨_,rfl,(aA.refl _ _).drewN _,Rd.nil _ _⟩
 ·have s:b<l.length:=by omega
  have i:decide (65536<b)=false:=by simpa using g
  clear c;go_in;go_wp2_with fail
  go_quiet (fail)
  go_wp2
  go_ret2
  exact⟨_,rfl,(aA.refl _ _).drewN _,Rd.nil _ _⟩
theorem OY(A B p:Nat)(b:Nat)(w:World)(base:Nat)(v:Value)(l:List UInt8)(e:Int)(h:Wr w base p v l e)(G:l.length≤b)(z:b≤65536)
 (q:w.heap[A]?=some (.cells #[.pointer p] 266 (0,0))) (s:w.heap[B]?=some (.cells #[.int .i64 b] 3 (0,0))) :
 Calls prog 227 #[.pointer B,.pointer A] w (kX w (List.replicate (b-l.length) 0) 0):=by
 obtain⟨m,k,o,F⟩:=h.cells;obtain⟨a,cp,rfl,-,-⟩:=(Rd.of_owns h.own).form;have i:=cell_of_one q;have j:=cell_of_one s;have y:decide (65536<(b:Int))=false:=by simp;omega
 have C:IntKind.i64.wrap ((b:Int)-l.length)=((b-l.length:Nat):Int):=by rw[IntWalk.i64_in _ (by omega)];omega
 clear h q s;go_in;go_wp2_with fail
 go_quiet (fail)
 go_wp2_with fail;obtain⟨w2,d,c1,D,E⟩:∃w2,w.drewN nq=w2/\w2.cell? ⟨p,1,none⟩=some (.slice a l.length cp)/\w2.cell? ⟨A,0,none⟩=some (.pointer p)/\w2.cell? ⟨B,0,none⟩=some (.int .i64 b):=⟨_,rfl,k,i,j⟩
 rw[d];have g:=O d;clear d m k o i j
 go_still_tail 7,(by kernel_rfl)
 refine gC rfl (.tmp 21) (.tmp 21) 22 rfl w.heap.size 5 _ 1 underlying22 eW rfl (b-l.length) (by rfl) (by rfl) (by omega) (by unfold maxLen;omega) (by rw[←g.out];exact Nat.le_refl _) ?_;intro t c f
 have u:Hid (aA aB w t):=by
  refine O ?_;have:aA aB w w2:=by rw[←g.out];exact(aA.refl _ _).drewN _
  exact this.tT (show aA aB w2 t from⟨f.os,f.tape,f.output,f.size,f.block⟩) (fun _ _ h=>h)
 have x:=O c;clear c f C;go_wp2
 go_ret2
 refine⟨_,rfl,u.out,?_⟩;have:=Rd.of_owns x.out
 simpa [vb] using this
theorem MJ(A B p:Nat)(b:Int)(w:World)(base:Nat)(v:Value)(l:List UInt8)(e:Int)(h:Wr w base p v l e)
 (c:w.heap[A]?=some (.cells #[.pointer p] 266 (0,0))) (d:w.heap[B]?=some (.cells #[.int .i64 b] 3 (0,0))) :
 Calls prog 227 #[.pointer B,.pointer A] w (kX w (jO b l).1 (jO b l).2):=by
 unfold jO
 by_cases a:65536<b\/b<l.length
 ·rw[if_pos a];exact OX A B p b w base v l e h a c d
 ·rw[if_neg a]
  obtain⟨n,rfl⟩:=Int.eq_ofNat_of_zero_le (show 0≤b by omega);exact OY A B p n w base v l e h (by omega) (by omega) c d
theorem GT(p:Nat)(a:Int)(w:World)(base:Nat)(v:Value)(l:List UInt8)(e:Int)(h:Wr w base p v l e)(i:l.length≤65536) :
 Calls prog 190 #[.pointer p,.int .i64 a] w (dR w base p v (wst (l,e) (jO a l))):=by
 have K:aA aB w ((w.alloc (.cells #[.pointer p] 266)).alloc (.cells #[.int .i64 a] 3)):=((aA.refl _ _).alloc _).alloc _;have b:=h.keep K id (fun _ _ h=>h);have c:=MJ w.heap.size (w.heap.size+1) p a ((w.alloc (.cells #[.pointer p] 266)).alloc (.cells #[.int .i64 a] 3)) base v l e b (heap_alloc2_old _ _ _) (heap_alloc2_new _ _ _);have W:=xC p _ 227 _ base v l e b i (fun _=>rfl) _ _ (by have:=Ij a l;omega) c;have f:=O W;have d:=O K;clear h b c W K;go_in;go_wp2_with fail;refine f.mono ?_;rintro e j h;obtain⟨rfl,g⟩:=xD d.out h;go_wp2_with fail
 go_end0
 exact g.out
def Oy(w:World)(a:List UInt8)(e:Ending)(w':World):Prop:=
 ∃v',e=.returned v'/\w'.ownsRow w.heap.size 5 1 v' a.length (a.map vb)/\aA aB w w'
theorem CU(z:Value)(d:List UInt8)(w:World)(H:Rd w 1 z d.length (d.map vb))(L:d.length≤140737488351232) :
 Calls prog 216 #[z] w (Oy w d):=by
 obtain⟨y,a,o,rfl,q,s,k,t⟩:=H;cases a with
 | none =>
   have F:=k rfl;subst F;have x:d=[]:=List.eq_nil_of_length_eq_zero (by omega);subst x;clear q s k t y;have G:=fun(w:World) (a:Option Addr) (n c:Nat)=>Lib.run_eql_slice_nil (P:=prog) w 22 5 a n c 0 0 underlying22
   go_in;go_wp2;go_ret;exact⟨_,rfl,World.ownsRow_nil _ _ _ _,aA.refl _ _⟩
 | some E =>
   have K:aA aB w (w.alloc (.cells #[] 5)):=(aA.refl _ _).alloc _;have C:=O ((show Rd w 1 (.slice (some E) d.length o) d.length (d.map vb) from⟨y,_,_,rfl,q,s,k,t⟩).keep K fun _ _=>id);have A:=O K;have j:0+d.length≤maxLen:=by unfold maxLen;omega
   have D:=O j;clear q s k t y K j;have G:=fun(w:World) (a:Option Addr) (n c:Nat)=>Lib.run_eql_slice_nil (P:=prog) w 22 5 a n c 0 0 underlying22
   go_in
   go_wp2_with (at_builtin;refine aK rfl (.tmp 5) (.tmp 6) 22 rfl w.heap.size 5 _ 1 1 underlying22 eW rfl (by omega) _ 0 [] rfl (World.ownsRow_made w #[] 0 (Nat.le_refl _) (by unfold maxLen;omega) (by simp)) _ d.length (d.map vb) rfl C.out (bA _) D.out (by omega) (by simp) ?_;intro v' w2 b f g u;obtain⟨I,c3,rfl,-,-⟩:=(Rd.of_owns b).form;have B:=O b;have m:=O f;clear b f g u)
   go_ret;refine⟨_,rfl,by simpa using B.out,A.tT m.out (fun i M h=>?_)⟩;have J:w.heap.size=i:=Option.some.inj h;omega
def Fit(p:Value->Prop)(w:World)(v:Value):Prop:=∀g cur e a,v.ownBlock=some g->w.heap[g]?=some (.cells cur e a)->∀c∈cur.toList,p c
theorem Fit.nil(p:Value->Prop)(w:World):Fit p w (.slice none 0 0):=fun _ _ _ _ h=>by cases h
theorem Fit.keep{p:Value->Prop}(h:Fit p w v)(j:aA S w w')(a:∀g,v.ownBlock=some g->g<w.heap.size/\¬S g):Fit p w' v:=by
 intro g cur e d c b;obtain⟨f,i⟩:=a g c;rw[j.block g f i] at b;exact h g cur e d c b
theorem Fit.made{p:Value->Prop}(w:World)(l:List Value)(t:TypeId)(a:Nat×Nat)(n c:Nat)(h:∀u∈l,p u):Fit p (w.alloc (.cells l.toArray t a)) (.slice (w.heap.size) n c):=by
 intro g cur e a d b;have:w.heap.size=g:=by simpa [Value.ownBlock] using d
 subst this;rw[heap_alloc_new] at b;cases b
 simpa using h
theorem DL{z:Array Value}{c:Value}(b:0<z.size)(h:c∈(Builtin.zeroCells z n).toList):c∈z.toList:=by
 simp only[Builtin.zeroCells,Array.toList_map,List.mem_map] at h;obtain⟨i,-,rfl⟩:=h;have a:i % z.size<z.size:=Nat.mod_lt _ b;rw[getElem!_pos z _ a];exact Array.getElem_mem_toList a
section
variable {P:Program}(w:World)
theorem Cn(base:Nat)(t I e:TypeId)(i:TypeInfo)(z:Value)(H:P.underlying t=some (.slice e))(G:P.info? e=some i)(W:i.zero=some z)(T:z.cells.size=i.size)(Q:0<i.size)
 (v:Value) (n:Nat) (F:List Value) (s:w.ownsRow base e i.size v n F)
 (a:Addr) (m c:Nat) (b:List Value) (E:b.length=m*i.size) (h:∀j u,b[j]?=some u->w.cell? (a.add j)=some u) (h1:∀u∈b,u.oneCell'=true)
 (K:n+m≤maxLen) (o:(n+m)*i.bytes≤140737488355328) (p:Value->Prop) (N:∀u∈z.cells.toList,p u) (A:∀u∈b,p u) (hf:Fit p w v) :
 ∃v' w',(Builtin.append_ #[t,t] I #[v,.slice (some a) m c]).run P w=.ok v' w'/\Fit p w' v':=by
 have V:n+m≤9223372036854775807:=by simpa [maxLen] using K
 have R:0<z.cells.size:=by rw[T];exact Q
 have fresh:∀(J:List Value) (k f:Nat),(∀u∈J,p u)->Fit p (w.drew.alloc (.cells (J.toArray++Builtin.zeroCells z.cells k) e)) (.slice (w.heap.size) (n+m) f):=by
  intro J k f y g cur X Y D C;have:w.heap.size=g:=by simpa [Value.ownBlock] using D
  subst this;rw[show w.heap.size=w.drew.heap.size from rfl,heap_alloc_new] at C;cases C
  intro u d;simp only[Array.toList_append,List.mem_append] at d;rcases d with d|d
  ·exact y u d
  ·exact N u (DL R d)
 rcases s.2 with⟨rfl,rfl⟩|⟨g,f,cur,rfl,qa,D,qd,qc,y,B⟩
 ·by_cases hm:m=0
  ·subst hm
   have hn:b=[]:=List.eq_nil_of_length_eq_zero (by simpa using E);subst hn;refine⟨.slice none 0 0,w,?_,Fit.nil p w⟩;simp[Builtin.append_,run_underlying H,sizeOf,typeInfo,G,Builtin.lenOf,Builtin.firstCells,loadCells,loadCellsFrom]
  ·refine⟨_,_,run_append_nil (P:=P) w t I e i z H G W a m c b E h (by omega) (by omega) (by rw[Nat.zero_add] at o;omega),?_⟩
   have:=fresh b (grownCap w m 0 e-m) (grownCap w m 0 e) A
   rwa [Nat.zero_add] at this
 ·have q:∀u∈cur.toList,p u:=hf g cur e (0,0) rfl D
  by_cases x:n+m≤f
  ·refine⟨_,_,run_append_room (P:=P) w t I e i H G g n f cur D a m c b E h h1 x (by rw[E,y,←Nat.add_mul];exact Nat.mul_le_mul_right _ x),?_⟩
   intro Z U X Y M C;have:g=Z:=by simpa [Value.ownBlock] using M
   subst this;rw[setRow_heap w g cur _ e _ D] at C;cases C
   intro u d;simp only[List.mem_append] at d;rcases d with (d|d)|d
   ·exact q u (List.mem_of_mem_take d)
   ·exact A u d
   ·exact q u (List.mem_of_mem_drop d)
  ·refine⟨_,_,run_append_grow (P:=P) w t I e i z H G W ⟨g,0,none⟩ n f F s.1 (s.cells (g:=g) rfl) a m c b E h (by omega) (by omega) (growslice_fits (by omega) o),?_⟩
   have L:=fresh (F++b) (grownCap w (n+m) f e-(n+m)) (grownCap w (n+m) f e) ?_
   ·rwa [show (F++b).toArray=F.toArray++b.toArray by simp] at L
   intro u d;rcases List.mem_append.1 d with d|d
   ·rw[←B] at d;exact q u (List.mem_of_mem_take d)
   ·exact A u d
end
variable{w:World}{v:Value}
theorem lI{P:Program}{J:Array Oper}{rest:List Oper}{o:Oper}{a:Act}{Q:Exit->Act->World->Prop}(D:o.guard=none)(s x:Operand)(t:TypeId)
 (ho:o.op=.call { callee:=.builtin .append,args:=#[s,x],argTypes:=#[t,t] })
 (base:Nat) (e:TypeId) (z:Value) (size bytes:Nat) (V:P.underlying t=some (.slice e)) (E:(P.info? e).map (fun i=>(i.zero,i.size,i.bytes))=some (some z,size,bytes)) (I:z.cells.size=size) (G:0<size)
 (v:Value) (n:Nat) (L:List Value) (hs:a.eval s=v) (q:w.ownsRow base e size v n L)
 (v2:Value) (m:Nat) (b:List Value) (hx:a.eval x=v2) (U:Rd w size v2 m b) (Z:∀u∈b,u.oneCell'=true)
 (C:n+m≤maxLen) (d:(n+m)*bytes≤140737488355328) (y:base≤w.heap.size) (p:Value->Prop) (T:∀u∈z.cells.toList,p u) (R:∀u∈b,p u) (hf:Fit p w v)
 (h:∀v' w',w'.ownsRow base e size v' (n+m) (L++b)->aA (fun k=>v.ownBlock=some k) w w' ->
   (v'=.slice none 0 0↔v=.slice none 0 0/\m=0) ->
   (v'.ownBlock=v.ownBlock\/v'.ownBlock=some w.heap.size)->Fit p w' v'->wpList P J Q rest (a.put o.dst v') w'):wpList P J Q (o::rest) a w:=by
 obtain⟨i,N,H,X,Y⟩:=info_parts E;subst X;subst Y;obtain⟨c,A,B,rfl,h2,h3,h4,h5⟩:=U;cases A with
 | none =>
   have M:=h4 rfl;have hl:m=0:=by omega
   subst hl;have hn:b=[]:=List.eq_nil_of_length_eq_zero (by simpa using c);subst hn;subst M;exact wpList_append_own_none D s x t ho base e i _ V N v n L hs q hx (h v w (by simpa using q) (aA.refl _ _) (by simp) (.inl rfl) hf)
 | some A =>
   have f:∀j u,b[j]?=some u->w.cell? (A.add j)=some u:=by
    intro j u W
    have c:0<b.length:=by
     rcases Nat.eq_zero_or_pos b.length with h0|h0
     ·rw[List.eq_nil_of_length_eq_zero h0] at W;simp at W
     ·exact h0
    obtain⟨g,o',hh,M⟩:=h5 c;cases hh
    rw[iO];exact M j u W
   refine wpList_plain D fun K hK=>?_
   obtain⟨v',w',hr,g2,g3,g4,g5⟩:=run_append_own_at (P:=P) w base t o.type e i z _ _ V N H rfl rfl I G v n L q A m B b c f Z C d y;obtain⟨qa,qc,F,g6⟩:=Cn (P:=P) w base t o.type e i z V N H I G v n L q A m B b c f Z C d p T R hf;rw[hr] at F;cases F
   unfold Oper.wp;simp[execOp,ho,resolve,invoke,builtin,hs,hx,hr,Result.andThen];exact hK _ _ (h v' w' g2 (aA.of_grown g3) g4 g5 g6)
open Go.RowKit
set_option maxRecDepth 100000
def IsB(u:Value):Prop:=∃b:UInt8,u=vb b
theorem Co(l:List UInt8):∀u∈l.map vb,IsB u:=by
 intro u a;obtain⟨b,-,rfl⟩:=List.mem_map.1 a;exact⟨b,rfl⟩
theorem AG:∀u∈(Value.int IntKind.u8 0).cells.toList,IsB u:=by
 intro u a;have:u=.int .u8 0:=by simpa [Value.cells] using a
 exact⟨0,this⟩
theorem Fit.bytes(h:Fit IsB w v){base n:Nat}{l:List Value}(q:w.ownsRow base 5 1 v n l):∃k:List UInt8,∀g c,v=.slice (some ⟨g,0,none⟩) n c->w.heap[g]?=some (.cells (k.map vb).toArray 5 (0,0))/\k.length=c/\(k.take n).map vb=l:=by
 rcases q.2 with⟨f,-⟩|⟨g,m,cur,rfl,y,i,f,u,x,o⟩
 ·exact⟨[],fun g c e=>by rw[f] at e;cases e⟩
 ·have a:=h g cur _ _ rfl i
  have:∀l:List Value,(∀c∈l,IsB c)->∃k:List UInt8,l=k.map vb:=by
   intro l
   induction l with
   | nil=>intro _;exact⟨[],rfl⟩
   | cons c l s =>
     intro j;obtain⟨b,rfl⟩:=j _ (List.mem_cons_self ..);obtain⟨k,rfl⟩:=s fun c a=>j c (List.mem_cons_of_mem _ a)
     exact⟨b::k,rfl⟩
  obtain⟨k,d⟩:=this cur.toList a;refine⟨k,fun t c e=>?_⟩;cases e
  refine⟨?_,?_,?_⟩
  ·rw[i,←d]
  ·have:=congrArg List.length d
   simp at this;omega
  ·rw[List.map_take,←d,←o,Nat.mul_one]
def Qd(w:World)(a:List UInt8)(e:Ending)(w':World):Prop:=
 ∃v',e=.returned v'/\w'.ownsRow w.heap.size 5 1 v' a.length (a.map vb)/\aA aB w w'/\Fit IsB w' v'
theorem Ks(B:Value)(d:List UInt8)(w:World)(J:Rd w 1 B d.length (d.map vb))(N:d.length≤140737488351232) :
 Calls prog 216 #[B] w (Qd w d):=by
 obtain⟨A,a,s,rfl,t,u,m,x⟩:=J;cases a with
 | none =>
   have H:=m rfl;subst H;have z:d=[]:=List.eq_nil_of_length_eq_zero (by omega);subst z;clear t u m x A;have I:=fun(w:World) (a:Option Addr) (n c:Nat)=>Lib.run_eql_slice_nil (P:=prog) w 22 5 a n c 0 0 underlying22
   go_in;go_wp2;go_ret;exact⟨_,rfl,World.ownsRow_nil _ _ _ _,aA.refl _ _,Fit.nil _ _⟩
 | some G =>
   have K:aA aB w (w.alloc (.cells #[] 5)):=(aA.refl _ _).alloc _;have E:=O ((show Rd w 1 (.slice (some G) d.length s) d.length (d.map vb) from⟨A,_,_,rfl,t,u,m,x⟩).keep K fun _ _=>id);have C:=O K;have k:0+d.length≤maxLen:=by unfold maxLen;omega
   have F:=O k;clear t u m x A K k;have I:=fun(w:World) (a:Option Addr) (n c:Nat)=>Lib.run_eql_slice_nil (P:=prog) w 22 5 a n c 0 0 underlying22
   go_in
   go_wp2_with (at_builtin;refine lI rfl (.tmp 5) (.tmp 6) 22 rfl w.heap.size 5 _ 1 1 underlying22 eW rfl (by omega) _ 0 [] rfl (World.ownsRow_made w #[] 0 (Nat.le_refl _) (by unfold maxLen;omega) (by simp)) _ d.length (d.map vb) rfl E.out (bA _) F.out (by omega) (by simp) IsB AG (Co d) (Fit.made w [] 5 (0,0) 0 0 (by simp)) ?_;intro v' w2 b g j y f;obtain⟨L,c3,rfl,-,-⟩:=(Rd.of_owns b).form;have D:=O b;have q:=O g;have o:=O f;clear b g j y f)
   go_ret;refine⟨_,rfl,by simpa using D.out,C.tT q.out (fun i Q h=>?_),by simpa using o.out⟩;have M:w.heap.size=i:=Option.some.inj h;omega
def MX(w:World)(l:List UInt8)(a:Int)(e:Ending)(w':World):Prop:=
 ∃v',e=.returned (.tuple #[v',.int .i64 a])/\w'.ownsRow w.heap.size 5 1 v' (if a=0 then l else []).length ((if a=0 then l else []).map vb)/\aA aB w w'/\Fit IsB w' v'
theorem GX(p:Nat)(w:World)(base:Nat)(v:Value)(l:List UInt8)(e:Int)(h:Wr w base p v l e)(y:l.length≤65536) :
 Calls prog 191 #[.pointer p] w (MX w l e):=by
 obtain⟨q,s,t,x⟩:=h.cells
 by_cases f:e=0
 ·subst f
  have c:=Ks v l w (Rd.of_owns h.own) (by omega);have C:=O c;clear c;obtain⟨a,cp,rfl,-,-⟩:=(Rd.of_owns h.own).form;clear h;go_in;go_wp2_with fail;refine C.out.mono ?_;rintro e z ⟨v',rfl,b,g,d⟩;have m:=O b;have k:=O g;have j:=O d;obtain⟨u,c3,rfl,-,-⟩:=(Rd.of_owns b).form;clear b g d;go_wp2
  go_ret2
  exact⟨_,rfl,m.out,k.out,j.out⟩
 ·have o:(e != 0)=true:=by simp[f]
  have i:=O f;clear f h;go_in;go_wp2_with fail
  go_quiet (fail)
  go_wp2
  go_ret2
  refine⟨_,rfl,?_,(aA.refl _ _).drewN _,Fit.nil _ _⟩;rw[if_neg i.out];exact World.ownsRow_nil _ _ _ _
def fG(l:List UInt8):ByteArray:=⟨l.toArray⟩
theorem tQ{l:List UInt8}(h:Rd w 1 v l.length (l.map vb)):Sem.run prog (convert 22 9 v) w=.ok (.string (fG l)) w:=by
 obtain⟨h0,a,c,rfl,m,q,s,j⟩:=h;rcases Nat.eq_zero_or_pos l.length with d|d
 ·have:l=[]:=List.eq_nil_of_length_eq_zero d
  subst this;cases a with
  | none=>exact run_convert_bytes_nil w _ 5 underlying22 underlying5 _ _ _ underlying9
  | some a =>
    rw[run_convert_bytes_string w _ _ 5 _ _ _ underlying22 underlying5 underlying9];exact run_bytesToString w a 0 c [] rfl
 ·obtain⟨g,o,rfl,k⟩:=j (by simpa using d)
  have:=run_convert_bytes_arg (P:=prog) w 22 5 underlying22 underlying5 g o l.length c (l.map fun b=>(b.toNat:Int)) (by simp) (fun i f=>by
   rw[k i (vb l[i]) (by simp[f])];simp[vb,List.getD,f]) _ underlying9
  rw[this];simp[strOfNums,fG,Function.comp_def]
theorem yZ(a b:List UInt8):((fG a).toList == (fG b).toList)=decide (a=b):=by
 unfold fG;rw[ByteArray.toList_mk,ByteArray.toList_mk]
 by_cases h:a=b
 ·subst h;simp
 ·simp[h]
theorem nY(w:World)(av f:Value)(a ys:List UInt8)(c:Rd w 1 av a.length (a.map vb))(d:Rd w 1 f ys.length (ys.map vb))(b:Bool)(g:decide (a=ys)=b) :
 Calls prog 165 #[av,f] w (fun e w'=>e=.returned (.bool b)/\w=w'):=by
 have k:=tQ c;have m:=tQ d;have h:=O (show ((fG a).toList == (fG ys).toList)=b by rw[yZ];exact g);clear g;obtain⟨i,c1,rfl,-,-⟩:=c.form;obtain⟨j,c2,rfl,-,-⟩:=d.form;clear c d;go_in;go_wp2;go_ret;exact⟨by rw[←h.out];rfl,rfl⟩
theorem Kt(w:World)(av f:Value)(a ys:List UInt8)(c:Rd w 1 av a.length (a.map vb))(d:Rd w 1 f ys.length (ys.map vb))(b:Bool)(g:decide (a=ys)=b) :
 Calls prog 52 #[av,f] w (fun e w'=>e=.returned (.bool b)/\w=w'):=by
 have k:=tQ c;have m:=tQ d;have h:=O (show ((fG a).toList == (fG ys).toList)=b by rw[yZ];exact g);clear g;obtain⟨i,c1,rfl,-,-⟩:=c.form;obtain⟨j,c2,rfl,-,-⟩:=d.form;clear c d;go_in;go_wp2;go_ret;exact⟨by rw[←h.out];rfl,rfl⟩
theorem Ku(x n:Int)(h:1≤n):x % n=if x.tmod n<0 then x.tmod n+n else x.tmod n:=by
 by_cases f:0≤x
 ·rw[Int.tmod_eq_emod_of_nonneg f,if_neg (by have:=Int.emod_nonneg x (show n≠0 by omega);omega)]
 ·have a:x.tmod n=-((-x) % n):=by
   have:=Int.neg_tmod (-x) n;rw[Int.neg_neg] at this;rw[this,Int.tmod_eq_emod_of_nonneg (by omega)]
  have g:=Int.emod_nonneg (-x) (show n≠0 by omega);have i:=Int.emod_lt_of_pos (-x) (show 0<n by omega);have j:=Int.emod_add_mul_ediv (-x) n;have b:x=-((-x) % n)+n*(-((-x) / n)):=by rw[Int.mul_neg];omega
  have c:x % n=(-((-x) % n)) % n:=by
   have:=Int.add_mul_emod_self_left (-((-x) % n)) n (-((-x) / n));rw[←b] at this;exact this
  rw[c,a];generalize (-x) % n=r at *
  by_cases d:r=0
  ·subst d;simp
  ·rw[if_pos (by omega)]
   have:=Int.add_emod_right (-r) n;rw[←this];exact Int.emod_eq_of_lt (by omega) (by omega)
theorem ER(w:World)(x n:Int)(h0:1≤n)(g:n≤4611686018427387904)(i:-9223372036854775808≤x)(f:x≤9223372036854775807) :
 Calls prog 7 #[.int .i64 x,.int .i64 n] w (fun e w'=>e=.returned (.int .i64 (x % n))/\w=w'):=by
 have h:decide (n<1)=false:=by simp;omega
 have d:(n == 0)=false:=by simp;omega
 have c:=Int.emod_nonneg x (show n≠0 by omega);have b:=Int.emod_lt_of_pos x (show 0<n by omega);have a:=O (Ku x n h0);go_in;go_wp2_with fail
 ·go_ret
  refine⟨?_,rfl⟩;rw[a.out,if_pos (by assumption)];rw[a.out,if_pos (by assumption)] at c b;have:wrap64 (x.tmod n+n)=x.tmod n+n:=by unfold wrap64;omega
  exact congrArg (fun t=>Ending.returned (.int .i64 t)) this
 ·go_ret
  refine⟨?_,rfl⟩;rw[a.out,if_neg (by omega)];rfl
theorem cN(n lo d:Int)(w:World)(b:Bool)(c:decide (lo≤n/\n≤d)=b) :
 Calls prog 170 #[.int .i64 n,.int .i64 lo,.int .i64 d] w (fun e w'=>e=.returned (.bool b)/\w=w'):=by
 by_cases a:lo≤n
 ·by_cases f:n≤d
  ·obtain rfl:true=b:=by rw[←c];simp[a,f]
   clear c;have g:decide (lo≤n)=true:=by simpa using a
   have h:decide (n≤d)=true:=by simpa using f
   go_in;go_wp2;go_ret;exact⟨rfl,rfl⟩
  ·obtain rfl:false=b:=by rw[←c];simp[a,f]
   clear c;have g:decide (lo≤n)=true:=by simpa using a
   have h:decide (n≤d)=false:=by simpa using f
   go_in;go_wp2;go_ret;exact⟨rfl,rfl⟩
 ·obtain rfl:false=b:=by rw[←c];simp[a]
  clear c;have g:decide (lo≤n)=false:=by simpa using a
  go_in;go_wp2;go_ret;exact⟨rfl,rfl⟩
def Lab.nums(L:Lab):List Value:=[.int .i64 L.dev,.int .i64 L.devs,.int .i64 L.copies,.int .i64 L.sectors,.int .i64 L.life]
def Lab.cells(L:Lab):List Value:=L.pool.map vb++L.nums
theorem Lab.cells_length(L:Lab)(h:L.pool.length=32):L.cells.length=37:=by simp[Lab.cells,Lab.nums,h]
theorem Lab.cells_num(L:Lab)(h:L.pool.length=32)(i:Nat):L.cells[32+i]?=L.nums[i]?:=by
 simp only[Lab.cells,List.getElem?_append,List.length_map,h];rw[if_neg (by omega),show 32+i-32=i by omega]
theorem Lab.cells_pool(L:Lab)(h:L.pool.length=32)(i:Nat)(a:i<32):L.cells[i]?=(L.pool.map vb)[i]?:=by
 simp[Lab.cells,List.getElem?_append,h,a]
theorem Lab.at(L:Lab)(h:L.pool.length=32):L.cells.toArray[32]?=some (.int .i64 L.dev)/\L.cells.toArray[33]?=some (.int .i64 L.devs)/\L.cells.toArray[34]?=some (.int .i64 L.copies) /\
 L.cells.toArray[35]?=some (.int .i64 L.sectors)/\L.cells.toArray[36]?=some (.int .i64 L.life):=by
 refine⟨?_,?_,?_,?_,?_⟩<;>rw[List.getElem?_toArray]
 ·exact L.cells_num h 0
 ·exact L.cells_num h 1
 ·exact L.cells_num h 2
 ·exact L.cells_num h 3
 ·exact L.cells_num h 4
theorem KM(a:Array Value)(dev devs copies sectors life:Int)(w:World)(c0:a[32]?=some (.int .i64 dev))(c1:a[33]?=some (.int .i64 devs))(c2:a[34]?=some (.int .i64 copies))(c3:a[35]?=some (.int .i64 sectors))(b:a[36]?=some (.int .i64 life))
 (c:¬(2≤devs/\devs≤8)) :
 Calls prog 114 #[.agg a] w (fun e w'=>e=.returned (.int .i64 2)/\w.alloc (.cells a 112)=w'):=by
 go_in;go_wp2_with fail;refine(cN _ _ _ _ false (by simp;omega)).mono ?_;rintro e w' ⟨rfl,rfl⟩;go_wp2;go_ret;exact⟨rfl,rfl⟩
theorem KN(a:Array Value)(dev devs copies sectors life:Int)(w:World)(c0:a[32]?=some (.int .i64 dev))(c1:a[33]?=some (.int .i64 devs))(c2:a[34]?=some (.int .i64 copies))(c3:a[35]?=some (.int .i64 sectors))(b:a[36]?=some (.int .i64 life))
 (c:2≤devs/\devs≤8) (d:¬(0≤dev/\dev≤devs-1)) :
 Calls prog 114 #[.agg a] w (fun e w'=>e=.returned (.int .i64 2)/\w.alloc (.cells a 112)=w'):=by
 go_in;go_wp2_with fail;refine(cN _ _ _ _ true (by simp;omega)).mono ?_;rintro e w' ⟨rfl,rfl⟩;go_wp2_with fail;refine(cN _ _ _ _ false (by simp;omega)).mono ?_;rintro e w' ⟨rfl,rfl⟩;go_wp2;go_ret;exact⟨rfl,rfl⟩
theorem KO(a:Array Value)(dev devs copies sectors life:Int)(w:World)(c0:a[32]?=some (.int .i64 dev))(c1:a[33]?=some (.int .i64 devs))(c2:a[34]?=some (.int .i64 copies))(c3:a[35]?=some (.int .i64 sectors))(b:a[36]?=some (.int .i64 life))
 (c:2≤devs/\devs≤8) (d:0≤dev/\dev≤devs-1) (f:¬(1≤copies/\copies≤3/\copies≤devs)) :
 Calls prog 114 #[.agg a] w (fun e w'=>e=.returned (.int .i64 2)/\w.alloc (.cells a 112)=w'):=by
 go_in;go_wp2_with fail;refine(cN _ _ _ _ true (by simp;omega)).mono ?_;rintro e w' ⟨rfl,rfl⟩;go_wp2_with fail;refine(cN _ _ _ _ true (by simp;omega)).mono ?_;rintro e w' ⟨rfl,rfl⟩;go_wp2_with fail
 all_goals
  refine(cN _ _ _ _ false (by simp;omega)).mono ?_;rintro e w' ⟨rfl,rfl⟩;go_wp2;go_ret;exact⟨rfl,rfl⟩
theorem KQ(a:Array Value)(dev devs copies sectors life:Int)(w:World)(c0:a[32]?=some (.int .i64 dev))(c1:a[33]?=some (.int .i64 devs))(c2:a[34]?=some (.int .i64 copies))(c3:a[35]?=some (.int .i64 sectors))(b:a[36]?=some (.int .i64 life))
 (c:2≤devs/\devs≤8) (d:0≤dev/\dev≤devs-1) (f:1≤copies/\copies≤3/\copies≤devs) (g:¬(8≤sectors/\sectors≤4096)) :
 Calls prog 114 #[.agg a] w (fun e w'=>e=.returned (.int .i64 2)/\w.alloc (.cells a 112)=w'):=by
 go_in;go_wp2_with fail;refine(cN _ _ _ _ true (by simp;omega)).mono ?_;rintro e w' ⟨rfl,rfl⟩;go_wp2_with fail;refine(cN _ _ _ _ true (by simp;omega)).mono ?_;rintro e w' ⟨rfl,rfl⟩;go_wp2_with fail
 all_goals
  refine(cN _ _ _ _ true (by simp;omega)).mono ?_;rintro e w' ⟨rfl,rfl⟩;go_wp2_with fail;refine(cN _ _ _ _ false (by simp;omega)).mono ?_;rintro e w' ⟨rfl,rfl⟩;go_wp2;go_ret;exact⟨rfl,rfl⟩
theorem KR(a:Array Value)(dev devs copies sectors life:Int)(w:World)(c0:a[32]?=some (.int .i64 dev))(c1:a[33]?=some (.int .i64 devs))(c2:a[34]?=some (.int .i64 copies))(c3:a[35]?=some (.int .i64 sectors))(b:a[36]?=some (.int .i64 life))
 (c:2≤devs/\devs≤8) (d:0≤dev/\dev≤devs-1) (f:1≤copies/\copies≤3/\copies≤devs) (g:8≤sectors/\sectors≤4096) (h:¬(0≤life/\life≤2147483648)) :
 Calls prog 114 #[.agg a] w (fun e w'=>e=.returned (.int .i64 2)/\w.alloc (.cells a 112)=w'):=by
 go_in;go_wp2_with fail;refine(cN _ _ _ _ true (by simp;omega)).mono ?_;rintro e w' ⟨rfl,rfl⟩;go_wp2_with fail;refine(cN _ _ _ _ true (by simp;omega)).mono ?_;rintro e w' ⟨rfl,rfl⟩;go_wp2_with fail
 all_goals
  refine(cN _ _ _ _ true (by simp;omega)).mono ?_;rintro e w' ⟨rfl,rfl⟩;go_wp2_with fail;refine(cN _ _ _ _ true (by simp;omega)).mono ?_;rintro e w' ⟨rfl,rfl⟩;go_wp2_with fail;refine(cN _ _ _ _ false (by simp;omega)).mono ?_;rintro e w' ⟨rfl,rfl⟩;go_wp2;go_ret;exact⟨rfl,rfl⟩
theorem KS(a:Array Value)(dev devs copies sectors life:Int)(w:World)(c0:a[32]?=some (.int .i64 dev))(c1:a[33]?=some (.int .i64 devs))(c2:a[34]?=some (.int .i64 copies))(c3:a[35]?=some (.int .i64 sectors))(b:a[36]?=some (.int .i64 life))
 (c:2≤devs/\devs≤8) (d:0≤dev/\dev≤devs-1) (f:1≤copies/\copies≤3/\copies≤devs) (g:8≤sectors/\sectors≤4096) (h:0≤life/\life≤2147483648) :
 Calls prog 114 #[.agg a] w (fun e w'=>e=.returned (.int .i64 0)/\w.alloc (.cells a 112)=w'):=by
 go_in;go_wp2_with fail;refine(cN _ _ _ _ true (by simp;omega)).mono ?_;rintro e w' ⟨rfl,rfl⟩;go_wp2_with fail;refine(cN _ _ _ _ true (by simp;omega)).mono ?_;rintro e w' ⟨rfl,rfl⟩;go_wp2_with fail
 all_goals
  refine(cN _ _ _ _ true (by simp;omega)).mono ?_;rintro e w' ⟨rfl,rfl⟩;go_wp2_with fail;refine(cN _ _ _ _ true (by simp;omega)).mono ?_;rintro e w' ⟨rfl,rfl⟩;go_wp2_with fail;refine(cN _ _ _ _ true (by simp;omega)).mono ?_;rintro e w' ⟨rfl,rfl⟩;go_wp2;go_ret;exact⟨rfl,rfl⟩
theorem sE(L:Lab)(h:L.pool.length=32)(w:World) :
 Calls prog 114 #[.agg L.cells.toArray] w (fun e w'=>e=.returned (.int .i64 (if L.may then 0 else 2))/\w.alloc (.cells L.cells.toArray 112)=w'):=by
 obtain⟨c0,c1,c2,c3,c⟩:=L.at h
 by_cases a:2≤L.devs/\L.devs≤8
 ·by_cases b:0≤L.dev/\L.dev≤L.devs-1
  ·by_cases d:1≤L.copies/\L.copies≤3/\L.copies≤L.devs
   ·by_cases f:8≤L.sectors/\L.sectors≤4096
    ·by_cases g:0≤L.life/\L.life≤2147483648
     ·rw[show L.may=true by simp only[Lab.may,a,b,d,f,g];decide];exact KS _ _ _ _ _ _ w c0 c1 c2 c3 c a b d f g
     ·rw[show L.may=false by simp only[Lab.may,g];simp];exact KR _ _ _ _ _ _ w c0 c1 c2 c3 c a b d f g
    ·rw[show L.may=false by simp only[Lab.may,f];simp];exact KQ _ _ _ _ _ _ w c0 c1 c2 c3 c a b d f
   ·rw[show L.may=false by simp only[Lab.may,d];simp];exact KO _ _ _ _ _ _ w c0 c1 c2 c3 c a b d
  ·rw[show L.may=false by simp only[Lab.may,b];simp];exact KN _ _ _ _ _ _ w c0 c1 c2 c3 c a b
 ·rw[show L.may=false by simp only[Lab.may,a];simp];exact KM _ _ _ _ _ _ w c0 c1 c2 c3 c a
end
end Go.Proofs.YtoeinblfcbpcmaaGreatDoor
