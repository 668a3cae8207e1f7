import Derived.Test.YtiinnfhjpaeffaaGreatW1
import Derived.Test.YtiinnfhjpaeffaaGreatW12
import Derived.Laws.BytesArg
import Derived.Laws.BitsAllLaws
import Derived.Outline
namespace Go.Proofs.YtiinnfhjpaeffaaGreat
set_option maxHeartbeats 64000000
set_option maxRecDepth 100000
set_option linter.unusedVariables false
section
open Go.RowKit
theorem fN:(Tryz.prog.info? 5).map (fun i=>(i.zero,i.size,i.bytes))=some (some (.int .u8 0),1,1):=by kernel_rfl
theorem JR{P:Program}{fn:Func}{R:Ending->World->Prop}{a:Act}{w:World}(hf:fn.results=#[])(hd:a.defers=[])(hR:R (.returned (.tuple #[])) w):bodyPost P fn R .ret a w:=
 bodyPost_ret (results_none hf _ _ _) hd hR
structure Wr(w:World)(base p:Nat)(v:Value)(l:List UInt8)(e:Int):Prop where
 blk:w.heap[p]?=some (.cells #[.bool true,v,.int .i64 e] 271 (0,0))
 own:w.ownsRow base 5 1 v l.length (l.map vb)
 ne:v.ownBlock≠some p
 le:base≤p
def dN(w:World)(base p:Nat)(v:Value)(r:List UInt8×Int)(e:Ending)(w':World):Prop:=
 e=.returned (.tuple #[])/\∃v',Wr w' base p v' r.1 r.2/\aA (fun k=>k=p\/v.ownBlock=some k) w w'/\(v'.ownBlock=v.ownBlock\/∃g,v'.ownBlock=some g/\w.heap.size≤g)
def jW(w:World)(bs:List UInt8)(er:Int)(e:Ending)(w':World):Prop:=
 ∃bv,e=.returned (.tuple #[bv,.int .i64 er])/\aA aB w w'/\Rd w' 1 bv bs.length (bs.map vb)
theorem Wr.cells{w:World}{base p:Nat}{v:Value}{l:List UInt8}{e:Int}(h:Wr w base p v l e) :
 w.cell? ⟨p,0,none⟩=some (.bool true)/\w.cell? ⟨p,1,none⟩=some v/\w.cell? ⟨p,2,none⟩=some (.int .i64 e)/\(∀i,w.frozen? ⟨p,i,none⟩=false):=by
 refine⟨?_,?_,?_,fun i=>frozen_of_row w p i _ _ h.blk⟩<;>(rw[cell_of_row w p _ _ _ _ h.blk];rfl)
theorem Wr.keep{w w':World}{base p:Nat}{v:Value}{l:List UInt8}{e:Int}(h:Wr w base p v l e){S:Nat->Prop}(k:aA S w w')(hp:¬S p)(hv:∀g,v.ownBlock=some g->¬S g):Wr w' base p v l e:=
 ⟨k.blk h.blk hp,k.owns h.own hv,h.ne,h.le⟩
theorem Wr.setErr{w:World}{base p:Nat}{v:Value}{l:List UInt8}{e:Int}(h:Wr w base p v l e)(e':Int):Wr (w.setCell ⟨p,2,none⟩ (.int .i64 e')) base p v l e':=
 ⟨by rw[dO h.blk];rfl,ownsRow_setCell_other h.own (by simpa using h.ne) _,h.ne,h.le⟩
theorem Wr.app{w w1 w2:World}{base p:Nat}{v v':Value}{l bs:List UInt8}(HH:Wr w1 base p v l 0)(HK:aA (fun k=>k=p\/v.ownBlock=some k) w w1)
 (hown2:w2.ownsRow base 5 1 v' (l.length+bs.length) (l.map vb++bs.map vb)) (hk2:aA (fun k=>v.ownBlock=some k) w1 w2) (hat:v'.ownBlock=v.ownBlock\/v'.ownBlock=some w1.heap.size) :
 w2.cell? ⟨p,1,none⟩=some v/\w2.frozen? ⟨p,1,none⟩=false /\
 Hid (Wr (w2.setCell ⟨p,1,none⟩ v') base p v' (l++bs) 0/\aA (fun k=>k=p\/v.ownBlock=some k) w (w2.setCell ⟨p,1,none⟩ v')/\(v'.ownBlock=v.ownBlock\/∃g,v'.ownBlock=some g/\w.heap.size≤g)):=by
 have hb2:=hk2.blk HH.blk HH.ne;refine⟨by rw[cell_of_row w2 p _ _ _ _ hb2];rfl,frozen_of_row w2 p _ _ _ hb2,O ⟨?_,?_,?_⟩⟩
 ·have hne:v'.ownBlock≠some p:=by
   rcases hat with h|h
   ·rw[h];exact HH.ne
   ·rw[h];have:=lt_of_block HH.blk;intro e;simp only[Option.some.injEq] at e;omega
  refine⟨by rw[dO hb2];rfl,?_,hne,HH.le⟩;have:=ownsRow_setCell_other hown2 (a:=⟨p,1,none⟩) hne v'
  simpa using this
 ·exact(HK.trans (hk2.mono fun _ _ h=>.inr h)).setCell (fun _=>.inl rfl) _
 ·rcases hat with h|h
  ·exact .inl h
  ·exact .inr ⟨_,h,HK.size⟩
theorem Hs(p:Nat)(e:Int)(w:World)(fn:Nat)(caps:Array Value)(base:Nat)(v:Value)(l:List UInt8)(h:Wr w base p v l e)(he:e≠0) :
 Calls Tryz.prog 191 #[.pointer (some ⟨p,0,none⟩),.func (.func fn) #[] caps] w (dN w base p v (l,e)):=by
 obtain⟨hp0,hp1,hp2,hf⟩:=h.cells;have he1:(e != 0)=true:=by simp[he]
 have he2:(e == 0)=false:=by simp[he]
 have he3:=O he;clear he;have H:=O h;clear h;go_in;go_wp2_with fail;refine JR rfl rfl ?_;exact⟨rfl,v,H.out,aA.refl _ _,.inl rfl⟩
theorem JS(p:Nat)(w:World)(fn:Nat)(caps:Array Value)(base:Nat)(v:Value)(l:List UInt8)(h:Wr w base p v l 0)
 (hcf:∀w,Sem.run Tryz.prog (callFunc fn caps) w=.ok (.enter fn caps) w)
 (bs:List UInt8) (er:Int) (her:er≠0) (hc:Calls Tryz.prog fn caps w (jW w bs er)) :
 Calls Tryz.prog 191 #[.pointer (some ⟨p,0,none⟩),.func (.func fn) #[] caps] w (dN w base p v (l,er)):=by
 obtain⟨hp0,hp1,hp2,hf⟩:=h.cells;have he1:(er != 0)=true:=by simp[her]
 have he2:(er == 0)=false:=by simp[her]
 have he3:=O her;clear her;have H:=O h;clear h;have C:=O hc;clear hc;go_in;go_wp2_with fail;refine C.out.mono ?_;rintro e w1 ⟨bv,rfl,hk,-⟩;have H1:=H.out.keep hk (fun h=>h) (fun _ _ h=>h);clear hp0 hp1 hp2 hf;obtain⟨hp0,hp1,hp2,hf⟩:=H1.cells;have HK:=O hk;clear hk;have HH:=O H1;clear H1;go_wp2_with fail;refine JR rfl rfl ?_;refine⟨rfl,v,HH.out.setErr er,?_,.inl rfl⟩;exact(HK.out.any).setCell (fun _=>.inl rfl) _
theorem FD(p:Nat)(w:World)(fn:Nat)(caps:Array Value)(base:Nat)(v:Value)(l:List UInt8)(h:Wr w base p v l 0)
 (hcf:∀w,Sem.run Tryz.prog (callFunc fn caps) w=.ok (.enter fn caps) w)
 (bs:List UInt8) (hl:l.length≤65536) (hb:bs.length≤140737488351232) (hlong:65536<l.length+bs.length) (hc:Calls Tryz.prog fn caps w (jW w bs 0)) :
 Calls Tryz.prog 191 #[.pointer (some ⟨p,0,none⟩),.func (.func fn) #[] caps] w (dN w base p v (l,3)):=by
 obtain⟨hp0,hp1,hp2,hf⟩:=h.cells;have H:=O h;clear h;have C:=O hc;clear hc
 obtain⟨a,n,cap,hv,hn⟩:∃a n cap,v=.slice a n cap/\n=l.length:=by
  rcases H.out.own.2 with⟨h1,h2⟩|⟨g,cap,cur,h1,_⟩
  ·exact⟨_,_,_,h1,h2.symm⟩
  ·exact⟨_,_,_,h1,rfl⟩
 rw[hv] at hp1;have HV:=O hv;clear hv;have hn1:n≤65536:=by omega
 have hn2:65536<n+bs.length:=by omega
 have HN:=O hn;clear hn;go_in;go_wp2_with fail;refine C.out.mono ?_;rintro e w1 ⟨bv,rfl,hk,hrd⟩;have H1:=H.out.keep hk (fun h=>h) (fun _ _ h=>h);clear hp0 hp1 hp2 hf;obtain⟨hp0,hp1,hp2,hf⟩:=H1.cells;rw[HV.out] at hp1;obtain⟨a2,cap2,rfl,-,-⟩:=hrd.form;have HK:=O hk;clear hk;have HH:=O H1;clear H1;have HR:=O hrd;clear hrd;go_wp2_with fail;refine JR rfl rfl ?_;refine⟨rfl,v,HH.out.setErr 3,?_,.inl rfl⟩;exact(HK.out.any).setCell (fun _=>.inl rfl) _
theorem JT(p:Nat)(w:World)(fn:Nat)(caps:Array Value)(base:Nat)(v:Value)(l:List UInt8)(h:Wr w base p v l 0)
 (hcf:∀w,Sem.run Tryz.prog (callFunc fn caps) w=.ok (.enter fn caps) w)
 (bs:List UInt8) (hlong:l.length+bs.length≤65536) (hc:Calls Tryz.prog fn caps w (jW w bs 0)) :
 Calls Tryz.prog 191 #[.pointer (some ⟨p,0,none⟩),.func (.func fn) #[] caps] w (dN w base p v (l++bs,0)):=by
 obtain⟨hp0,hp1,hp2,hf⟩:=h.cells;have H:=O h;clear h;have C:=O hc;clear hc
 obtain⟨a,n,cap,hv,hn⟩:∃a n cap,v=.slice a n cap/\n=l.length:=by
  rcases H.out.own.2 with⟨h1,h2⟩|⟨g,cap,cur,h1,_⟩
  ·exact⟨_,_,_,h1,h2.symm⟩
  ·exact⟨_,_,_,h1,rfl⟩
 rw[hv] at hp1;have HV:=O hv;clear hv;have hn2:n+bs.length≤65536:=by omega
 have HN:=O hn;clear hn;go_in;go_wp2_with fail;refine C.out.mono ?_;rintro e w1 ⟨bv,rfl,hk,hrd⟩;have H1:=H.out.keep hk (fun h=>h) (fun _ _ h=>h);clear hp0 hp1 hp2 hf;obtain⟨hp0,hp1,hp2,hf⟩:=H1.cells;rw[HV.out] at hp1;obtain⟨a2,cap2,rfl,-,-⟩:=hrd.form;have H2:=H1.setErr 0;have hk2:aA (fun k=>k=p\/v.ownBlock=some k) w (w1.setCell ⟨p,2,none⟩ (.int .i64 0)):=(hk.any).setCell (fun _=>.inl rfl) _;have hrd2:Rd (w1.setCell ⟨p,2,none⟩ (.int .i64 0)) 1 (.slice a2 bs.length cap2) bs.length (bs.map vb):=hrd.setCell hp2 (by simp[vb]) _;have hsz:base≤(w1.setCell ⟨p,2,none⟩ (.int .i64 0)).heap.size:=by have:=H2.le;have:=lt_of_block H2.blk;omega
 have HS:=O hsz;clear hsz;have HK:=O hk2;clear hk hk2;have HH:=O H2;clear H2 H1;have HR:=O hrd2;clear hrd2 hrd;have hx1:l.length+bs.length≤maxLen:=by unfold maxLen;omega
 have HX:=O hx1;clear hx1
 go_wp2_with (at_builtin;refine aN rfl (.tmp 50) (.tmp 51) 109 rfl base 5 _ 1 1 Tryz.underlying109 fN rfl (by omega) v l.length (l.map vb) (by exact HV.out.symm) HH.out.own _ bs.length (bs.map vb) rfl HR.out (bN _) HX.out (by omega) HS.out ?_;intro v' w2 hown2 hk2 hnil hat;obtain⟨a3,c3,rfl,-,-⟩:=(Rd.of_owns hown2).form;obtain⟨c1,f1,HW⟩:=Wr.app HH.out HK.out hown2 hk2 hat;clear hown2 hk2 hnil hat hp0 hp1 hp2)
 go_end0
 exact⟨rfl,_,HW.out⟩
theorem tW(p:Nat)(w:World)(fn:Nat)(caps:Array Value)(base:Nat)(v:Value)(l:List UInt8)(e:Int)(h:Wr w base p v l e)(hl:l.length≤65536)
 (hcf:∀w,Sem.run Tryz.prog (callFunc fn caps) w=.ok (.enter fn caps) w)
 (bs:List UInt8) (er:Int) (hb:bs.length≤140737488351232) (hc:Calls Tryz.prog fn caps w (jW w bs er)) :
 Calls Tryz.prog 191 #[.pointer (some ⟨p,0,none⟩),.func (.func fn) #[] caps] w (dN w base p v (wst (l,e) (bs,er))):=by
 by_cases he:e=0
 ·subst he
  by_cases her:er=0
  ·subst her
   by_cases hlen:65536<l.length+bs.length
   ·have:wst (l,0) (bs,0)=(l,3):=by simp[wst,hlen]
    rw[this];exact FD p w fn caps base v l h hcf bs hl hb hlen hc
   ·have:wst (l,0) (bs,0)=(l++bs,0):=by simp[wst,hlen]
    rw[this];exact JT p w fn caps base v l h hcf bs (by omega) hc
  ·have:wst (l,0) (bs,er)=(l,er):=by simp[wst,her]
   rw[this];exact JS p w fn caps base v l h hcf bs er her hc
 ·have:wst (l,e) (bs,er)=(l,e):=by simp[wst,he]
  rw[this];exact Hs p e w fn caps base v l h he
open Go.RowKit
set_option maxRecDepth 100000
theorem LS{w wr w2:World}{k n s:Nat}{v v':Value}(hown:wr.ownsRow w.heap.size 5 1 v k (((List.range k).map (iF n s)).map vb))(hkp:aA aB w wr)
 (hown2:w2.ownsRow w.heap.size 5 1 v' (k+1) (((List.range k).map (iF n s)).map vb++[.int .u8 ((n:Int) / 2 ^ (8*(s-k-1)) % 256)]))
 (hk2:aA (fun i=>v.ownBlock=some i) (wr.alloc (.cells #[.int .u8 ((n:Int) / 2 ^ (8*(s-k-1)) % 256)] 5)) w2) :
 Hid (w2.ownsRow w.heap.size 5 1 v' (k+1) (((List.range (k+1)).map (iF n s)).map vb))/\Hid (aA aB w w2):=by
 refine⟨O ?_,O ?_⟩
 ·rw[rE,List.map_append]
  simpa [vb,sD] using hown2
 ·refine(hkp.alloc _).trans' hk2 (fun _ _ h=>h) (fun i hi h=>?_)
  have:=(hown.lt i h).1;omega
theorem LT(A B s:Nat)(n:Nat)(w:World)(hs1:1≤s)(hs7:s≤7)(hn:n<2 ^ (8*s))
 (hA:w.heap[A]?=some (.cells #[.int .i64 n] 3 (0,0))) (hB:w.heap[B]?=some (.cells #[.int .i64 s] 3 (0,0))) :
 Calls Tryz.prog 193 #[.pointer (some ⟨B,0,none⟩),.pointer (some ⟨A,0,none⟩)] w (jW w (be n s) 0):=by
 have hn56:n<72057594037927936:=Nat.lt_of_lt_of_le hn (Nat.pow_le_pow_right (by omega) (show 8*s≤56 by omega));have hz:n / 2 ^ (8*s)=0:=Nat.div_eq_of_lt hn
 have hz':((n:Int) / 2 ^ (8*s) != 0)=false:=by
  have:((n:Int) / 2 ^ (8*s))=((n / 2 ^ (8*s):Nat):Int):=by simp
  rw[this,hz];rfl
 have hA':=cell_of_one hA;have hB':=cell_of_one hB;have HA:=O hA;have HB:=O hB;have HN:=O hn;have HZ:=O hz;clear hA hB hn hz;go_in;go_wp2_with fail
 go_loopw [4,5] (fun v i wr=>∃k:Nat,k≤s/\i=.int .i64 (s-k:Nat)/\Hid (wr.ownsRow w.heap.size 5 1 v k (((List.range k).map (iF n s)).map vb))/\Hid (aA aB w wr)) (fun _ i _=>(intOf i).toNat)
 case atStart=>exact⟨0,by omega,rfl,O (World.ownsRow_nil _ _ _ _),O (aA.refl _ _)⟩
 case round =>
  obtain⟨k,hk,rfl,hown,hkp⟩:=hrel;have hA2:=hkp.out.cell hA' id;have hB2:=hkp.out.cell hB' id;clear hA' hB'
  by_cases hlt:k<s
  ·have hsz:w.heap.size≤(wr.alloc (.cells #[.int .u8 ((n:Int) / 2 ^ (8*(s-k-1)) % 256)] 5)).heap.size:=by have:=hkp.out.size;simp;omega
   have HS:=O hsz;clear hsz;have hml:k+1≤maxLen:=by unfold maxLen;omega
   have HML:=O hml;clear hml;have h1:∀u∈[Value.int .u8 ((n:Int) / 2 ^ (8*(s-k-1)) % 256)],u.oneCell'=true:=by simp[Value.oneCell']
   have H1:=O h1;clear h1
   go_wp2_with (at_builtin;refine aN rfl (.tmp 28) (.tmp 35) 109 rfl w.heap.size 5 _ 1 1 Tryz.underlying109 fN rfl (by omega) _ k _ rfl (hown.out.alloc _) _ 1 _ rfl (tF _ _ _) H1.out HML.out (by omega) HS.out ?_;intro v' w2 hown2 hk2 hnil hat;have R:=LS hown.out hkp.out hown2 hk2;clear hown2 hk2 hnil hat hown hkp hA2 hB2)
   go_roundw
   case rel=>exact⟨k+1,by omega,by rw[show s-(k+1)=s-k-1 by omega];go_num,R⟩
   case measure=>simp[intOf];omega
  ·obtain rfl:k=s:=by omega
   go_wp2
   go_ret2
   exact⟨_,rfl,hkp.out,by have:=Rd.of_owns hown.out;rw[bH];exact this⟩
theorem qE{w:World}{er:Int}{e:Ending}{w':World}(he:e=.returned (.tuple #[.slice none 0 0,.int .i64 er]))(hw:w=w'):jW w [] er e w':=by
 subst hw;exact⟨_,he,aA.refl _ _,Rd.nil _ _⟩
theorem Ht(A B:Nat)(size:Int)(w:World)(hs:size<1\/7<size)
 (hB:w.heap[B]?=some (.cells #[.int .i64 size] 3 (0,0))) :
 Calls Tryz.prog 193 #[.pointer (some ⟨B,0,none⟩),.pointer (some ⟨A,0,none⟩)] w (jW w [] 2):=by
 have hB':=cell_of_one hB;clear hB;rcases hs with hs|hs
 ·go_in
  go_wp2
  go_ret2
  exact qE rfl rfl
 ·have hs':¬size<1:=by omega
  go_in;go_wp2
  go_ret2
  exact qE rfl rfl
theorem FE(A B s:Nat)(n:Int)(w:World)(hs1:1≤s)(hs7:s≤7)(hn:n<0\/n / 2 ^ (8*s)≠0)
 (hA:w.heap[A]?=some (.cells #[.int .i64 n] 3 (0,0))) (hB:w.heap[B]?=some (.cells #[.int .i64 s] 3 (0,0))) :
 Calls Tryz.prog 193 #[.pointer (some ⟨B,0,none⟩),.pointer (some ⟨A,0,none⟩)] w (jW w [] 5):=by
 have hA':=cell_of_one hA;have hB':=cell_of_one hB;clear hA hB
 by_cases h0:n<0
 ·clear hn
  go_in;go_wp2
  go_ret2
  exact qE rfl rfl
 ·have h1:(n / 2 ^ (8*s) != 0)=true:=by
   rcases hn with h|h
   ·exact absurd h h0
   ·simpa using h
  have h0':0≤n:=by omega
  clear hn h0;go_in;go_wp2
  go_ret2
  exact qE rfl rfl
theorem JU(A B:Nat)(n size:Int)(w:World)
 (hA:w.heap[A]?=some (.cells #[.int .i64 n] 3 (0,0))) (hB:w.heap[B]?=some (.cells #[.int .i64 size] 3 (0,0))) :
 Calls Tryz.prog 193 #[.pointer (some ⟨B,0,none⟩),.pointer (some ⟨A,0,none⟩)] w (jW w (eK n size).1 (eK n size).2):=by
 unfold eK
 by_cases hs:size<1\/7<size
 ·rw[if_pos hs];exact Ht A B size w hs hB
 ·rw[if_neg hs]
  obtain⟨s,rfl⟩:=Int.eq_ofNat_of_zero_le (show 0≤size by omega);have e1:(8*(s:Int)).toNat=8*s:=by omega
  rw[e1]
  by_cases hn:n<0\/n / 2 ^ (8*s)≠0
  ·rw[if_pos hn];exact FE A B s n w (by omega) (by omega) hn hA hB
  ·rw[if_neg hn]
   obtain⟨m,rfl⟩:=Int.eq_ofNat_of_zero_le (show 0≤n by omega)
   have hm:m<2 ^ (8*s):=by
    have:(m:Int) / 2 ^ (8*s)=0:=by
     rcases Classical.em ((m:Int) / 2 ^ (8*s)=0) with h|h
     ·exact h
     ·exact absurd (.inr h) hn
    have h2:m / 2 ^ (8*s)=0:=by
     have h3:((m / 2 ^ (8*s):Nat):Int)=0:=by simpa using this
     omega
    rcases Nat.lt_or_ge m (2 ^ (8*s)) with h|h
    ·exact h
    ·have:=Nat.div_pos h (Nat.pos_of_ne_zero (by simp));omega
   exact LT A B s m w (by omega) (by omega) hm hA hB
theorem dN.of{w w2:World}{base p:Nat}{v:Value}{r:List UInt8×Int}{e:Ending}{w':World}(hk:aA aB w w2)(h:dN w2 base p v r e w'):dN w base p v r e w':=by
 obtain⟨he,v',h1,h2,h3⟩:=h;refine⟨he,v',h1,hk.trans' h2 (fun _ _ h=>h.elim) (fun _ _ h=>h),?_⟩;rcases h3 with h|⟨g,h,hg⟩
 ·exact .inl h
 ·exact .inr ⟨g,h,Nat.le_trans hk.size hg⟩
theorem FF(n size:Int):(eK n size).1.length≤7:=by
 unfold eK;split
 ·simp
 ·split
  ·simp
  ·rw[bH];omega
theorem tY{p:Nat}{w w2:World}{base:Nat}{v:Value}{r:List UInt8×Int}(hk:aA aB w w2){e:Ending}{w':World}(h:dN w2 base p v r e w'):e=.returned (.tuple #[])/\Hid (dN w base p v r e w'):=
 ⟨h.1,dN.of hk h⟩
theorem mH(p:Nat)(n size:Int)(w:World)(base:Nat)(v:Value)(l:List UInt8)(e:Int)(h:Wr w base p v l e)(hl:l.length≤65536) :
 Calls Tryz.prog 142 #[.pointer (some ⟨p,0,none⟩),.int .i64 n,.int .i64 size] w (dN w base p v (wst (l,e) (eK n size))):=by
 have K:aA aB w ((w.alloc (.cells #[.int .i64 n] 3)).alloc (.cells #[.int .i64 size] 3)):=((aA.refl _ _).alloc _).alloc _;have H2:=h.keep K id (fun _ _ h=>h);have c:=JU w.heap.size (w.heap.size+1) n size ((w.alloc (.cells #[.int .i64 n] 3)).alloc (.cells #[.int .i64 size] 3)) (heap_alloc2_old _ _ _) (heap_alloc2_new _ _ _);have W:=tW p _ 193 _ base v l e H2 hl (fun _=>rfl) _ _ (by have:=FF n size;omega) c;have HW:=O W;have HK:=O K;clear h H2 c W K;go_in;go_wp2_with fail;refine HW.out.mono ?_;rintro e w1 h;obtain⟨rfl,h2⟩:=tY HK.out h;go_wp2_with fail
 go_end0
 exact h2.out
open Go.RowKit
set_option maxRecDepth 100000
theorem EI(w:World):Calls Tryz.prog 140 #[] w fun e w'=>∃p,e=.returned (.pointer (some ⟨p,0,none⟩))/\Wr w' w.heap.size p (.slice none 0 0) [] 0/\aA aB w w'/\w.heap.size≤p:=by
 go_in;go_wp2;go_ret;refine⟨_,rfl,⟨?_,World.ownsRow_nil _ _ _ _,by simp[Value.ownBlock],Nat.le_refl _⟩,(aA.refl _ _).alloc _,Nat.le_refl _⟩;exact heap_alloc_new w _
theorem JV(A:Nat)(bv:Value)(bs:List UInt8)(w:World)(hA:w.heap[A]?=some (.cells #[bv] 109 (0,0)))(hr:Rd w 1 bv bs.length (bs.map vb)) :
 Calls Tryz.prog 192 #[.pointer (some ⟨A,0,none⟩)] w (jW w bs 0):=by
 have hA':=cell_of_one hA;obtain⟨a,c,rfl,-,-⟩:=hr.form;have HR:=O hr;clear hr hA;go_in;go_wp2
 go_ret2
 exact⟨_,rfl,aA.refl _ _,HR.out⟩
theorem rI(p:Nat)(bv:Value)(bs:List UInt8)(w:World)(base:Nat)(v:Value)(l:List UInt8)(e:Int)(h:Wr w base p v l e)(hl:l.length≤65536)(hr:Rd w 1 bv bs.length (bs.map vb))(hb:bs.length≤140737488351232) :
 Calls Tryz.prog 141 #[.pointer (some ⟨p,0,none⟩),bv] w (dN w base p v (wst (l,e) (bs,0))):=by
 have K:aA aB w (w.alloc (.cells #[bv] 109)):=(aA.refl _ _).alloc _;have H2:=h.keep K id (fun _ _ h=>h);have c:=JV w.heap.size bv bs (w.alloc (.cells #[bv] 109)) (heap_alloc_new _ _) (hr.keep K fun _ _=>id);have W:=tW p _ 192 _ base v l e H2 hl (fun _=>rfl) bs 0 hb c;obtain⟨a,cp,rfl,-,-⟩:=hr.form;have HW:=O W;have HK:=O K;clear h H2 c W K hr;go_in;go_wp2_with fail;refine HW.out.mono ?_;rintro e w1 h;obtain⟨rfl,h2⟩:=tY HK.out h;go_wp2_with fail
 go_end0
 exact h2.out
theorem LU(A B p:Nat)(to:Int)(w:World)(base:Nat)(v:Value)(l:List UInt8)(e:Int)(h:Wr w base p v l e)(hto:65536<to\/to<l.length)
 (hA:w.heap[A]?=some (.cells #[.pointer (some ⟨p,0,none⟩)] 214 (0,0))) (hB:w.heap[B]?=some (.cells #[.int .i64 to] 3 (0,0))) :
 Calls Tryz.prog 194 #[.pointer (some ⟨B,0,none⟩),.pointer (some ⟨A,0,none⟩)] w (jW w [] 2):=by
 obtain⟨hp0,hp1,hp2,hf⟩:=h.cells;obtain⟨a,cp,rfl,-,-⟩:=(Rd.of_owns h.own).form;have hA':=cell_of_one hA;have hB':=cell_of_one hB;clear h hA hB
 by_cases h1:65536<to
 ·clear hto
  go_in;go_wp2_with fail
  go_quiet (fail)
  go_wp2
  go_ret2
  exact⟨_,rfl,(aA.refl _ _).drewN _,Rd.nil _ _⟩
 ·have h2:to<l.length:=by omega
  have h1':decide (65536<to)=false:=by simpa using h1
  clear hto;go_in;go_wp2_with fail
  go_quiet (fail)
  go_wp2
  go_ret2
  exact⟨_,rfl,(aA.refl _ _).drewN _,Rd.nil _ _⟩
theorem LV(A B p:Nat)(to:Nat)(w:World)(base:Nat)(v:Value)(l:List UInt8)(e:Int)(h:Wr w base p v l e)(hl:l.length≤to)(hto:to≤65536)
 (hA:w.heap[A]?=some (.cells #[.pointer (some ⟨p,0,none⟩)] 214 (0,0))) (hB:w.heap[B]?=some (.cells #[.int .i64 to] 3 (0,0))) :
 Calls Tryz.prog 194 #[.pointer (some ⟨B,0,none⟩),.pointer (some ⟨A,0,none⟩)] w (jW w (List.replicate (to-l.length) 0) 0):=by
 obtain⟨hp0,hp1,hp2,hf⟩:=h.cells;obtain⟨a,cp,rfl,-,-⟩:=(Rd.of_owns h.own).form;have hA':=cell_of_one hA;have hB':=cell_of_one hB;have h1':decide (65536<(to:Int))=false:=by simp;omega
 have hw:IntKind.i64.wrap ((to:Int)-l.length)=((to-l.length:Nat):Int):=by rw[IntWalk.i64_in _ (by omega)];omega
 clear h hA hB;go_in;go_wp2_with fail
 go_quiet (fail)
 go_wp2_with fail;obtain⟨w2,hw2,c1,cA,cB⟩:∃w2,w.drewN nq=w2/\w2.cell? ⟨p,1,none⟩=some (.slice a l.length cp)/\w2.cell? ⟨A,0,none⟩=some (.pointer (some ⟨p,0,none⟩))/\w2.cell? ⟨B,0,none⟩=some (.int .i64 to):=⟨_,rfl,hp1,hA',hB'⟩
 rw[hw2];have HW2:=O hw2;clear hw2 hp0 hp1 hp2 hA' hB'
 go_still_tail 7,(by kernel_rfl)
 refine qA rfl (.tmp 21) (.tmp 21) 109 rfl w.heap.size 5 _ 1 Tryz.underlying109 fN rfl (to-l.length) (by rfl) (by rfl) (by omega) (by unfold maxLen;omega) (by rw[←HW2.out];exact Nat.le_refl _) ?_;intro w3 hown hk
 have HK:Hid (aA aB w w3):=by
  refine O ?_;have:aA aB w w2:=by rw[←HW2.out];exact(aA.refl _ _).drewN _
  exact this.trans' (show aA aB w2 w3 from⟨hk.os,hk.tape,hk.output,hk.size,hk.block⟩) (fun _ _ h=>h) (fun _ _ h=>h)
 have HO:=O hown;clear hown hk hw;go_wp2
 go_ret2
 refine⟨_,rfl,HK.out,?_⟩;have:=Rd.of_owns HO.out
 simpa [vb] using this
theorem JW(A B p:Nat)(to:Int)(w:World)(base:Nat)(v:Value)(l:List UInt8)(e:Int)(h:Wr w base p v l e)
 (hA:w.heap[A]?=some (.cells #[.pointer (some ⟨p,0,none⟩)] 214 (0,0))) (hB:w.heap[B]?=some (.cells #[.int .i64 to] 3 (0,0))) :
 Calls Tryz.prog 194 #[.pointer (some ⟨B,0,none⟩),.pointer (some ⟨A,0,none⟩)] w (jW w (iL to l).1 (iL to l).2):=by
 unfold iL
 by_cases hto:65536<to\/to<l.length
 ·rw[if_pos hto];exact LU A B p to w base v l e h hto hA hB
 ·rw[if_neg hto]
  obtain⟨n,rfl⟩:=Int.eq_ofNat_of_zero_le (show 0≤to by omega);exact LV A B p n w base v l e h (by omega) (by omega) hA hB
theorem EJ(p:Nat)(to:Int)(w:World)(base:Nat)(v:Value)(l:List UInt8)(e:Int)(h:Wr w base p v l e)(hl:l.length≤65536) :
 Calls Tryz.prog 143 #[.pointer (some ⟨p,0,none⟩),.int .i64 to] w (dN w base p v (wst (l,e) (iL to l))):=by
 have K:aA aB w ((w.alloc (.cells #[.pointer (some ⟨p,0,none⟩)] 214)).alloc (.cells #[.int .i64 to] 3)):=((aA.refl _ _).alloc _).alloc _;have H2:=h.keep K id (fun _ _ h=>h);have c:=JW w.heap.size (w.heap.size+1) p to ((w.alloc (.cells #[.pointer (some ⟨p,0,none⟩)] 214)).alloc (.cells #[.int .i64 to] 3)) base v l e H2 (heap_alloc2_old _ _ _) (heap_alloc2_new _ _ _);have W:=tW p _ 194 _ base v l e H2 hl (fun _=>rfl) _ _ (by have:=FB to l;omega) c;have HW:=O W;have HK:=O K;clear h H2 c W K;go_in;go_wp2_with fail;refine HW.out.mono ?_;rintro e w1 h;obtain⟨rfl,h2⟩:=tY HK.out h;go_wp2_with fail
 go_end0
 exact h2.out
def Lt(w:World)(bs:List UInt8)(e:Ending)(w':World):Prop:=
 ∃v',e=.returned v'/\w'.ownsRow w.heap.size 5 1 v' bs.length (bs.map vb)/\aA aB w w'
theorem AS(bv:Value)(bs:List UInt8)(w:World)(hr:Rd w 1 bv bs.length (bs.map vb))(hb:bs.length≤140737488351232) :
 Calls Tryz.prog 195 #[bv] w (Lt w bs):=by
 obtain⟨hl,a,cap,rfl,h1,h2,h3,h4⟩:=hr;cases a with
 | none =>
   have hc:=h3 rfl;subst hc;have hb0:bs=[]:=List.eq_nil_of_length_eq_zero (by omega);subst hb0;clear h1 h2 h3 h4 hl;have hq:=fun(w:World) (a:Option Addr) (n c:Nat)=>Lib.run_eql_slice_nil (P:=Tryz.prog) w 109 5 a n c 0 0 Tryz.underlying109
   go_in;go_wp2;go_ret;exact⟨_,rfl,World.ownsRow_nil _ _ _ _,aA.refl _ _⟩
 | some ad =>
   have K:aA aB w (w.alloc (.cells #[] 5)):=(aA.refl _ _).alloc _;have HR:=O ((show Rd w 1 (.slice (some ad) bs.length cap) bs.length (bs.map vb) from⟨hl,_,_,rfl,h1,h2,h3,h4⟩).keep K fun _ _=>id);have HK:=O K;have hx1:0+bs.length≤maxLen:=by unfold maxLen;omega
   have HX:=O hx1;clear h1 h2 h3 h4 hl K hx1;have hq:=fun(w:World) (a:Option Addr) (n c:Nat)=>Lib.run_eql_slice_nil (P:=Tryz.prog) w 109 5 a n c 0 0 Tryz.underlying109
   go_in
   go_wp2_with (at_builtin;refine aN rfl (.tmp 5) (.tmp 6) 109 rfl w.heap.size 5 _ 1 1 Tryz.underlying109 fN rfl (by omega) _ 0 [] rfl (World.ownsRow_made w #[] 0 (Nat.le_refl _) (by unfold maxLen;omega) (by simp)) _ bs.length (bs.map vb) rfl HR.out (bN _) HX.out (by omega) (by simp) ?_;intro v' w2 hown2 hk2 hnil hat;obtain⟨a3,c3,rfl,-,-⟩:=(Rd.of_owns hown2).form;have HO:=O hown2;have HK2:=O hk2;clear hown2 hk2 hnil hat)
   go_ret;refine⟨_,rfl,by simpa using HO.out,HK.out.trans' HK2.out (fun _ _ h=>h) (fun i hi h=>?_)⟩;have h':w.heap.size=i:=Option.some.inj h;omega
def Fit(p:Value->Prop)(w:World)(v:Value):Prop:=∀g cur e fr,v.ownBlock=some g->w.heap[g]?=some (.cells cur e fr)->∀c∈cur.toList,p c
theorem Fit.nil(p:Value->Prop)(w:World):Fit p w (.slice none 0 0):=fun _ _ _ _ h=>by cases h
theorem Fit.keep{p:Value->Prop}{S:Nat->Prop}{w w':World}{v:Value}(h:Fit p w v)(hk:aA S w w')(hlt:∀g,v.ownBlock=some g->g<w.heap.size/\¬S g):Fit p w' v:=by
 intro g cur e fr hg hc;obtain⟨h1,h2⟩:=hlt g hg;rw[hk.block g h1 h2] at hc;exact h g cur e fr hg hc
theorem Fit.made{p:Value->Prop}(w:World)(l:List Value)(t:TypeId)(fr:Nat×Nat)(n c:Nat)(h:∀u∈l,p u):Fit p (w.alloc (.cells l.toArray t fr)) (.slice (some ⟨w.heap.size,0,none⟩) n c):=by
 intro g cur e fr hg hc;have:w.heap.size=g:=by simpa [Value.ownBlock] using hg
 subst this;rw[heap_alloc_new] at hc;cases hc
 simpa using h
theorem BG{z:Array Value}{n:Nat}{c:Value}(hz:0<z.size)(h:c∈(Builtin.zeroCells z n).toList):c∈z.toList:=by
 simp only[Builtin.zeroCells,Array.toList_map,List.mem_map] at h;obtain⟨i,-,rfl⟩:=h;have hlt:i % z.size<z.size:=Nat.mod_lt _ hz;rw[getElem!_pos z _ hlt];exact Array.getElem_mem_toList hlt
section
variable {P:Program}(w:World)
theorem Af(base:Nat)(t ty e:TypeId)(i:TypeInfo)(z:Value)(ht:P.underlying t=some (.slice e))(hi:P.info? e=some i)(hz:i.zero=some z)(hzs:z.cells.size=i.size)(hsz:0<i.size)
 (v:Value) (n:Nat) (xs:List Value) (hown:w.ownsRow base e i.size v n xs)
 (a:Addr) (m c:Nat) (news:List Value) (hl:news.length=m*i.size) (hnews:∀j u,news[j]?=some u->w.cell? (a.add j)=some u) (h1:∀u∈news,u.oneCell'=true)
 (h63:n+m≤maxLen) (hbytes:(n+m)*i.bytes≤140737488355328) (p:Value->Prop) (hpz:∀u∈z.cells.toList,p u) (hpn:∀u∈news,p u) (hf:Fit p w v) :
 ∃v' w',(Builtin.append_ #[t,t] ty #[v,.slice (some a) m c]).run P w=.ok v' w'/\Fit p w' v':=by
 have h63':n+m≤9223372036854775807:=by simpa [maxLen] using h63
 have hz0:0<z.cells.size:=by rw[hzs];exact hsz
 have fresh:∀(cs:List Value) (k cap:Nat),(∀u∈cs,p u)->Fit p (w.drew.alloc (.cells (cs.toArray++Builtin.zeroCells z.cells k) e)) (.slice (some ⟨w.heap.size,0,none⟩) (n+m) cap):=by
  intro cs k cap hcs g cur e' fr hg hc;have:w.heap.size=g:=by simpa [Value.ownBlock] using hg
  subst this;rw[show w.heap.size=w.drew.heap.size from rfl,heap_alloc_new] at hc;cases hc
  intro u hu;simp only[Array.toList_append,List.mem_append] at hu;rcases hu with hu|hu
  ·exact hcs u hu
  ·exact hpz u (BG hz0 hu)
 rcases hown.2 with⟨rfl,rfl⟩|⟨g,cap,cur,rfl,hbg,hg,hnc,hcm,hcs,htake⟩
 ·by_cases hm:m=0
  ·subst hm
   have hn:news=[]:=List.eq_nil_of_length_eq_zero (by simpa using hl);subst hn;refine⟨.slice none 0 0,w,?_,Fit.nil p w⟩;simp[Builtin.append_,run_underlying ht,sizeOf,typeInfo,hi,Builtin.lenOf,Builtin.firstCells,loadCells,loadCellsFrom]
  ·refine⟨_,_,run_append_nil (P:=P) w t ty e i z ht hi hz a m c news hl hnews (by omega) (by omega) (by rw[Nat.zero_add] at hbytes;omega),?_⟩
   have:=fresh news (grownCap w m 0 e-m) (grownCap w m 0 e) hpn
   rwa [Nat.zero_add] at this
 ·have hcur:∀u∈cur.toList,p u:=hf g cur e (0,0) rfl hg
  by_cases hroom:n+m≤cap
  ·refine⟨_,_,run_append_room (P:=P) w t ty e i ht hi g n cap cur hg a m c news hl hnews h1 hroom (by rw[hl,hcs,←Nat.add_mul];exact Nat.mul_le_mul_right _ hroom),?_⟩
   intro g' cur' e' fr hg' hc;have:g=g':=by simpa [Value.ownBlock] using hg'
   subst this;rw[setRow_heap w g cur _ e _ hg] at hc;cases hc
   intro u hu;simp only[List.mem_append] at hu;rcases hu with (hu|hu)|hu
   ·exact hcur u (List.mem_of_mem_take hu)
   ·exact hpn u hu
   ·exact hcur u (List.mem_of_mem_drop hu)
  ·refine⟨_,_,run_append_grow (P:=P) w t ty e i z ht hi hz ⟨g,0,none⟩ n cap xs hown.1 (hown.cells (g:=g) rfl) a m c news hl hnews (by omega) (by omega) (growslice_fits (by omega) hbytes),?_⟩
   have hfr:=fresh (xs++news) (grownCap w (n+m) cap e-(n+m)) (grownCap w (n+m) cap e) ?_
   ·rwa [show (xs++news).toArray=xs.toArray++news.toArray by simp] at hfr
   intro u hu;rcases List.mem_append.1 hu with hu|hu
   ·rw[←htake] at hu;exact hcur u (List.mem_of_mem_take hu)
   ·exact hpn u hu
end
theorem kH{P:Program}{w:World}{ops:Array Oper}{rest:List Oper}{o:Oper}{a:Act}{Q:Exit->Act->World->Prop}(hgd:o.guard=none)(s x:Operand)(t:TypeId)
 (ho:o.op=.call { callee:=.builtin .append,args:=#[s,x],argTypes:=#[t,t] })
 (base:Nat) (e:TypeId) (z:Value) (size bytes:Nat) (ht:P.underlying t=some (.slice e)) (hinf:(P.info? e).map (fun i=>(i.zero,i.size,i.bytes))=some (some z,size,bytes)) (hzs:z.cells.size=size) (hsz:0<size)
 (v:Value) (n:Nat) (xs:List Value) (hs:a.eval s=v) (hown:w.ownsRow base e size v n xs)
 (v2:Value) (m:Nat) (news:List Value) (hx:a.eval x=v2) (hrd:Rd w size v2 m news) (h1:∀u∈news,u.oneCell'=true)
 (h63:n+m≤maxLen) (hbytes:(n+m)*bytes≤140737488355328) (hbase:base≤w.heap.size) (p:Value->Prop) (hpz:∀u∈z.cells.toList,p u) (hpn:∀u∈news,p u) (hf:Fit p w v)
 (h:∀v' w',w'.ownsRow base e size v' (n+m) (xs++news)->aA (fun k=>v.ownBlock=some k) w w' ->
   (v'=.slice none 0 0↔v=.slice none 0 0/\m=0) ->
   (v'.ownBlock=v.ownBlock\/v'.ownBlock=some w.heap.size)->Fit p w' v'->wpList P ops Q rest (a.put o.dst v') w'):wpList P ops Q (o::rest) a w:=by
 obtain⟨i,hi,hz0,hz1,hz2⟩:=info_parts hinf;subst hz1;subst hz2;obtain⟨hlen,ad,cap,rfl,h2,h3,h4,h5⟩:=hrd;cases ad with
 | none =>
   have hc:=h4 rfl;have hl:m=0:=by omega
   subst hl;have hn:news=[]:=List.eq_nil_of_length_eq_zero (by simpa using hlen);subst hn;subst hc;exact wpList_append_own_none hgd s x t ho base e i _ ht hi v n xs hs hown hx (h v w (by simpa using hown) (aA.refl _ _) (by simp) (.inl rfl) hf)
 | some ad =>
   have hcells:∀j u,news[j]?=some u->w.cell? (ad.add j)=some u:=by
    intro j u hu
    have hlen:0<news.length:=by
     rcases Nat.eq_zero_or_pos news.length with h0|h0
     ·rw[List.eq_nil_of_length_eq_zero h0] at hu;simp at hu
     ·exact h0
    obtain⟨g,o',hh,hc⟩:=h5 hlen;cases hh
    rw[lB];exact hc j u hu
   refine wpList_plain hgd fun K hK=>?_
   obtain⟨v',w',hr,g2,g3,g4,g5⟩:=run_append_own_at (P:=P) w base t o.type e i z _ _ ht hi hz0 rfl rfl hzs hsz v n xs hown ad m cap news hlen hcells h1 h63 hbytes hbase;obtain⟨v'',w'',hr',g6⟩:=Af (P:=P) w base t o.type e i z ht hi hz0 hzs hsz v n xs hown ad m cap news hlen hcells h1 h63 hbytes p hpz hpn hf;rw[hr] at hr';cases hr'
   unfold Oper.wp;simp[execOp,ho,resolve,invoke,builtin,hs,hx,hr,Result.andThen];exact hK _ _ (h v' w' g2 (aA.of_grown g3) g4 g5 g6)
open Go.RowKit
set_option maxRecDepth 100000
def IsB(u:Value):Prop:=∃b:UInt8,u=vb b
theorem Ag(l:List UInt8):∀u∈l.map vb,IsB u:=by
 intro u hu;obtain⟨b,-,rfl⟩:=List.mem_map.1 hu;exact⟨b,rfl⟩
theorem xB:∀u∈(Value.int IntKind.u8 0).cells.toList,IsB u:=by
 intro u hu;have:u=.int .u8 0:=by simpa [Value.cells] using hu
 exact⟨0,this⟩
def Nk(w:World)(bs:List UInt8)(e:Ending)(w':World):Prop:=
 ∃v',e=.returned v'/\w'.ownsRow w.heap.size 5 1 v' bs.length (bs.map vb)/\aA aB w w'/\Fit IsB w' v'
theorem Ig(bv:Value)(bs:List UInt8)(w:World)(hr:Rd w 1 bv bs.length (bs.map vb))(hb:bs.length≤140737488351232) :
 Calls Tryz.prog 195 #[bv] w (Nk w bs):=by
 obtain⟨hl,a,cap,rfl,h1,h2,h3,h4⟩:=hr;cases a with
 | none =>
   have hc:=h3 rfl;subst hc;have hb0:bs=[]:=List.eq_nil_of_length_eq_zero (by omega);subst hb0;clear h1 h2 h3 h4 hl;have hq:=fun(w:World) (a:Option Addr) (n c:Nat)=>Lib.run_eql_slice_nil (P:=Tryz.prog) w 109 5 a n c 0 0 Tryz.underlying109
   go_in;go_wp2;go_ret;exact⟨_,rfl,World.ownsRow_nil _ _ _ _,aA.refl _ _,Fit.nil _ _⟩
 | some ad =>
   have K:aA aB w (w.alloc (.cells #[] 5)):=(aA.refl _ _).alloc _;have HR:=O ((show Rd w 1 (.slice (some ad) bs.length cap) bs.length (bs.map vb) from⟨hl,_,_,rfl,h1,h2,h3,h4⟩).keep K fun _ _=>id);have HK:=O K;have hx1:0+bs.length≤maxLen:=by unfold maxLen;omega
   have HX:=O hx1;clear h1 h2 h3 h4 hl K hx1;have hq:=fun(w:World) (a:Option Addr) (n c:Nat)=>Lib.run_eql_slice_nil (P:=Tryz.prog) w 109 5 a n c 0 0 Tryz.underlying109
   go_in
   go_wp2_with (at_builtin;refine kH rfl (.tmp 5) (.tmp 6) 109 rfl w.heap.size 5 _ 1 1 Tryz.underlying109 fN rfl (by omega) _ 0 [] rfl (World.ownsRow_made w #[] 0 (Nat.le_refl _) (by unfold maxLen;omega) (by simp)) _ bs.length (bs.map vb) rfl HR.out (bN _) HX.out (by omega) (by simp) IsB xB (Ag bs) (Fit.made w [] 5 (0,0) 0 0 (by simp)) ?_;intro v' w2 hown2 hk2 hnil hat hft;obtain⟨a3,c3,rfl,-,-⟩:=(Rd.of_owns hown2).form;have HO:=O hown2;have HK2:=O hk2;have HF2:=O hft;clear hown2 hk2 hnil hat hft)
   go_ret;refine⟨_,rfl,by simpa using HO.out,HK.out.trans' HK2.out (fun _ _ h=>h) (fun i hi h=>?_),by simpa using HF2.out⟩;have h':w.heap.size=i:=Option.some.inj h;omega
def Kb(w:World)(l:List UInt8)(er:Int)(e:Ending)(w':World):Prop:=
 ∃v',e=.returned (.tuple #[v',.int .i64 er])/\w'.ownsRow w.heap.size 5 1 v' (if er=0 then l else []).length ((if er=0 then l else []).map vb)/\aA aB w w'/\Fit IsB w' v'
theorem EP(p:Nat)(w:World)(base:Nat)(v:Value)(l:List UInt8)(e:Int)(h:Wr w base p v l e)(hl:l.length≤65536) :
 Calls Tryz.prog 144 #[.pointer (some ⟨p,0,none⟩)] w (Kb w l e):=by
 obtain⟨hp0,hp1,hp2,hf⟩:=h.cells
 by_cases he:e=0
 ·subst he
  have c:=Ig v l w (Rd.of_owns h.own) (by omega);have C:=O c;clear c;obtain⟨a,cp,rfl,-,-⟩:=(Rd.of_owns h.own).form;clear h;go_in;go_wp2_with fail;refine C.out.mono ?_;rintro e w1 ⟨v',rfl,hown,hk,hft⟩;have HO:=O hown;have HK:=O hk;have HF:=O hft;obtain⟨a3,c3,rfl,-,-⟩:=(Rd.of_owns hown).form;clear hown hk hft;go_wp2
  go_ret2
  exact⟨_,rfl,HO.out,HK.out,HF.out⟩
 ·have he1:(e != 0)=true:=by simp[he]
  have HE:=O he;clear he h;go_in;go_wp2_with fail
  go_quiet (fail)
  go_wp2
  go_ret2
  refine⟨_,rfl,?_,(aA.refl _ _).drewN _,Fit.nil _ _⟩;rw[if_neg HE.out];exact World.ownsRow_nil _ _ _ _
def xC(l:List UInt8):ByteArray:=⟨l.toArray⟩
theorem EQ{w:World}{v:Value}{l:List UInt8}(h:Rd w 1 v l.length (l.map vb)):Sem.run Tryz.prog (convert 109 9 v) w=.ok (.string (xC l)) w:=by
 obtain⟨h0,a,cap,rfl,h1,h2,h3,h4⟩:=h;rcases Nat.eq_zero_or_pos l.length with hz|hz
 ·have:l=[]:=List.eq_nil_of_length_eq_zero hz
  subst this;cases a with
  | none=>exact run_convert_bytes_nil w _ 5 Tryz.underlying109 Tryz.underlying5 _ _ _ Tryz.underlying9
  | some a =>
    rw[run_convert_bytes_string w _ _ 5 _ _ _ Tryz.underlying109 Tryz.underlying5 Tryz.underlying9];exact run_bytesToString w a 0 cap [] rfl
 ·obtain⟨g,o,rfl,hc⟩:=h4 (by simpa using hz)
  have:=run_convert_bytes_arg (P:=Tryz.prog) w 109 5 Tryz.underlying109 Tryz.underlying5 g o l.length cap (l.map fun b=>(b.toNat:Int)) (by simp) (fun i hi=>by
   rw[hc i (vb l[i]) (by simp[hi])];simp[vb,List.getD,hi]) _ Tryz.underlying9
  rw[this];simp[strOfNums,xC,Function.comp_def]
theorem Mc(a b:List UInt8):((xC a).toList == (xC b).toList)=decide (a=b):=by
 unfold xC;rw[ByteArray.toList_mk,ByteArray.toList_mk]
 by_cases h:a=b
 ·subst h;simp
 ·simp[h]
theorem mJ(w:World)(av bv:Value)(xs ys:List UInt8)(ha:Rd w 1 av xs.length (xs.map vb))(hb:Rd w 1 bv ys.length (ys.map vb))(b:Bool)(he:decide (xs=ys)=b) :
 Calls Tryz.prog 92 #[av,bv] w (fun e w'=>e=.returned (.bool b)/\w=w'):=by
 have k1:=EQ ha;have k2:=EQ hb;have HE:=O (show ((xC xs).toList == (xC ys).toList)=b by rw[Mc];exact he);clear he;obtain⟨a1,c1,rfl,-,-⟩:=ha.form;obtain⟨a2,c2,rfl,-,-⟩:=hb.form;clear ha hb;go_in;go_wp2;go_ret;exact⟨by rw[←HE.out];rfl,rfl⟩
theorem bZ(n lo hi:Int)(w:World)(b:Bool)(hb:decide (lo≤n/\n≤hi)=b) :
 Calls Tryz.prog 216 #[.int .i64 n,.int .i64 lo,.int .i64 hi] w (fun e w'=>e=.returned (.bool b)/\w=w'):=by
 by_cases h1:lo≤n
 ·by_cases h2:n≤hi
  ·obtain rfl:true=b:=by rw[←hb];simp[h1,h2]
   clear hb;have h3:decide (lo≤n)=true:=by simpa using h1
   have h4:decide (n≤hi)=true:=by simpa using h2
   go_in;go_wp2;go_ret;exact⟨rfl,rfl⟩
  ·obtain rfl:false=b:=by rw[←hb];simp[h1,h2]
   clear hb;have h3:decide (lo≤n)=true:=by simpa using h1
   have h4:decide (n≤hi)=false:=by simpa using h2
   go_in;go_wp2;go_ret;exact⟨rfl,rfl⟩
 ·obtain rfl:false=b:=by rw[←hb];simp[h1]
  clear hb;have h3:decide (lo≤n)=false:=by simpa using h1
  go_in;go_wp2;go_ret;exact⟨rfl,rfl⟩
def Lab.nums(L:Lab):List Value:=[.int .i64 L.dev,.int .i64 L.devs,.int .i64 L.copies,.int .i64 L.sectors,.int .i64 L.life]
def Lab.cells(L:Lab):List Value:=L.pool.map vb++L.nums
theorem Lab.cells_length(L:Lab)(h:L.pool.length=32):L.cells.length=37:=by simp[Lab.cells,Lab.nums,h]
theorem Lab.cells_num(L:Lab)(h:L.pool.length=32)(i:Nat):L.cells[32+i]?=L.nums[i]?:=by
 simp only[Lab.cells,List.getElem?_append,List.length_map,h];rw[if_neg (by omega),show 32+i-32=i by omega]
theorem Lab.cells_pool(L:Lab)(h:L.pool.length=32)(i:Nat)(hi:i<32):L.cells[i]?=(L.pool.map vb)[i]?:=by
 simp[Lab.cells,List.getElem?_append,h,hi]
theorem Lab.at(L:Lab)(h:L.pool.length=32):L.cells.toArray[32]?=some (.int .i64 L.dev)/\L.cells.toArray[33]?=some (.int .i64 L.devs)/\L.cells.toArray[34]?=some (.int .i64 L.copies) /\
 L.cells.toArray[35]?=some (.int .i64 L.sectors)/\L.cells.toArray[36]?=some (.int .i64 L.life):=by
 refine⟨?_,?_,?_,?_,?_⟩<;>rw[List.getElem?_toArray]
 ·exact L.cells_num h 0
 ·exact L.cells_num h 1
 ·exact L.cells_num h 2
 ·exact L.cells_num h 3
 ·exact L.cells_num h 4
theorem Iv(cs:Array Value)(dev devs copies sectors life:Int)(w:World)(c0:cs[32]?=some (.int .i64 dev))(c1:cs[33]?=some (.int .i64 devs))(c2:cs[34]?=some (.int .i64 copies))(c3:cs[35]?=some (.int .i64 sectors))(c4:cs[36]?=some (.int .i64 life))
 (h1:¬(2≤devs/\devs≤8)) :
 Calls Tryz.prog 168 #[.agg cs] w (fun e w'=>e=.returned (.int .i64 2)/\w.alloc (.cells cs 192)=w'):=by
 go_in;go_wp2_with fail;refine(bZ _ _ _ _ false (by simp;omega)).mono ?_;rintro e w' ⟨rfl,rfl⟩;go_wp2;go_ret;exact⟨rfl,rfl⟩
theorem Iw(cs:Array Value)(dev devs copies sectors life:Int)(w:World)(c0:cs[32]?=some (.int .i64 dev))(c1:cs[33]?=some (.int .i64 devs))(c2:cs[34]?=some (.int .i64 copies))(c3:cs[35]?=some (.int .i64 sectors))(c4:cs[36]?=some (.int .i64 life))
 (h1:2≤devs/\devs≤8) (h2:¬(0≤dev/\dev≤devs-1)) :
 Calls Tryz.prog 168 #[.agg cs] w (fun e w'=>e=.returned (.int .i64 2)/\w.alloc (.cells cs 192)=w'):=by
 go_in;go_wp2_with fail;refine(bZ _ _ _ _ true (by simp;omega)).mono ?_;rintro e w' ⟨rfl,rfl⟩;go_wp2_with fail;refine(bZ _ _ _ _ false (by simp;omega)).mono ?_;rintro e w' ⟨rfl,rfl⟩;go_wp2;go_ret;exact⟨rfl,rfl⟩
theorem Iy(cs:Array Value)(dev devs copies sectors life:Int)(w:World)(c0:cs[32]?=some (.int .i64 dev))(c1:cs[33]?=some (.int .i64 devs))(c2:cs[34]?=some (.int .i64 copies))(c3:cs[35]?=some (.int .i64 sectors))(c4:cs[36]?=some (.int .i64 life))
 (h1:2≤devs/\devs≤8) (h2:0≤dev/\dev≤devs-1) (h3:¬(1≤copies/\copies≤3/\copies≤devs)) :
 Calls Tryz.prog 168 #[.agg cs] w (fun e w'=>e=.returned (.int .i64 2)/\w.alloc (.cells cs 192)=w'):=by
 go_in;go_wp2_with fail;refine(bZ _ _ _ _ true (by simp;omega)).mono ?_;rintro e w' ⟨rfl,rfl⟩;go_wp2_with fail;refine(bZ _ _ _ _ true (by simp;omega)).mono ?_;rintro e w' ⟨rfl,rfl⟩;go_wp2_with fail
 all_goals
  refine(bZ _ _ _ _ false (by simp;omega)).mono ?_;rintro e w' ⟨rfl,rfl⟩;go_wp2;go_ret;exact⟨rfl,rfl⟩
theorem Iz(cs:Array Value)(dev devs copies sectors life:Int)(w:World)(c0:cs[32]?=some (.int .i64 dev))(c1:cs[33]?=some (.int .i64 devs))(c2:cs[34]?=some (.int .i64 copies))(c3:cs[35]?=some (.int .i64 sectors))(c4:cs[36]?=some (.int .i64 life))
 (h1:2≤devs/\devs≤8) (h2:0≤dev/\dev≤devs-1) (h3:1≤copies/\copies≤3/\copies≤devs) (h4:¬(8≤sectors/\sectors≤4096)) :
 Calls Tryz.prog 168 #[.agg cs] w (fun e w'=>e=.returned (.int .i64 2)/\w.alloc (.cells cs 192)=w'):=by
 go_in;go_wp2_with fail;refine(bZ _ _ _ _ true (by simp;omega)).mono ?_;rintro e w' ⟨rfl,rfl⟩;go_wp2_with fail;refine(bZ _ _ _ _ true (by simp;omega)).mono ?_;rintro e w' ⟨rfl,rfl⟩;go_wp2_with fail
 all_goals
  refine(bZ _ _ _ _ true (by simp;omega)).mono ?_;rintro e w' ⟨rfl,rfl⟩;go_wp2_with fail;refine(bZ _ _ _ _ false (by simp;omega)).mono ?_;rintro e w' ⟨rfl,rfl⟩;go_wp2;go_ret;exact⟨rfl,rfl⟩
theorem IA(cs:Array Value)(dev devs copies sectors life:Int)(w:World)(c0:cs[32]?=some (.int .i64 dev))(c1:cs[33]?=some (.int .i64 devs))(c2:cs[34]?=some (.int .i64 copies))(c3:cs[35]?=some (.int .i64 sectors))(c4:cs[36]?=some (.int .i64 life))
 (h1:2≤devs/\devs≤8) (h2:0≤dev/\dev≤devs-1) (h3:1≤copies/\copies≤3/\copies≤devs) (h4:8≤sectors/\sectors≤4096) (h5:¬(0≤life/\life≤2147483648)) :
 Calls Tryz.prog 168 #[.agg cs] w (fun e w'=>e=.returned (.int .i64 2)/\w.alloc (.cells cs 192)=w'):=by
 go_in;go_wp2_with fail;refine(bZ _ _ _ _ true (by simp;omega)).mono ?_;rintro e w' ⟨rfl,rfl⟩;go_wp2_with fail;refine(bZ _ _ _ _ true (by simp;omega)).mono ?_;rintro e w' ⟨rfl,rfl⟩;go_wp2_with fail
 all_goals
  refine(bZ _ _ _ _ true (by simp;omega)).mono ?_;rintro e w' ⟨rfl,rfl⟩;go_wp2_with fail;refine(bZ _ _ _ _ true (by simp;omega)).mono ?_;rintro e w' ⟨rfl,rfl⟩;go_wp2_with fail;refine(bZ _ _ _ _ false (by simp;omega)).mono ?_;rintro e w' ⟨rfl,rfl⟩;go_wp2;go_ret;exact⟨rfl,rfl⟩
theorem IB(cs:Array Value)(dev devs copies sectors life:Int)(w:World)(c0:cs[32]?=some (.int .i64 dev))(c1:cs[33]?=some (.int .i64 devs))(c2:cs[34]?=some (.int .i64 copies))(c3:cs[35]?=some (.int .i64 sectors))(c4:cs[36]?=some (.int .i64 life))
 (h1:2≤devs/\devs≤8) (h2:0≤dev/\dev≤devs-1) (h3:1≤copies/\copies≤3/\copies≤devs) (h4:8≤sectors/\sectors≤4096) (h5:0≤life/\life≤2147483648) :
 Calls Tryz.prog 168 #[.agg cs] w (fun e w'=>e=.returned (.int .i64 0)/\w.alloc (.cells cs 192)=w'):=by
 go_in;go_wp2_with fail;refine(bZ _ _ _ _ true (by simp;omega)).mono ?_;rintro e w' ⟨rfl,rfl⟩;go_wp2_with fail;refine(bZ _ _ _ _ true (by simp;omega)).mono ?_;rintro e w' ⟨rfl,rfl⟩;go_wp2_with fail
 all_goals
  refine(bZ _ _ _ _ true (by simp;omega)).mono ?_;rintro e w' ⟨rfl,rfl⟩;go_wp2_with fail;refine(bZ _ _ _ _ true (by simp;omega)).mono ?_;rintro e w' ⟨rfl,rfl⟩;go_wp2_with fail;refine(bZ _ _ _ _ true (by simp;omega)).mono ?_;rintro e w' ⟨rfl,rfl⟩;go_wp2;go_ret;exact⟨rfl,rfl⟩
theorem uP(L:Lab)(hl:L.pool.length=32)(w:World) :
 Calls Tryz.prog 168 #[.agg L.cells.toArray] w (fun e w'=>e=.returned (.int .i64 (if L.may then 0 else 2))/\w.alloc (.cells L.cells.toArray 192)=w'):=by
 obtain⟨c0,c1,c2,c3,c4⟩:=L.at hl
 by_cases h1:2≤L.devs/\L.devs≤8
 ·by_cases h2:0≤L.dev/\L.dev≤L.devs-1
  ·by_cases h3:1≤L.copies/\L.copies≤3/\L.copies≤L.devs
   ·by_cases h4:8≤L.sectors/\L.sectors≤4096
    ·by_cases h5:0≤L.life/\L.life≤2147483648
     ·rw[show L.may=true by simp only[Lab.may,h1,h2,h3,h4,h5];decide];exact IB _ _ _ _ _ _ w c0 c1 c2 c3 c4 h1 h2 h3 h4 h5
     ·rw[show L.may=false by simp only[Lab.may,h5];simp];exact IA _ _ _ _ _ _ w c0 c1 c2 c3 c4 h1 h2 h3 h4 h5
    ·rw[show L.may=false by simp only[Lab.may,h4];simp];exact Iz _ _ _ _ _ _ w c0 c1 c2 c3 c4 h1 h2 h3 h4
   ·rw[show L.may=false by simp only[Lab.may,h3];simp];exact Iy _ _ _ _ _ _ w c0 c1 c2 c3 c4 h1 h2 h3
  ·rw[show L.may=false by simp only[Lab.may,h2];simp];exact Iw _ _ _ _ _ _ w c0 c1 c2 c3 c4 h1 h2
 ·rw[show L.may=false by simp only[Lab.may,h1];simp];exact Iv _ _ _ _ _ _ w c0 c1 c2 c3 c4 h1
end
end Go.Proofs.YtiinnfhjpaeffaaGreat
