import Derived.Test.YtoeinblfcbpcmaaGreatDoorC19
import Derived.Test.YtoeinblfcbpcmaaGreatDoorC21
import Derived.Test.YtoeinblfcbpcmaaGreatDoorC30
import Derived.Test.YtoeinblfcbpcmaaGreatDoorC32
namespace Go.Proofs.YtoeinblfcbpcmaaGreatDoor
open Tryz
set_option maxHeartbeats 0
set_option maxRecDepth 100000
set_option linter.unusedVariables false
section
open Go.RowKit Go.Maps Go.ChangeMaps
variable{p sb base at_ j j0 n:Nat}{uv er v uv2:Value}{u:Ub}{w w':World}{b:List UInt8}{fe fa:Int}{aF aR a:Addr}
theorem I6(w:World)(base p:Nat)(v:Value)(l:List UInt8)(at_:Nat)(fe fa:Int)(h:Rdr w base p v l at_ fe fa)(g:fe≠0)(n:Int) :
 Calls prog 167 #[.pointer p,.int .i64 n] w (fun e w'=>e=.returned (.slice none 0 0)/\Rdr w' base p v l at_ fe fa/\aA aB w w'):=by
 have B:∀(x:Fn) (first f:Array Value) (w:World),(Instr.makeFunc x first f).run prog w=.ok (.func x first f) w:=fun _ _ _ _=>rfl
 obtain⟨d,c⟩:=zX9 (((w.alloc (.cells #[.pointer p] 249)).alloc (.cells #[.int .i64 n] 3)).alloc (.cells #[.slice none 0 0] 22))
 have o:aA aB w d:=by rw[←c];exact(((aA.refl _ _).alloc _).alloc _).alloc _
 obtain⟨q,t,r⟩:=EO w (.cells #[.pointer p] 249) (.cells #[.int .i64 n] 3) (.cells #[.slice none 0 0] 22);rw[c] at q t r;have k:=jB d p;have s:=(h.keep o id (fun _ _=>id))
 have C:=O (Bm d base p v l at_ fe fa s g (.func (.func 218) #[] #[.pointer (some ⟨w.heap.size+1,0,none⟩),.pointer (w.heap.size),.pointer (some ⟨w.heap.size+2,0,none⟩)]));have A:d.cell? ⟨w.heap.size,0,none⟩=some (.pointer p):=aC q rfl;have m:=O (k.blk r id);have y:=O (o.trans k);have z:=O (s.keep k id (fun _ _=>id));clear h o q t r s k g;go_in;go_wp2_with fail;refine C.out.mono ?_;rintro e F ⟨rfl,D⟩;subst D;clear c C;have E:=aC (i:=0) (v:=.slice none 0 0) m.out rfl;go_wp2;go_ret;exact⟨rfl,z.out,y.out⟩
def eA(p:Nat)(uv:Value)(u:Ub)(er:Value):List Value:=.pointer p::(aV uv u++[er])
theorem oH(c:u.pool.length=32)(d:u.root.sum.length=32):(eA p uv u er).length=71:=by simp[eA,bZ d c]
structure StW(w wr:World)(sb base p:Nat)(v:Value)(b:List UInt8)(at_:Nat)(fe fa:Int)(uv:Value)(u:Ub)(er:Value):Prop where
 st:wr.heap[sb]?=some (.cells (eA p uv u er).toArray 329 (0,0))
 rd:Rdr wr base p v b at_ fe fa
 pool:u.pool.length=32
 sum:u.root.sum.length=32
 keep:aA aB w wr
 lb:w.heap.size≤base
 ls:w.heap.size≤sb
theorem StW.same{wr:World}(h:StW w wr sb base p v b at_ fe fa uv u er)(k:aA aB wr w'):StW w w' sb base p v b at_ fe fa uv u er:=
 ⟨k.blk h.st id,h.rd.keep k id (fun _ _=>id),h.pool,h.sum,h.keep.trans k,h.lb,h.ls⟩
theorem StW.read{wr:World}{c:Nat}{f d:Int}(h:StW w wr sb base p v b at_ fe fa uv u er)(k:aA (fun i=>i=p) wr w')(g:Rdr w' base p v b c f d):StW w w' sb base p v b c f d uv u er:=by
 refine⟨k.blk h.st ?_,g,h.pool,h.sum,h.keep.tT k (fun i l e=>?_),h.lb,h.ls⟩
 ·rintro rfl
  have:=h.rd.blk;rw[h.st] at this;cases this
 ·have:=h.rd.le
  have:=h.lb;omega
theorem StW.put{wr:World}{d:Ub}{c:Value}(h:StW w wr sb base p v b at_ fe fa uv u er)(k:aA (fun i=>i=sb) wr w')
 (hs:w'.heap[sb]?=some (.cells (eA p uv2 d c).toArray 329 (0,0))) (l:d.pool.length=32) (m:d.root.sum.length=32):StW w w' sb base p v b at_ fe fa uv2 d c:=by
 have r:=h.ls;refine⟨hs,h.rd.keep k ?_ (fun g o e=>?_),l,m,h.keep.tT k (fun i q e=>by omega),h.lb,h.ls⟩
 ·intro e
  have:=h.rd.blk;rw[e,h.st] at this;cases this
 ·subst e
  obtain⟨cur,f⟩:=aH h.rd.own o;rw[h.st] at f;cases f
theorem StW.cell0{wr:World}(h:StW w wr sb base p v b at_ fe fa uv u er):wr.cell? ⟨sb,0,none⟩=some (.pointer p):=aC h.st rfl
theorem Lz(p:Nat)(uv er:Value)(u:Ub)(s:List UInt8)(c:u.pool.length=32)(d:u.root.sum.length=32)(hs:s.length=32):spl (eA p uv u er).toArray 38 (s.map vb)=(eA p uv ⟨u.txg,u.root,u.len,s⟩ er).toArray:=by
 apply Array.ext_getElem?;intro j;have g:(s.map vb).length=32:=by rw[List.length_map,hs]
 rw[jR _ _ _ _ (by rw[List.size_toArray,oH c d,g];omega),g];have h:(aL uv u.root).length=35:=bB d;have e:∀(x:List UInt8),eA p uv ⟨u.txg,u.root,u.len,x⟩ er=(.pointer p::.int .i64 u.txg::(aL uv u.root++[.int .i64 u.len]))++(x.map vb++[er]):=fun x=>by simp[eA,aV]
 have f:((.pointer p:Value)::.int .i64 u.txg::(aL uv u.root++[.int .i64 u.len])).length=38:=by simp[h]
 rw[show eA p uv u er=eA p uv ⟨u.txg,u.root,u.len,u.pool⟩ er from rfl,e,e];simp only[List.getElem?_toArray]
 by_cases k:j<38
 ·rw[if_neg (by omega),List.getElem?_append_left (by omega),List.getElem?_append_left (by omega)]
 ·by_cases l:j<70
  ·rw[if_pos (by omega),List.getElem?_append_right (by omega),f,List.getElem?_append_left (by omega)]
  ·have key:∀x:List UInt8,x.length=32->((.pointer p::.int .i64 u.txg::(aL uv u.root++[.int .i64 u.len]))++(x.map vb++[er]))[j]?=[er][j-38-32]?:=fun x i=>by
    rw[List.getElem?_append_right (by omega),f,List.getElem?_append_right (by rw[List.length_map];omega),List.length_map,i]
   rw[if_neg (by omega),key _ c,key _ hs]
theorem NK(p:Nat)(uv er:Value)(u:Ub)(x:Int):(eA p uv u er).toArray.setIfInBounds 1 (.int .i64 x)=(eA p uv ⟨x,u.root,u.len,u.pool⟩ er).toArray:=by rw[List.setIfInBounds_toArray];rfl
theorem LA(p:Nat)(uv er:Value)(u:Ub)(x:Int)(d:u.root.sum.length=32):(eA p uv u er).toArray.setIfInBounds 37 (.int .i64 x)=(eA p uv ⟨u.txg,u.root,x,u.pool⟩ er).toArray:=by
 rw[List.setIfInBounds_toArray];have c:(aL uv u.root).length=35:=bB d;have e:∀y,eA p uv ⟨u.txg,u.root,y,u.pool⟩ er=(.pointer p::.int .i64 u.txg::aL uv u.root)++(.int .i64 y::(u.pool.map vb++[er])):=fun y=>by simp[eA,aV]
 rw[show eA p uv u er=eA p uv ⟨u.txg,u.root,u.len,u.pool⟩ er from rfl,e,e,List.set_append_right _ _ (by simp[c])]
 congr 1
 simp[c]
theorem NL(p:Nat)(uv er:Value)(u:Ub)(c:u.pool.length=32)(d:u.root.sum.length=32)(i:Nat)(e:i<71):∃x,(eA p uv u er).toArray[i]?=some x:=by
 rw[List.getElem?_toArray];exact⟨_,List.getElem?_eq_getElem (by rw[oH c d];exact e)⟩
theorem mK(p:Nat)(uv er:Value)(u:Ub)(c:u.pool.length=32)(d:u.root.sum.length=32):(eA p uv u er).toArray[70]?=some er:=by
 rw[List.getElem?_toArray];have e:(aV uv u).length=69:=bZ d c;unfold eA;rw[List.getElem?_cons_succ,List.getElem?_append_right (by omega),e];rfl
theorem NM(p:Nat)(uv er x:Value)(u:Ub)(c:u.pool.length=32)(d:u.root.sum.length=32):(eA p uv u er).toArray.setIfInBounds 70 x=(eA p uv u x).toArray:=by
 rw[List.setIfInBounds_toArray];have e:(aV uv u).length=69:=bZ d c;unfold eA;rw[List.set_cons_succ,List.set_append_right _ _ (by omega),e];rfl
theorem StW.setTxg{wr:World}(h:StW w wr sb base p v b at_ fe fa uv u er)(x:Int):StW w (wr.setCell ⟨sb,1,none⟩ (.int .i64 x)) sb base p v b at_ fe fa uv ⟨x,u.root,u.len,u.pool⟩ er:=
 h.put ((aA.refl (fun i=>i=sb) wr).setCell (p:=⟨sb,1,none⟩) (fun _=>rfl) _) (by rw[cH h.st,NK]) h.pool h.sum
theorem StW.setLen{wr:World}(h:StW w wr sb base p v b at_ fe fa uv u er)(x:Int):StW w (wr.setCell ⟨sb,37,none⟩ (.int .i64 x)) sb base p v b at_ fe fa uv ⟨u.txg,u.root,x,u.pool⟩ er:=
 h.put ((aA.refl (fun i=>i=sb) wr).setCell (p:=⟨sb,37,none⟩) (fun _=>rfl) _) (by rw[cH h.st,LA _ _ _ _ _ h.sum]) h.pool h.sum
theorem StW.setErr{wr:World}(h:StW w wr sb base p v b at_ fe fa uv u er)(x:Value):StW w (wr.setCell ⟨sb,70,none⟩ x) sb base p v b at_ fe fa uv u x:=
 h.put ((aA.refl (fun i=>i=sb) wr).setCell (p:=⟨sb,70,none⟩) (fun _=>rfl) _) (by rw[cH h.st,NM _ _ _ _ _ h.pool h.sum]) h.pool h.sum
theorem StW.get{wr:World}(h:StW w wr sb base p v b at_ fe fa uv u er)(i:Nat)(c:i<71):∃x,wr.cell? ⟨sb,i,none⟩=some x:=by
 obtain⟨x,d⟩:=NL p uv er u h.pool h.sum i c;exact⟨x,aC h.st d⟩
theorem vO(w wr:World)(sb base p:Nat)(v:Value)(b:List UInt8)(uv er:Value)(u:Ub)(h:StW w wr sb base p v b 0 0 0 uv u er)(Q:b.length=256) :
 Calls prog 233 #[.pointer sb] wr fun e w'=>e=.returned (.pointer sb)/\StW w w' sb base p v b 40 0 0 uv ⟨u.txg,u.root,u.len,(b.drop 8).take 32⟩ er:=by
 have H:=O h;have D:=O Q;have c0:=h.cell0;clear h Q;go_in;go_wp2_with fail;refine(tP wr base p v b 0 0 H.rd 8 (by omega) (by rw[D.out];omega)).mono ?_;rintro e C ⟨W,rfl,-,g,z⟩;have l:=O (H.read z g);clear z g H c0;go_wp2_with fail;obtain⟨S,o⟩:∃S:World->Prop,S=fun w'=>w'.cell? ⟨sb,0,none⟩=some (.pointer p):=⟨_,rfl⟩
 have m:=O (show ∀w' G J I R,StW w w' sb base p v b G J I uv R er->S w' from fun w' _ _ _ _ h=>by rw[o];exact h.cell0);have F:=O (show ∀w',S w'->w'.cell? ⟨sb,0,none⟩=some (.pointer p) from fun w' h=>by rw[o] at h;exact h);clear o;have l:=O (l.same (w':=C.drew) (aA.refl aB C).drew);have f:=m.out _ _ _ _ _ l.out;refine wp_region_held (S:=S) (by kernel_rfl) ?_;change wpAnyH _ _ _ _ _ _ _ _ C.drew;generalize C.drew=T at f l ⊢;refine tka 0 (.pointer sb) rfl f ?_;simp only[Act.put,List.setIfInBounds_toArray,List.set_cons_zero,List.set_cons_succ,List.getElem_toArray,List.getElem_cons_zero];refine tnb 1 (.pointer sb) rfl f ?_;refine tnb 2 (.pointer (some ⟨sb,1,none⟩)) rfl f ?_;refine tnb 3 (.pointer (some ⟨sb,38,none⟩)) rfl f ?_;refine tnb 4 (.slice (some ⟨sb,38,none⟩) 32 32) rfl f ?_;refine tna 5 (.pointer sb) rfl f ?_;refine tnb 6 (.pointer sb) rfl f ?_;refine tnb 7 (.pointer sb) rfl f ?_;refine tnd 8 (.pointer p) rfl (.inl ⟨by rfl,fun w' M=>by have c:=F.out w' M;go_simp⟩) f ?_;refine wA9 9 ?_;go_wp2_with fail;refine(tP T base p v b 8 0 l.rd 32 (by omega) (by rw[D.out];omega)).mono ?_;rintro e Y ⟨X,rfl,k,g,A⟩;have i:=O (l.read A g);have d:=Rd.of_owns k;obtain⟨U,V,rfl,-,-⟩:=d.form;obtain⟨P,x⟩:=zX9 (((b.drop 8).take 32).map vb)
 have r:((b.drop 8).take 32).length=32:=by rw[List.length_take,List.length_drop,D.out];rfl
 have K:P.length=32:=by rw[←x,List.length_map,r]
 have L:∀u∈P,u.oneCell'=true:=by rw[←x];exact bA _
 rw[x] at d;have t:=O d;have E:=O x;have s:=O r;clear d x r k g A l;have y:=m.out _ _ _ _ _ i.out;clear f;go_wp2_with fail;refine⟨y,?_⟩;refine wA9 10 ?_;refine nT rfl (.tmp 12) (.tmp 17) 22 22 rfl 5 underlying22 Ei sb 38 32 32 rfl _ 32 P rfl t.out 32 rfl (eA p uv u er).toArray _ i.st (by rw[List.size_toArray,oH i.pool i.sum];omega) L ?_;intro Z q B;rw[List.take_of_length_le (by rw[K];exact Nat.le_refl _),←E.out,Lz p uv er u _ i.pool i.sum s.out] at q;have N:=O (i.put B q s.out i.sum);clear q B;refine wpList_nil ?_;refine⟨m _ _ _ _ _ N.out,?_⟩;refine wpAnyH_done (by kernel_rfl) ?_ _;clear i t y;go_wp2;go_ret;exact⟨rfl,N.out⟩
theorem vP(w wr:World)(sb base p:Nat)(v:Value)(b:List UInt8)(uv er:Value)(u:Ub)(A l B:Nat)(E C o m F D x y:Int)(h:StW w wr sb base p v b A E C uv u er)
 (U:∀K,StW w K sb base p v b A E C uv u er->Calls prog 168 #[.pointer p,.int .i64 5,.int .i64 1,.int .i64 2147483648] K fun e w'=>e=.returned (.int .i64 x)/\StW w w' sb base p v b l o m uv u er)
 (V:∀K,StW w K sb base p v b l o m uv u er->Calls prog 168 #[.pointer p,.int .i64 3,.int .i64 0,.int .i64 16384] K fun e w'=>e=.returned (.int .i64 y)/\StW w w' sb base p v b B F D uv u er) :
 Calls prog 234 #[.pointer sb] wr fun e w'=>e=.returned (.pointer sb)/\StW w w' sb base p v b B F D uv ⟨x,u.root,y,u.pool⟩ er:=by
 have H:=O h;have N:=O U;have P:=O V;clear h U V;go_in;go_wp2_with fail;obtain⟨S,r⟩:∃S:World->Prop,S=fun w'=>w'.cell? ⟨sb,0,none⟩=some (.pointer p):=⟨_,rfl⟩
 have f:=O (show ∀w' l o m Z,StW w w' sb base p v b l o m uv Z er->S w' from fun w' _ _ _ _ h=>by rw[r];exact h.cell0);have z:=O (show ∀w',S w'->w'.cell? ⟨sb,0,none⟩=some (.pointer p) from fun w' h=>by rw[r] at h;exact h);clear r;have H:=O (H.same (w':=wr.drew) (aA.refl aB wr).drew);have d:=f.out _ _ _ _ _ H.out;refine wp_region_held (S:=S) (by kernel_rfl) ?_;change wpAnyH _ _ _ _ _ _ _ _ wr.drew;generalize wr.drew=w3 at d H ⊢;refine tka 0 (.pointer sb) rfl d ?_;simp only[Act.put,List.setIfInBounds_toArray,List.set_cons_zero,List.set_cons_succ,List.getElem_toArray,List.getElem_cons_zero];refine tna 1 (.pointer sb) rfl d ?_;refine tna 2 (.pointer sb) rfl d ?_;refine tnb 3 (.pointer sb) rfl d ?_;refine tnb 4 (.pointer sb) rfl d ?_;refine tnd 5 (.pointer p) rfl (.inl ⟨by rfl,fun w' s=>by have c:=z.out w' s;go_simp⟩) d ?_;refine tna 7 (.pointer sb) rfl d ?_;refine tnb 8 (.pointer sb) rfl d ?_;refine tnb 9 (.pointer sb) rfl d ?_;refine tnd 10 (.pointer p) rfl (.inl ⟨by rfl,fun w' s=>by have c:=z.out w' s;go_simp⟩) d ?_;refine wA9 6 ?_;go_wp2_with fail;refine(N w3 H.out).mono ?_;rintro e w4 ⟨rfl,q⟩;have W:=O q;have G:=f.out _ _ _ _ _ q;clear d q H;go_wp2_with fail;refine⟨G,?_⟩;refine wA9 11 ?_;go_wp2_with fail;refine(P w4 W.out).mono ?_;rintro e w5 ⟨rfl,q⟩;have L:=O q;have g:=f.out _ _ _ _ _ q;clear G q W;go_wp2_with fail;refine⟨g,?_⟩;refine tnb 12 (.pointer sb) rfl g ?_;refine tnb 13 (.pointer (some ⟨sb,1,none⟩)) rfl g ?_;refine tnb 14 (.pointer (some ⟨sb,1,none⟩)) rfl g ?_;obtain⟨X,Q⟩:=L.get 1 (by omega);have I:=fun i=>bP L.st i
 have t:=O (L.setTxg x);refine wA9 15 ?_;go_wp2_with fail;clear Q I;generalize w5.setCell _ _=w6 at t ⊢;have k:=f.out _ _ _ _ _ t.out;clear L g;refine⟨k,?_⟩;refine tnb 16 (.pointer sb) rfl k ?_;refine tnb 17 (.pointer (some ⟨sb,1,none⟩)) rfl k ?_;refine tnb 18 (.pointer (some ⟨sb,37,none⟩)) rfl k ?_;obtain⟨Y,R⟩:=t.get 37 (by omega);have J:=fun i=>bP t.st i
 have M:=O (t.setLen y);refine wA9 19 ?_;go_wp2_with fail;clear R J;generalize w6.setCell _ _=w7 at M ⊢;have T:=f.out _ _ _ _ _ M.out;clear t k;refine⟨T,?_⟩;refine wpAnyH_done (by kernel_rfl) ?_ _;go_wp2;go_ret;exact⟨rfl,M.out⟩
theorem LB(p:Nat)(uv uv2 er:Value)(u:Ub)(q:Pt)(g:u.pool.length=32)(d:u.root.sum.length=32)(i:q.sum.length=32):spl (eA p uv u er).toArray 2 (aL uv2 q)=(eA p uv2 ⟨u.txg,q,u.len,u.pool⟩ er).toArray:=by
 apply Array.ext_getElem?;intro j;have h:(aL uv u.root).length=35:=bB d;have c:(aL uv2 q).length=35:=bB i;rw[jR _ _ _ _ (by rw[List.size_toArray,oH g d,c];omega),c];have e:∀(x:Value) (r:Pt),eA p x ⟨u.txg,r,u.len,u.pool⟩ er=[.pointer p,.int .i64 u.txg]++(aL x r++(.int .i64 u.len::(u.pool.map vb++[er]))):=fun x r=>by simp[eA,aV]
 rw[show eA p uv u er=eA p uv ⟨u.txg,u.root,u.len,u.pool⟩ er from rfl,e,e];simp only[List.getElem?_toArray];have f:([.pointer p,.int .i64 u.txg]:List Value).length=2:=rfl
 by_cases l:j<2
 ·rw[if_neg (by omega),List.getElem?_append_left (by omega),List.getElem?_append_left (by omega)]
 ·by_cases m:j<37
  ·rw[if_pos (by omega),List.getElem?_append_right (by omega),f,List.getElem?_append_left (by omega)]
  ·have key:∀(x:Value) (r:Pt),(aL x r).length=35->([.pointer p,.int .i64 u.txg]++(aL x r++(.int .i64 u.len::(u.pool.map vb++[er]))))[j]?=(.int .i64 u.len::(u.pool.map vb++[er]))[j-2-35]?:=fun x r k=>by
    rw[List.getElem?_append_right (by omega),f,List.getElem?_append_right (by omega),k]
   rw[if_neg (by omega),key _ _ h,key _ _ c]
theorem StW.setRoot{wr c:World}{q:Pt}(h:StW w wr sb base p v b at_ fe fa uv u er)
 (e:c.heap[sb]?=some (.cells (spl (eA p uv u er).toArray 2 (aL uv2 q)) 329 (0,0))) (f:aA (fun i=>i=sb) wr c) (d:q.sum.length=32):StW w c sb base p v b at_ fe fa uv2 ⟨u.txg,q,u.len,u.pool⟩ er:=
 h.put f (by rw[e,LB _ _ _ _ _ _ h.pool h.sum d]) h.pool d
theorem LC(h:gE b=true):(eS b).sum.length=32:=by
 unfold gE at h;simp only[Bool.and_eq_true,decide_eq_true_eq] at h;show (b.drop 15).length=32;rw[List.length_drop,h.1.1]
theorem LD(w wr:World)(sb base p:Nat)(v:Value)(b:List UInt8)(uv er:Value)(u:Ub)(M N:Nat)(R P S Q:Int)(o:List UInt8)(hB:gE o=true)(h:StW w wr sb base p v b M R P uv u er)
 (C1:∀wx,StW w wx sb base p v b M R P uv u er->Calls prog 167 #[.pointer p,.int .i64 47] wx fun e w'=>∃bv,e=.returned bv/\Rd w' 1 bv o.length (o.map vb)/\StW w w' sb base p v b N S Q uv u er) :
 Calls prog 235 #[.pointer sb] wr fun e w'=>e=.returned (.pointer sb)/\∃uv2,StW w w' sb base p v b N S Q uv2 ⟨u.txg,eS o,u.len,u.pool⟩ er/\w'.ownsRow w.heap.size 93 2 uv2 (eS o).addrs.length (aJ (eS o).addrs):=by
 have H:=O (C1 wr h);have HB:=O hB;have s:=O (LC hB);have HW:=O h.keep.size;have c0:=h.cell0;clear h C1 hB;go_in;go_wp2_with fail;refine H.mono ?_;rintro e w2 ⟨bv,rfl,D,h2⟩;have H2:=O h2;have K:=O D;obtain⟨a2,qr,rfl,-,-⟩:=D.form;clear D h2 c0 H;go_wp2_with fail;refine(C0 w2 _ o K.out).mono ?_;rintro e w3 ⟨W,F⟩;rw[if_pos HB.out] at F;obtain⟨uv2,rfl,d⟩:=F;have d:=aQ d (H2.keep.size);have H3:=O (H2.same W);have r:=O d;obtain⟨oa,ca,ql,-,-⟩:=(Rd.of_owns d).form;subst ql;obtain⟨q,F⟩:=zX9 (eS o)
 have HQ:=O F;rw[F] at r s ⊢;obtain⟨m,hm⟩:=zX9 q.addrs.length
 have HM:=O hm;rw[hm] at r ⊢;obtain⟨pc,f⟩:=zX9 (aL (.slice oa m ca) q)
 have c:pc.length=35:=by rw[←f];exact bB s.out
 have Y:∀u∈pc,u.oneCell'=true:=by rw[←f];exact dE _
 have qh:=O f;rw[f];clear W d H2 K F hm f;obtain⟨w4,qm,k4,y,s4⟩:=aM w3 (aL (.slice none 0 0) zPt).toArray 33;obtain⟨w5,qn,k5,z,s5⟩:=aM w4 #[.int .i64 0,.int .i64 0] 254;obtain⟨tb,E⟩:=zX9 w3.heap.size
 obtain⟨fb,V⟩:=zX9 w4.heap.size
 have t:=O (show tb<fb by omega);rw[E] at y;rw[V] at z;have qi:=O (k5.blk y id);have qc:=O z;have qg:=O (k4.trans k5);have L:=O E;have qp:=O (show w.heap.size≤tb by have:=H3.keep.size;omega);have Z:(aL (.slice none 0 0) zPt).length=35:=rfl;have qq:=O (show sb<tb by have:=lt_of_block H3.st;omega);clear y z k4 k5 s4 s5
 go_wp2_with (first
  | ((with_reducible show WL (some 3) (.alloc 33));refine aG rfl 33 rfl _ tR (aL (.slice none 0 0) zPt).toArray rfl ?_;rw[qm,E])
  | ((with_reducible show WL (some 4) (.alloc 254));refine aG rfl 254 rfl _ Cp #[.int .i64 0,.int .i64 0] rfl ?_;rw[qn,V])
  | ((with_reducible show WL none (.store 33 (.tmp 3) (.tmp 12)));refine aE rfl 33 (.tmp 3) (.tmp 12) rfl tb 0 pc rfl rfl _ 33 qi.out (by rw[c,List.size_toArray,Z];exact Nat.le_refl _) (cI c) Y ?_;intro w6 A B;rw[aI _ _ (by rw[c,List.size_toArray,Z])] at A;have qj:=O A;have qd:=O (B.blk qc.out (by have:=t.out;omega));have qe:=O B;clear A B)
  | ((with_reducible show WL none (.store 254 (.tmp 4) (.tmp 13)));refine aE rfl 254 (.tmp 4) (.tmp 13) rfl fb 0 [.int .i64 0,.int .i64 0] rfl rfl #[.int .i64 0,.int .i64 0] 254 qd.out (Nat.le_refl _) gA (by simp[Value.oneCell']) ?_;intro w7 k C;rw[aI _ _ (by rfl)] at k;have qk:=O (C.blk qj.out (by have:=t.out;omega));have qo:=O k;have qf:=O C;have qt:=aC (i:=0) (v:=.int .i64 0) k rfl;clear k C)
  | ((with_reducible show WL (some 28) (.load 33 (.tmp 3)));refine aP (by rfl) 33 (.tmp 3) rfl tb 0 rfl pc _ (aD qk.out) bJ rfl (cI c) ?_;have l:=O ((qg.trans' qe.out (U:=aB) (fun _ _ h=>h) (fun i hi e=>by have:=L.out;omega)).trans' qf.out (U:=aB) (fun _ _ h=>h) (fun i hi e=>by have:=L.out;have:=t.out;omega));have G:=O (H3.same l.out);have J:=O (l.owns r.out (fun _ _=>id)))
  | ((with_reducible show WL none (.store 33 (.tmp 31) (.tmp 28)));refine aE rfl 33 (.tmp 31) (.tmp 28) rfl sb 2 pc rfl rfl _ _ G.st (by rw[c,List.size_toArray,oH G.pool G.sum];omega) (cI c) Y ?_;intro w8 T X;have qa:=O T;have I:=O X;clear T X))
 go_ret;rw[HQ.out];refine⟨rfl,.slice oa m ca,G.setRoot (by rw[qh.out];exact qa.out) I.out s.out,?_⟩;rw[HM.out]
 exact I.owns J.out (fun g hg e=>by
  subst e;obtain⟨cur,hc⟩:=aH J.out hg;rw[G.st] at hc;cases hc)
theorem G5(w:World)(x y:Value)(t:TypeId):Rd (w.alloc (.cells #[x,y] t)) 1 (.slice (w.heap.size) 2 2) 2 [x,y]:=by
 refine⟨by simp,_,_,rfl,Nat.le_refl _,by unfold maxLen;omega,(by intro h;cases h),fun _=>⟨_,0,rfl,fun i u c=>?_⟩⟩;rw[Nat.zero_add];exact aC (heap_alloc_new _ _) (by rw[←c];rw[←List.getElem?_toArray])
theorem NN(b:List UInt8):∃er c,zA b=(er,c)/\er≠0:=by
 unfold zA
 by_cases h:b.length=47
 ·rw[if_pos h];exact⟨_,_,rfl,by decide⟩
 ·rw[if_neg h];exact⟨_,_,rfl,by decide⟩
theorem BH(w wr:World)(sb base p:Nat)(v:Value)(b:List UInt8)(uv:Value)(u:Ub)(qk ql:Nat)(qo qm qp qn:Int)(bs:List UInt8)(aR:Addr)(hG:w.cell? ⟨1,0,none⟩=some (esV aR))(hB:gE bs=false)(h:StW w wr sb base p v b qk qo qm uv u .nilIface)
 (C1:∀wx,StW w wx sb base p v b qk qo qm uv u .nilIface->Calls prog 167 #[.pointer p,.int .i64 47] wx fun e w'=>∃bv,e=.returned bv/\Rd w' 1 bv bs.length (bs.map vb)/\StW w w' sb base p v b ql qp qn uv u .nilIface) :
 Calls prog 235 #[.pointer sb] wr fun e w'=>e=.returned (.pointer sb)/\∃R,StW w w' sb base p v b ql qp qn (.slice none 0 0) ⟨u.txg,zPt,u.len,u.pool⟩ (jeV R)/\eY w' R [esV aR]:=by
 have T:=O (C1 wr h);have HB:=O hB;have HG:=O hG;have HW:=O h.keep.size;have c0:=h.cell0;clear h C1 hB hG;go_in;go_wp2_with fail;refine T.mono ?_;rintro e w2 ⟨bv,rfl,Q,h2⟩;have H2:=O h2;have qf:=O Q;obtain⟨a2,za,rfl,-,-⟩:=Q.form;clear Q h2 c0 T;go_wp2_with fail;refine(C0 w2 _ bs qf.out).mono ?_;rintro e w3 ⟨qu,hq⟩;rw[HB.out,if_neg (by decide)] at hq;obtain rfl:=hq;obtain⟨er,ea,qx,zb⟩:=NN bs;rw[qx];have H3:=O (H2.same qu);obtain⟨z,g⟩:=zX9 (aL (.slice none 0 0) zPt)
 have l:z.length=35:=by rw[←g];rfl
 have qw:∀u∈z,u.oneCell'=true:=by rw[←g];exact dE _
 have q1:=O g;have q9:∀w,(zeroValue 33).run prog w=.ok (.agg z.toArray) w:=by rw[←g];exact tR
 rw[g];clear qu H2 qf g qx;obtain⟨w4,qy,k4,H,s4⟩:=aM w3 z.toArray 33;obtain⟨w5,qz,k5,I,s5⟩:=aM w4 #[.int .i64 0,.int .i64 0] 254;obtain⟨tb,s⟩:=zX9 w3.heap.size
 obtain⟨fb,L⟩:=zX9 w4.heap.size
 have q:=O (show tb<fb by omega);rw[s] at H;rw[L] at I;have qh:=O (k5.blk H id);have V:=O I;have qc:=O (k4.trans k5);have D:=O s;have q3:=O (show sb<tb by have:=lt_of_block H3.st;omega);clear H I k4 k5 s4 s5
 go_wp2_with (first
  | ((with_reducible show WL (some 3) (.alloc 33));refine aG rfl 33 rfl _ q9 z.toArray rfl ?_;rw[qy,s])
  | ((with_reducible show WL (some 4) (.alloc 254));refine aG rfl 254 rfl _ Cp #[.int .i64 0,.int .i64 0] rfl ?_;rw[qz,L])
  | ((with_reducible show WL none (.store 33 (.tmp 3) (.tmp 12)));refine aE rfl 33 (.tmp 3) (.tmp 12) rfl tb 0 z rfl rfl _ 33 qh.out (by rw[l,List.size_toArray,l];exact Nat.le_refl _) (cI l) qw ?_;intro w6 J M;rw[aI _ _ (by rw[List.size_toArray])] at J;have qi:=O J;have W:=O (M.blk V.out (by have:=q.out;omega));have Y:=O M;clear J M)
  | ((with_reducible show WL none (.store 254 (.tmp 4) (.tmp 13)));refine aE rfl 254 (.tmp 4) (.tmp 13) rfl fb 0 [.int .i64 er,.int .i64 ea] rfl rfl #[.int .i64 0,.int .i64 0] 254 W.out (Nat.le_refl _) gA (by simp[Value.oneCell']) ?_;intro w7 K N;rw[aI _ _ (by rfl)] at K;have q4:=O (N.blk qi.out (by have:=q.out;omega));have Z:=O N;have q5:=aC (i:=0) (v:=.int .i64 er) K rfl;clear K N))
 have t:=O ((qc.trans' Y.out (U:=aB) (fun _ _ h=>h) (fun i hi e=>by have:=D.out;omega)).trans' Z.out (U:=aB) (fun _ _ h=>h) (fun i hi e=>by have:=D.out;have:=q.out;omega));have H7:=O (H3.same t.out);clear H3 t Y Z qi W qh V qc D q q5 qy qz s L;obtain⟨S,G⟩:∃S:World->Prop,S=fun w'=>w'.cell? ⟨1,0,none⟩=some (esV aR):=⟨_,rfl⟩
 have m:=O (show ∀w',aA aB w w'->S w' from fun w' k=>by rw[G];exact k.cell HG.out id);have qg:=O (show ∀w',S w'->w'.cell? ⟨1,0,none⟩=some (esV aR) from fun w' h=>by rw[G] at h;exact h);clear G;have f:=O (H7.same (w':=w7.drew) (aA.refl aB w7).drew);have C:=O ((aA.refl aB w7).drew);have y:=m.out _ f.keep;refine wp_region_held (S:=S) (by kernel_rfl) ?_;change wpAnyH _ _ _ _ _ _ _ _ w7.drew;generalize w7.drew=wa at y f C ⊢;refine tka 0 (.pointer sb) rfl y ?_;simp only[Act.put,List.setIfInBounds_toArray,List.set_cons_zero,List.set_cons_succ,List.getElem_toArray,List.getElem_cons_zero];refine tna 1 (.pointer sb) rfl y ?_;refine tnb 2 (.pointer sb) rfl y ?_;refine tnb 3 (.pointer (some ⟨sb,70,none⟩)) rfl y ?_;refine tnd 5 (esV aR) rfl (.inl ⟨by rfl,fun w' q7=>by have c:=qg.out w' q7;go_simp⟩) y ?_;have F:=aC f.st (mK _ _ _ _ f.pool f.sum);refine wA9 4 ?_;go_wp2_with fail;refine⟨y,?_⟩;refine wA9 6 ?_;go_wp2_with fail;clear F y;have B:=O ((aA.refl aB wa).alloc (.cells #[.nilIface,esV aR] 118));have A:=O (f.same B.out);have qq:=m.out _ A.keep;refine⟨qq,?_⟩;have qe:Hid (Rd (wa.alloc (.cells #[.nilIface,esV aR] 118)) 1 (.slice (wa.heap.size) 2 2) 2 [.nilIface,esV aR]):=O (G5 wa _ _ _);refine wA9 7 ?_;go_wp2_with fail;refine(NI _ _ _ _ (qe.out)).mono ?_;rintro e wb ⟨R,rfl,hJ,P,-⟩;have d:=O (A.same P);have HJ:=O hJ;have qd:=O ((C.trans B.out).trans P);clear hJ P qq f A qe B C;have r:=m.out _ d.keep;go_wp2_with fail;refine⟨r,?_⟩;refine tnb 8 (.pointer sb) rfl r ?_;refine tnb 9 (.pointer (some ⟨sb,70,none⟩)) rfl r ?_;have F:=aC d.st (mK _ _ _ _ d.pool d.sum);have kf:=fun i=>bP d.st i
 have E:=O (d.setErr (jeV R));have o:=O ((aA.refl (fun i=>i=sb) wb).setCell (p:=⟨sb,70,none⟩) (fun _=>rfl) (jeV R));have X:=O (HJ.put o.out d.st (by decide) (by decide));refine wA9 10 ?_;go_wp2_with fail;clear F kf;have qj:=O (o.blk (qd.blk q4.out id) (by have:=q3.out;omega));generalize wb.setCell _ _=wz at E X o qj ⊢;have qr:=m.out _ E.keep;refine⟨qr,?_⟩;refine wpAnyH_done (by kernel_rfl) ?_ _;clear r qr m qg d HJ o qd S
 go_wp2_with (first
  | ((with_reducible show WL (some 28) (.load 33 (.tmp 3)));refine aP (by rfl) 33 (.tmp 3) rfl tb 0 rfl z _ (aD qj.out) bJ rfl (cI l) ?_)
  | ((with_reducible show WL none (.store 33 (.tmp 31) (.tmp 28)));refine aE rfl 33 (.tmp 31) (.tmp 28) rfl sb 2 z rfl rfl _ _ E.st (by rw[l,List.size_toArray,oH E.pool E.sum];omega) (cI l) qw ?_;intro w8 qt qv;have q0:=O qt;have qa:=O qv;clear qt qv))
 go_ret;exact⟨rfl,R,E.setRoot (by rw[q1.out];exact q0.out) qa.out rfl,X.put qa.out E.st (by decide) (by decide)⟩
theorem Af(x y:Int)(w:World):(Instr.field 254 (.agg #[.int .i64 x,.int .i64 y]) 0).run prog w=.ok (.int .i64 x) w:=by kernel_rfl
theorem G6(w wr:World)(sb base p:Nat)(v:Value)(b:List UInt8)(uv er:Value)(u:Ub)(c:Nat)(fa:Int)(h:StW w wr sb base p v b c 0 fa uv u er) :
 Calls prog 236 #[.pointer sb] wr fun e w'=>e=.returned (.pointer sb)/\aA aB wr w':=by
 have d:=O (xG wr base p v b c 0 fa h.rd);have c0:=h.cell0;have i:=Af;clear h;go_in;go_wp2_with fail;refine d.mono ?_;rintro e k ⟨rfl,f⟩;have g:=O f;clear f d c0;go_wp2;go_ret;exact⟨rfl,g.out⟩
theorem NO(w wr:World)(sb base p:Nat)(v:Value)(b:List UInt8)(uv:Value)(u:Ub)(t:Nat)(fe fa:Int)(qc:fe≠0)(j0:Nat)(X:List Value)(aF:Addr)(U:w.cell? ⟨0,0,none⟩=some (esV aF))(h0:eY wr j0 X)(h:StW w wr sb base p v b t fe fa uv u (jeV j0)) :
 Calls prog 236 #[.pointer sb] wr fun e w'=>e=.returned (.pointer sb)/\∃W,StW w w' sb base p v b t fe fa uv u (jeV W)/\eY w' W [jeV j0,esV aF]/\eY w' j0 X:=by
 have R:=O (xG wr base p v b t fe fa h.rd);have c0:=h.cell0;have H:=O h;have HG:=O U;have A:=O h0;have qa:=Af;clear h U h0;go_in;go_wp2_with fail;refine R.mono ?_;rintro e J ⟨rfl,N⟩;have Z:=O (H.same N);have L:=O (A.same N);clear N R c0 H A;go_wp2_with fail;obtain⟨S,y⟩:∃S:World->Prop,S=fun w'=>w'.cell? ⟨0,0,none⟩=some (esV aF):=⟨_,rfl⟩
 have g:=O (show ∀w',aA aB w w'->S w' from fun w' k=>by rw[y];exact k.cell HG.out id);have E:=O (show ∀w',S w'->w'.cell? ⟨0,0,none⟩=some (esV aF) from fun w' h=>by rw[y] at h;exact h);clear y;have f:=O (Z.same (w':=J.drew) (aA.refl aB J).drew);have s:=O ((aA.refl aB J).drew);have o:=g.out _ f.keep;refine wp_region_held (S:=S) (by kernel_rfl) ?_;change wpAnyH _ _ _ _ _ _ _ _ J.drew;generalize J.drew=K at o f s ⊢;refine tka 0 (.pointer sb) rfl o ?_;simp only[Act.put,List.setIfInBounds_toArray,List.set_cons_zero,List.set_cons_succ,List.getElem_toArray,List.getElem_cons_zero];refine tna 1 (.pointer sb) rfl o ?_;refine tnb 2 (.pointer sb) rfl o ?_;refine tnb 3 (.pointer (some ⟨sb,70,none⟩)) rfl o ?_;refine tnd 5 (esV aF) rfl (.inl ⟨by rfl,fun w' P=>by have c:=E.out w' P;go_simp⟩) o ?_;have x:=aC f.st (mK _ _ _ _ f.pool f.sum);refine wA9 4 ?_;go_wp2_with fail;refine⟨o,?_⟩;refine wA9 6 ?_;go_wp2_with fail;clear x o;have r:=O ((aA.refl aB K).alloc (.cells #[jeV j0,esV aF] 118));have q:=O (f.same r.out);have G:=g.out _ q.keep;refine⟨G,?_⟩;have D:Hid (Rd (K.alloc (.cells #[jeV j0,esV aF] 118)) 1 (.slice (K.heap.size) 2 2) 2 [jeV j0,esV aF]):=O (G5 K _ _ _);refine wA9 7 ?_;go_wp2_with fail;refine(NJ _ _ _ _ _ _ (D.out)).mono ?_;rintro e Y ⟨Q,rfl,V,z,-⟩;have d:=O (q.same z);have T:=O V;have C:=O ((s.trans r.out).trans z);clear V z G f q D r s;have m:=g.out _ d.keep;go_wp2_with fail;refine⟨m,?_⟩;refine tnb 8 (.pointer sb) rfl m ?_;refine tnb 9 (.pointer (some ⟨sb,70,none⟩)) rfl m ?_;have x:=aC d.st (mK _ _ _ _ d.pool d.sum);have kf:=fun i=>bP d.st i
 have M:=O (d.setErr (jeV Q));have l:=O ((aA.refl (fun i=>i=sb) Y).setCell (p:=⟨sb,70,none⟩) (fun _=>rfl) (jeV Q));have B:=O (T.put l.out d.st (by decide) (by decide));refine wA9 10 ?_;go_wp2_with fail;clear x kf;have F:=O ((L.same C.out).put l.out d.st (by decide) (by decide));generalize Y.setCell _ _=wz at M B l F ⊢;have I:=g.out _ M.keep;refine⟨I,?_⟩;refine wpAnyH_done (by kernel_rfl) ?_ _;clear m I g E d T l C S;go_wp2;go_ret;exact⟨rfl,Q,M.out,B.out,F.out⟩
open Go.RowKit Go.Maps Go.ChangeMaps
set_option maxRecDepth 100000
set_option linter.unusedVariables false
def lD(b:List UInt8):Nat:=beN ((b.drop 40).take 5)
def qK(b:List UInt8):Nat:=beN ((b.drop 45).take 3)
def gX(b:List UInt8):List UInt8:=(b.drop 48).take 47
def dW(b:List UInt8):Ub:=⟨(lD b:Int),eS (gX b),(qK b:Int),(b.drop 8).take 32⟩
def zUb:Ub:=⟨0,zPt,0,dM⟩
def bC(b:List UInt8):Ub×Int:=
 if b.length≠256 then (zUb,4) else if b=List.replicate 256 0 then (zUb,6)
 else if (dW b).may=true/\aY (dW b)=b then (dW b,0) else (zUb,11)
def pM(b:List UInt8):Prop:=1≤lD b/\lD b≤2147483648/\qK b≤16384
instance (b:List UInt8):Decidable (pM b):=by unfold pM;infer_instance
theorem yF(h:b.length=256):(gX b).length=47:=by
 unfold gX;rw[List.length_take,List.length_drop,h];rfl
theorem sH(h:b.length=256):(dW b).pool.length=32:=by
 show ((b.drop 8).take 32).length=32;rw[List.length_take,List.length_drop,h];rfl
theorem rP(h:b.length=256):(dW b).root.sum.length=32:=by
 show ((gX b).drop 15).length=32;rw[List.length_drop,yF h]
theorem Ag(c:b.length=256)(q:¬b=List.replicate 256 0)(h:¬pM b\/gE (gX b)=false):bC b=(zUb,11):=by
 unfold bC;rw[if_neg (by omega),if_neg q,if_neg];rintro⟨i,m⟩;have d:=mJ i;rcases h with h|h
 ·exact h ⟨by have:=d.1;show 1≤lD b;have e:(dW b).txg=(lD b:Int):=rfl;omega,by have e:(dW b).txg=(lD b:Int):=rfl;omega,by have e:(dW b).len=(qK b:Int):=rfl;omega⟩
 ·have o:ptB (eS (gX b))=gX b:=by
   have e:ptB (eS (gX b))=cC (dW b).root:=by
    unfold ptB;exact if_pos d.2.2.2.2
   rw[e];have g:=congrArg (fun l=>(l.drop 48).take 47) m
   have k:((aY (dW b)).drop 48).take 47=cC (dW b).root:=by
    unfold aY;rw[i,if_pos rfl];have r:=(rN (sH c) (rP c)).2.2.2.2.1;have s:=lM (rP c);show (((ubS (dW b) 4++cC (dW b).root)++List.replicate 129 0++bU (jQ (dW b))).drop 48).take 47=_;rw[List.append_assoc (ubS (dW b) 4++cC (dW b).root),List.append_assoc (ubS (dW b) 4),←r,List.drop_left,←s,List.take_left]
   rw[k] at g;exact g
  have f:(eS (gX b)).may=true:=d.2.2.2.2;unfold gE at h;rw[yF c,f,o] at h;simp at h
structure iK(w:World)(aF aR:Addr):Prop where
 f:w.cell? ⟨0,0,none⟩=some (esV aF)
 r:w.cell? ⟨1,0,none⟩=some (esV aR)
 bf:∃c t,w.heap[aF.block]?=some (.cells c t (0,0))
 br:∃c t,w.heap[aR.block]?=some (.cells c t (0,0))
theorem iK.keep(h:iK w aF aR)(k:aA aB w w'):iK w' aF aR:=
 ⟨k.cell h.f id,k.cell h.r id,by obtain⟨c,t,e⟩:=h.bf;exact⟨c,t,k.blk e id⟩,by obtain⟨c,t,e⟩:=h.br;exact⟨c,t,k.blk e id⟩⟩
theorem Qu{b:Addr}(d:∃c t,w.heap[a.block]?=some (.cells c t (0,0)))(e:∃c t,w.heap[b.block]?=some (.cells c t (0,0))):Calls prog 172 #[esV a,esV b,.bool true] w (bM w (decide (a=b))):=by
 by_cases h:a=b
 ·subst h
  rw[decide_eq_true rfl];exact G3 a w
 ·rw[decide_eq_false h]
  obtain⟨f,i,d⟩:=d;obtain⟨g,k,e⟩:=e;exact NH a b f g i k w h d e
theorem OD(g:iK w aF aR)(l:∃c t,w.heap[a.block]?=some (.cells c t (0,0)))(h:eY w j [esV aR]):Calls prog 172 #[jeV j,esV a,.bool true] w (bM w (decide (aR=a))):=by
 have H:=G4 w j a [esV aR] [decide (aR=a)] rfl h (fun i v t f o w' k=>by
  have m:i=0:=by have:=(List.getElem?_eq_some_iff.1 f).1;simpa using this
  subst m;cases f;cases o
  have d:∃c t,w'.heap[a.block]?=some (.cells c t (0,0)):=by obtain⟨c,t,e⟩:=l;exact⟨c,t,k.blk e id⟩
  exact Qu (g.keep k).br d)
 simpa using H
theorem QT(g:iK w aF aR)(h0:eY w j0 [esV aR])(h:eY w j [jeV j0,esV aF]):Calls prog 172 #[jeV j,esV aF,.bool true] w (bM w true):=by
 have H:=G4 w j aF [jeV j0,esV aF] [decide (aR=aF),true] rfl h (fun i v t d e w' k=>by
  have f:i<2:=by have:=(List.getElem?_eq_some_iff.1 d).1;simpa using this
  have c:i=0\/i=1:=by omega
  rcases c with rfl|rfl
  ·cases d;cases e
   exact OD (g.keep k) (g.keep k).bf (h0.same k)
  ·cases d;cases e
   exact G3 aF w')
 simpa using H
theorem G7(g:iK w aF aR)(d:∃c t,w.heap[a.block]?=some (.cells c t (0,0)))(h:eY w j [esV aR]):Calls prog 116 #[jeV j,esV a] w (bM w (decide (aR=a))):=
 Df w (jeV j) _ _ rfl a _ (OD g d h)
theorem Pz(g:iK w aF aR)(h0:eY w j0 [esV aR])(h:eY w j [jeV j0,esV aF]):Calls prog 116 #[jeV j,esV aF] w (bM w true):=
 Df w (jeV j) _ _ rfl aF _ (QT g h0 h)
theorem tB(w wr:World)(sb base p:Nat)(v:Value)(b:List UInt8)(uv er:Value)(u:Ub)(h:StW w wr sb base p v b 40 0 0 uv u er)(q:b.length=256) :
 Calls prog 234 #[.pointer sb] wr fun e w'=>e=.returned (.pointer sb)/\∃i fe fa x y,StW w w' sb base p v b i fe fa uv ⟨x,u.root,y,u.pool⟩ er/\if pM b then i=48/\fe=0/\x=(lD b:Int)/\y=(qK b:Int) else fe≠0:=by
 by_cases k:1≤lD b/\lD b≤2147483648
 ·have l:∀f,StW w f sb base p v b 40 0 0 uv u er->Calls prog 168 #[.pointer p,.int .i64 5,.int .i64 1,.int .i64 2147483648] f fun e w'=>e=.returned (.int .i64 (lD b:Int))/\StW w w' sb base p v b 45 0 0 uv u er:=fun f d=>by
   refine(iF f base p v b 40 0 d.rd 5 1 2147483648 (by omega) (by omega) (by omega) (lD b) rfl).mono ?_;rintro e w' ⟨g,c⟩;rw[if_pos ⟨by omega,by omega⟩] at c;exact⟨c.1,d.read g c.2⟩
  by_cases m:qK b≤16384
  ·refine(vP w wr sb base p v b uv er u 40 45 48 0 0 0 0 0 0 _ (qK b:Int) h l (fun f d=>?_)).mono ?_
   ·refine(iF f base p v b 45 0 d.rd 3 0 16384 (by omega) (by omega) (by omega) (qK b) rfl).mono ?_
    rintro e w' ⟨g,c⟩;rw[if_pos ⟨by omega,by omega⟩] at c;exact⟨c.1,d.read g c.2⟩
   ·rintro e w' ⟨rfl,hs⟩
    exact⟨rfl,48,0,0,_,_,hs,by rw[if_pos ⟨k.1,k.2,m⟩];exact⟨rfl,rfl,rfl,rfl⟩⟩
  ·refine(vP w wr sb base p v b uv er u 40 45 45 0 0 0 0 5 45 _ 0 h l (fun f d=>?_)).mono ?_
   ·refine(iF f base p v b 45 0 d.rd 3 0 16384 (by omega) (by omega) (by omega) (qK b) rfl).mono ?_
    rintro e w' ⟨g,c⟩;rw[if_neg (by omega)] at c;exact⟨c.1,d.read g c.2⟩
   ·rintro e w' ⟨rfl,hs⟩
    exact⟨rfl,45,5,45,_,_,hs,by rw[if_neg (fun h=>m h.2.2)];decide⟩
 ·refine(vP w wr sb base p v b uv er u 40 40 40 0 0 5 40 5 40 0 0 h (fun f d=>?_) (fun f d=>?_)).mono ?_
  ·refine(iF f base p v b 40 0 d.rd 5 1 2147483648 (by omega) (by omega) (by omega) (lD b) rfl).mono ?_
   rintro e w' ⟨g,c⟩;rw[if_neg (by omega)] at c;exact⟨c.1,d.read g c.2⟩
  ·refine(Gd f base p v b 40 5 40 d.rd (by decide) 3 0 16384).mono ?_
   rintro e w' ⟨o,r,g⟩;exact⟨o,d.same g⟩
  ·rintro e w' ⟨rfl,hs⟩
   exact⟨rfl,40,5,40,_,_,hs,by rw[if_neg (fun h=>k ⟨h.1,h.2.1⟩)];decide⟩
theorem BI(w wr:World)(sb base p:Nat)(v:Value)(b:List UInt8)(uv er:Value)(u:Ub)(i:b.length=256)(fa:Int):∀c,StW w c sb base p v b 48 0 fa uv u er->Calls prog 167 #[.pointer p,.int .i64 47] c fun e w'=>∃d,e=.returned d/\Rd w' 1 d (gX b).length ((gX b).map vb)/\StW w w' sb base p v b 95 0 fa uv u er:=fun c f=>by
 refine(tP c base p v b 48 fa f.rd 47 (by omega) (by omega)).mono ?_;rintro e w' ⟨m,g,k,l,h⟩;exact⟨m,g,by rw[yF i];exact Rd.of_owns k,f.read h l⟩
theorem I7(w wr:World)(sb base p:Nat)(v:Value)(b:List UInt8)(uv er:Value)(u:Ub)(c:Nat)(fe fa:Int)(f:fe≠0):∀d,StW w d sb base p v b c fe fa uv u er->Calls prog 167 #[.pointer p,.int .i64 47] d fun e w'=>∃g,e=.returned g/\Rd w' 1 g ([]:List UInt8).length (([]:List UInt8).map vb)/\StW w w' sb base p v b c fe fa uv u er:=fun d h=>by
 refine(I6 d base p v b c fe fa h.rd f 47).mono ?_;rintro e w' ⟨i,l,k⟩;exact⟨_,i,Rd.of_owns (World.ownsRow_nil w' 0 5 1),h.same k⟩
theorem G8(u:Ub)(k:Nat):∀j,k<j->∃R,ubS u j=ubS u k++(ubW u k++R)
 | 0,h=>absurd h (by omega)
 | j+1,h=>by
   by_cases e:k=j
   ·subst e;exact⟨[],by rw[List.append_nil];rfl⟩
   ·obtain⟨R,c⟩:=G8 u k j (by omega)
    refine⟨R++ubW u j,?_⟩;show ubS u j++ubW u j=_;rw[c];simp only[List.append_assoc]
theorem pN(e:u.may=true){k:Nat}(d:k<6):∃R,aY u=ubS u k++(ubW u k++R):=by
 obtain⟨R,c⟩:=G8 u k 6 d;refine⟨R++bU (jQ u),?_⟩;unfold aY;rw[e,if_pos rfl];show ubS u 6++_=_;rw[c];simp only[List.append_assoc]
theorem sI(e:u.pool.length=32)(d:u.root.sum.length=32)(c:u.may=true):dW (aY u)=u:=by
 obtain⟨A,f,g,h,i,B,C⟩:=rN e d;obtain⟨D,E,F,G,l⟩:=mJ c;obtain⟨t,o⟩:=pN c (k:=1) (by omega);obtain⟨x,q⟩:=pN c (k:=2) (by omega);obtain⟨y,r⟩:=pN c (k:=3) (by omega);obtain⟨z,s⟩:=pN c (k:=4) (by omega);have c1:((aY u).drop 8).take 32=u.pool:=by rw[o];exact oE f e
 have c2:((aY u).drop 40).take 5=be u.txg.toNat 5:=by rw[q];exact oE g (bK _ _)
 have c3:((aY u).drop 45).take 3=be u.len.toNat 3:=by rw[r];exact oE h (bK _ _)
 have m:gX (aY u)=cC u.root:=by unfold gX;rw[s];exact oE i (lM d)
 unfold dW lD qK;rw[c1,c2,c3,m,Lc d l,kP (by omega) (by omega),kP (by omega) (by omega)]
theorem PA(c:u.may=true):(aY u).take 8=pL:=by
 obtain⟨R,e⟩:=pN c (k:=0) (by omega);rw[e];exact oE (A:=[]) (i:=0) rfl rfl
theorem Gs(h:b.take 8=pL):¬b=List.replicate 256 0:=by
 rintro rfl;revert h
 decide
theorem Ft(d:u.pool.length=32)(e:u.root.sum.length=32)(c:u.may=true):bC (aY u)=(u,0):=by
 unfold bC;rw[if_neg (by rw[xZ d e c];simp),if_neg (Gs (PA c)),if_pos]
 ·rw[sI d e c]
 ·rw[sI d e c];exact⟨c,rfl⟩
theorem BJ(h:(bC b).2=0):b.length=256/\bC b=(dW b,0)/\(dW b).may=true/\aY (dW b)=b:=by
 unfold bC at h ⊢
 by_cases d:b.length≠256
 ·rw[if_pos d] at h;exact absurd h (by decide)
 ·rw[if_neg d] at h ⊢
  by_cases e:b=List.replicate 256 0
  ·rw[if_pos e] at h;exact absurd h (by decide)
  ·rw[if_neg e] at h ⊢
   by_cases c:(dW b).may=true/\aY (dW b)=b
   ·rw[if_pos c] at h ⊢;exact⟨by omega,rfl,c⟩
   ·rw[if_neg c] at h;exact absurd h (by decide)
theorem I8(h:(bC b).2≠0):(bC b).1=zUb:=by
 unfold bC at h ⊢
 by_cases c:b.length≠256
 ·rw[if_pos c]
 ·rw[if_neg c] at h ⊢
  by_cases d:b=List.replicate 256 0
  ·rw[if_pos d]
  ·rw[if_neg d] at h ⊢
   by_cases e:(dW b).may=true/\aY (dW b)=b
   ·rw[if_pos e] at h;exact absurd rfl h
   ·rw[if_neg e]
def fU(w:World)(r:Ub×Int)(e:Ending)(w':World):Prop:=
 ∃v,e=.returned (.tuple #[.agg (aV v r.1).toArray,.int .i64 r.2])/\w'.ownsRow w.heap.size 93 2 v r.1.root.addrs.length (aJ r.1.root.addrs)/\aA aB w w'
theorem kQ(w:World):(zeroValue 71).run prog w=.ok (.agg (aV (.slice none 0 0) zUb).toArray) w:=by kernel_rfl
theorem rT(w:World):(Instr.build 71 #[]).run prog w=.ok (.agg (aV (.slice none 0 0) zUb).toArray) w:=by kernel_rfl
theorem fV{oa:Option Addr}{ca:Nat}(u:Ub):∀x∈aV (.slice oa n ca) u,x.oneCell'=true:=by
 intro x c;unfold aV at c;simp only[List.mem_cons,List.mem_append] at c;rcases c with rfl|c|rfl|c
 ·rfl
 ·exact dE _ x c
 ·rfl
 ·exact bA _ x c
theorem sN(h:w.ownsRow base 5 1 v n (List.replicate n (.int .u8 0))):Rd w 1 v (List.replicate n (0:UInt8)).length ((List.replicate n (0:UInt8)).map vb):=by
 have:=Rd.of_owns h;rw[List.length_replicate,List.map_replicate];exact this
theorem Gu(w:World)(s:Value)(b:List UInt8)(t:Rd w 1 s b.length (b.map vb))(z:b.length≤65536)(B:b.length≠256) :
 Calls prog 200 #[s] w (fU w (zUb,4)):=by
 obtain⟨a,c,rfl,-,-⟩:=t.form;clear t;obtain⟨f,d,l,q⟩:∃f,aV (.slice none 0 0) zUb=f/\f.length=69/\∀u∈f,u.oneCell'=true:=⟨_,rfl,rfl,fV _⟩
 have r:∀w,(zeroValue 71).run prog w=.ok (.agg f.toArray) w:=by rw[←d];exact kQ
 have y:∀w,(Instr.build 71 #[]).run prog w=.ok (.agg f.toArray) w:=by rw[←d];exact rT
 have x:=O d;clear d;have C:((b.length:Int) != 256)=true:=by simp;omega
 go_in
 go_wp2_with (first
  | (refine aG rfl 71 rfl _ r f.toArray rfl ?_)
  | ((with_reducible show WL none (.store 71 (.tmp 2) (.tmp 11)));refine aE rfl 71 (.tmp 2) (.tmp 11) rfl w.heap.size 0 f rfl rfl _ _ (heap_alloc_new _ _) (by simp) (cR l) q ?_;intro D g k;have m:=O g;have o:=O k;clear g k))
 refine bodyPost_ret (bO rfl _ _ w.heap.size _ _ _ _ rfl m.out cP rfl (by rw[cU,List.size_toArray];exact cR l)) rfl ⟨.slice none 0 0,?_,World.ownsRow_nil _ _ _ _,?_⟩
 ·rw[aI _ _ (by simp),x.out];rfl
 ·exact((aA.refl aB w).alloc _).tT o.out (fun i A e=>by omega)
theorem Fx(w:World)(F:Value)(b:List UInt8)(A:Rd w 1 F b.length (b.map vb))(G:b.length=256)(H:b=List.replicate 256 0) :
 Calls prog 200 #[F] w (fU w (bC b)):=by
 have T:∀g,F.ownBlock=some g->g<w.heap.size:=by
  obtain⟨k,L,f⟩:=A.lt (by simp;omega);intro g S;rw[S] at L;cases L;exact f
 obtain⟨a,c,M,-,-⟩:=A.form;rw[G] at M;subst M;have P:=O A;clear A;obtain⟨m,l,z,I⟩:∃m,aV (.slice none 0 0) zUb=m/\m.length=69/\∀u∈m,u.oneCell'=true:=⟨_,rfl,rfl,fV _⟩
 have J:∀w,(zeroValue 71).run prog w=.ok (.agg m.toArray) w:=by rw[←l];exact kQ
 have R:∀w,(Instr.build 71 #[]).run prog w=.ok (.agg m.toArray) w:=by rw[←l];exact rT
 have Q:=O l;clear l;have N:=O G;clear G;go_in
 go_wp2_with (first
  | (refine aG rfl 71 rfl _ J m.toArray rfl ?_)
  | ((with_reducible show WL (some 14) (.makeSlice _ _ _));refine gC rfl (.const (.int .i64 256)) (.const (.int .i64 256)) 22 rfl w.heap.size 5 (.int .u8 0) 1 underlying22 eW rfl 256 rfl rfl (by omega) (by unfold maxLen;omega) (by simp) ?_;intro K d f;rw[World.size_alloc] at d;have D:=O (sN d);have s:=O f;clear d f))
 have q:aA aB w K:=((aA.refl aB w).alloc _).trans s.out;have r:K.heap[w.heap.size]?=some (.cells m.toArray 71 (0,0)):=s.blk (heap_alloc_new _ _) id;have t:=O r;have o:=O q;clear r q;refine(nY K _ _ b (List.replicate 256 0) (P.keep o.out fun _ _=>id) D.out true (decide_eq_true H)).mono ?_;rintro e V ⟨rfl,rfl⟩;have E:=O (show bC b=(zUb,6) by unfold bC;rw[if_neg (by rw[N.out];simp),if_pos H]);clear H
 go_wp2_with (first
  | ((with_reducible show WL none (.store 71 (.tmp 2) (.tmp 16)));refine aE rfl 71 (.tmp 2) (.tmp 16) rfl w.heap.size 0 m rfl rfl _ _ t.out (by simp) (cR z) I ?_;intro W x y;have B:=O x;have C:=O y;clear x y))
 refine bodyPost_ret (bO rfl _ _ w.heap.size _ _ _ _ rfl B.out cP rfl (by rw[cU,List.size_toArray];exact cR z)) rfl ?_;rw[E.out];refine⟨.slice none 0 0,?_,World.ownsRow_nil _ _ _ _,?_⟩
 ·rw[aI _ _ (by simp),Q.out];rfl
 ·exact o.tT C.out (fun i U e=>by omega)
open Go.RowKit Go.Maps Go.ChangeMaps
set_option maxRecDepth 100000
set_option linter.unusedVariables false
theorem Fy(g:iK w aF aR)(e:∃c t,w.heap[a.block]?=some (.cells c t (0,0)))(f:aR=a)(h:eY w j [esV aR]):Calls prog 116 #[jeV j,esV a] w (bM w true):=by
 have d:=G7 g e h
 rwa [decide_eq_true f] at d
theorem NT(g:iK w aF aR)(e:∃c t,w.heap[a.block]?=some (.cells c t (0,0)))(f:¬aR=a)(h:eY w j [esV aR]):Calls prog 116 #[jeV j,esV a] w (bM w false):=by
 have d:=G7 g e h
 rwa [decide_eq_false f] at d
theorem yN(p:Nat):zeroCells329.setIfInBounds 0 (.pointer p)=(eA p (.slice none 0 0) zUb .nilIface).toArray:=by kernel_rfl
theorem Fz(w:World)(aF aR:Addr)(hg:iK w aF aR)(bv:Value)(b:List UInt8)(hr:Rd w 1 bv b.length (b.map vb))(hl:b.length=256)(hz:¬b=List.replicate 256 0)(K:¬pM b) :
 Calls prog 200 #[bv] w (fU w (bC b)):=by
 have qp:∀g,bv.ownBlock=some g->g<w.heap.size:=by
  obtain⟨k,Y,B⟩:=hr.lt (by simp;omega);intro g hg;rw[hg] at Y;cases Y;exact B
 obtain⟨a,c,hv,-,-⟩:=hr.form;rw[hl] at hv;subst hv;have HR:=O hr;clear hr;obtain⟨t,D,qd,qm⟩:∃t,aV (.slice none 0 0) zUb=t/\t.length=69/\∀u∈t,u.oneCell'=true:=⟨_,rfl,rfl,fV _⟩
 have qn:∀w,(zeroValue 71).run prog w=.ok (.agg t.toArray) w:=by rw[←D];exact kQ
 have ql:∀w,(Instr.build 71 #[]).run prog w=.ok (.agg t.toArray) w:=by rw[←D];exact rT
 have HZ:=O D;clear D;have HL:=O hl;clear hl;have qk:=O hz;go_in
 go_wp2_with (first
  | (refine aG rfl 71 rfl _ qn t.toArray rfl ?_)
  | ((with_reducible show WL (some 14) (.makeSlice _ _ _));refine gC rfl (.const (.int .i64 256)) (.const (.int .i64 256)) 22 rfl w.heap.size 5 (.int .u8 0) 1 underlying22 eW rfl 256 rfl rfl (by omega) (by unfold maxLen;omega) (by simp) ?_;intro H f B;rw[World.size_alloc] at f;have Q:=O (sN f);have l:=O B;clear f B))
 obtain⟨s,C⟩:=zX9 (w.alloc (.cells t.toArray 71))
 have z:Hid (aA aB w s):=O (by rw[←C];exact(aA.refl _ _).alloc _);have R:Hid (s.heap[w.heap.size]?=some (.cells t.toArray 71 (0,0))):=O (by rw[←C];exact heap_alloc_new _ _);have q:=O (hg.keep z.out);clear hg;rw[C] at l;refine(nY H _ _ b (List.replicate 256 0) (HR.keep (z.trans l.out) fun _ _=>id) Q.out false (decide_eq_false hz)).mono ?_;rintro e M ⟨rfl,rfl⟩;clear hz Q C;go_wp2_with fail;refine(sC _ b H (HR.keep (z.trans l.out) fun _ _=>id) (by rw[HL.out];omega)).mono ?_;rintro e M ⟨p,v,rfl,qa,J⟩
 have H4:Hid (StW s (M.alloc (.cells (eA p (.slice none 0 0) zUb .nilIface).toArray 329)) M.heap.size H.heap.size p v b 0 0 0 (.slice none 0 0) zUb .nilIface):=
  O ⟨heap_alloc_new _ _,qa.keep ((aA.refl aB M).alloc _) id (fun _ _=>id),rfl,rfl,(l.trans J).trans ((aA.refl aB M).alloc _),l.size,(l.trans J).size⟩
 obtain⟨sb,qc⟩:=zX9 M.heap.size
 clear qa J;go_wp2_with fail;rw[yN];rw[qc] at H4;refine(vO s _ sb H.heap.size p v b _ _ _ H4.out HL.out).mono ?_;rintro e w5 ⟨rfl,h5⟩;clear H4 qc;go_wp2_with fail;refine(tB s w5 sb H.heap.size p v b _ _ _ h5 HL.out).mono ?_;rintro e w6 ⟨rfl,A,fe,fa,x,y,h6,hn⟩;clear h5;go_wp2_with fail;have V:fe≠0:=by rw[if_neg K] at hn;exact hn
 have qj:=O (Ag HL.out qk.out (.inl K));clear hn K;refine(BH s w6 sb H.heap.size p v b _ _ A A fe fa fe fa [] aR q.r rfl h6 (I7 s w6 sb H.heap.size p v b _ _ _ A fe fa V)).mono ?_;rintro e w7 ⟨rfl,j0,h7,W⟩;clear h6;go_wp2_with fail;refine(NO s w7 sb H.heap.size p v b _ _ A fe fa V j0 _ aF q.f W h7).mono ?_;rintro e N ⟨rfl,j1,h8,X,G⟩;have E:=O h8;have qf:=O G;have qg:=O X;clear h8 G X h7 W;go_wp2_with fail;obtain⟨S,o⟩:∃S:World->Prop,S=fun w'=>aA aB N w':=⟨_,rfl⟩
 have m:=O (show ∀w',S w'->aA aB N w' from fun w' h=>by rw[o] at h;exact h);have I:=O (show ∀w',aA aB N w'->S w' from fun w' h=>by rw[o];exact h);have F:=O (show ∀w',S w'->w'.cell? ⟨sb,70,none⟩=some (jeV j1) from fun w' h=>by rw[o] at h;exact aC (E.same h).st (mK _ _ _ _ E.pool E.sum));have T:=O (show ∀w',S w'->w'.cell? ⟨0,0,none⟩=some (esV aF) from fun w' h=>by rw[o] at h;exact(q.keep (E.keep.trans h)).f);have qi:=O (show ∀w',S w'->w'.cell? ⟨1,0,none⟩=some (esV aR) from fun w' h=>by rw[o] at h;exact(q.keep (E.keep.trans h)).r);clear o;have r:=I.out _ (aA.refl aB N).drew;refine wp_region_held (S:=S) (by kernel_rfl) ?_;change wpAnyH _ _ _ _ _ _ _ _ N.drew;generalize N.drew=wa at r ⊢;refine tka 0 (.pointer sb) rfl r ?_;simp only[Act.put,List.setIfInBounds_toArray,List.set_cons_zero,List.set_cons_succ,List.getElem_toArray,List.getElem_cons_zero];refine tnb 1 (.pointer sb) rfl r ?_;refine tnb 2 (.pointer (some ⟨sb,70,none⟩)) rfl r ?_;refine tnd 3 (jeV j1) rfl (.inl ⟨by rfl,fun w' L=>by have c:=F.out w' L;go_simp⟩) r ?_;refine tnd 4 (esV aF) rfl (.inl ⟨by rfl,fun w' L=>by have c:=T.out w' L;go_simp⟩) r ?_;refine wA9 5 ?_;go_wp2_with fail;refine(Pz (q.keep (E.keep.trans (m _ r))) (qf.same (m _ r)) (qg.same (m _ r))).mono ?_;rintro e wb ⟨rfl,Y⟩;have d:=I.out _ ((m _ r).trans Y);clear r Y;go_wp2_with fail;refine⟨d,?_⟩;refine tna 6 (.bool true) rfl d ?_;refine tnc 7 undef rfl d ?_;refine tnc 8 undef rfl d ?_;refine tnc 9 undef rfl d ?_;refine tnc 10 undef rfl d ?_;refine tnc 11 undef rfl d ?_;refine tnc 12 undef rfl d ?_;refine tna 13 (.bool true) rfl d ?_;refine wpAnyH_done (by kernel_rfl) ?_ _;have P:=O (m _ d);clear d m I F T qi S;have qo:=ql
 go_wp2_with (first
  | ((with_reducible show WL none (.store 71 (.tmp 2) (.tmp 39)));refine aE rfl 71 (.tmp 2) (.tmp 39) rfl w.heap.size 0 t rfl rfl _ _ ((E.keep.trans P.out).blk R.out id) (by simp) (cR qd) qm ?_;intro qq U Z;have qe:=O U;have qh:=O Z;clear U Z))
 refine bodyPost_ret (bO rfl _ _ w.heap.size _ _ _ _ rfl qe.out cP rfl (by rw[cU,List.size_toArray];exact cR qd)) rfl ?_;rw[qj.out];refine⟨.slice none 0 0,?_,World.ownsRow_nil _ _ _ _,?_⟩
 ·rw[aI _ _ (by simp),HZ.out];rfl
 ·exact(z.trans (E.keep.trans P.out)).tT qh.out (fun i hi e=>by omega)
theorem FA(w:World)(aF aR:Addr)(hg:iK w aF aR)(bv:Value)(b:List UInt8)(hr:Rd w 1 bv b.length (b.map vb))(hl:b.length=256)(hz:¬b=List.replicate 256 0)(qg:pM b)(hB:gE (gX b)=false) :
 Calls prog 200 #[bv] w (fU w (bC b)):=by
 have qp:∀g,bv.ownBlock=some g->g<w.heap.size:=by
  obtain⟨k,G,M⟩:=hr.lt (by simp;omega);intro g hg;rw[hg] at G;cases G;exact M
 obtain⟨a,c,hv,-,-⟩:=hr.form;rw[hl] at hv;subst hv;have HR:=O hr;clear hr;obtain⟨I,P,Q,qj⟩:∃I,aV (.slice none 0 0) zUb=I/\I.length=69/\∀u∈I,u.oneCell'=true:=⟨_,rfl,rfl,fV _⟩
 have qm:∀w,(zeroValue 71).run prog w=.ok (.agg I.toArray) w:=by rw[←P];exact kQ
 have qe:∀w,(Instr.build 71 #[]).run prog w=.ok (.agg I.toArray) w:=by rw[←P];exact rT
 have HZ:=O P;clear P;have HL:=O hl;clear hl;have qk:=O hz;go_in
 go_wp2_with (first
  | (refine aG rfl 71 rfl _ qm I.toArray rfl ?_)
  | ((with_reducible show WL (some 14) (.makeSlice _ _ _));refine gC rfl (.const (.int .i64 256)) (.const (.int .i64 256)) 22 rfl w.heap.size 5 (.int .u8 0) 1 underlying22 eW rfl 256 rfl rfl (by omega) (by unfold maxLen;omega) (by simp) ?_;intro T z M;rw[World.size_alloc] at z;have qa:=O (sN z);have A:=O M;clear z M))
 obtain⟨J,N⟩:=zX9 (w.alloc (.cells I.toArray 71))
 have C:Hid (aA aB w J):=O (by rw[←N];exact(aA.refl _ _).alloc _);have R:Hid (J.heap[w.heap.size]?=some (.cells I.toArray 71 (0,0))):=O (by rw[←N];exact heap_alloc_new _ _);have m:=O (hg.keep C.out);clear hg;rw[N] at A;refine(nY T _ _ b (List.replicate 256 0) (HR.keep (C.trans A.out) fun _ _=>id) qa.out false (decide_eq_false hz)).mono ?_;rintro e Z ⟨rfl,rfl⟩;clear hz qa N;go_wp2_with fail;refine(sC _ b T (HR.keep (C.trans A.out) fun _ _=>id) (by rw[HL.out];omega)).mono ?_;rintro e Z ⟨p,v,rfl,qh,X⟩
 have H4:Hid (StW J (Z.alloc (.cells (eA p (.slice none 0 0) zUb .nilIface).toArray 329)) Z.heap.size T.heap.size p v b 0 0 0 (.slice none 0 0) zUb .nilIface):=
  O ⟨heap_alloc_new _ _,qh.keep ((aA.refl aB Z).alloc _) id (fun _ _=>id),rfl,rfl,(A.trans X).trans ((aA.refl aB Z).alloc _),A.size,(A.trans X).size⟩
 obtain⟨sb,qi⟩:=zX9 Z.heap.size
 clear qh X;go_wp2_with fail;rw[yN];rw[qi] at H4;refine(vO J _ sb T.heap.size p v b _ _ _ H4.out HL.out).mono ?_;rintro e w5 ⟨rfl,h5⟩;clear H4 qi;go_wp2_with fail;refine(tB J w5 sb T.heap.size p v b _ _ _ h5 HL.out).mono ?_;rintro e w6 ⟨rfl,qo,fe,fa,x,y,h6,hn⟩;clear h5;go_wp2_with fail;rw[if_pos qg] at hn;obtain⟨rfl,rfl,rfl,rfl⟩:=hn;have qc:=O (Ag HL.out qk.out (.inr hB));refine(BH J w6 sb T.heap.size p v b _ _ 48 95 0 fa 0 fa (gX b) aR m.r hB h6 (BI J w6 sb T.heap.size p v b _ _ _ HL.out fa)).mono ?_;rintro e w7 ⟨rfl,j0,h7,qf⟩;clear h6 qg hB;go_wp2_with fail;refine(G6 J w7 sb T.heap.size p v b _ _ _ 95 fa h7).mono ?_;rintro e B ⟨rfl,Y⟩;have r:=O (h7.same Y);have V:=O (qf.same Y);clear h7 qf Y;go_wp2_with fail
 by_cases qd:aR=aF
 ·obtain⟨S,l⟩:∃S:World->Prop,S=fun w'=>aA aB B w':=⟨_,rfl⟩
  have f:=O (show ∀w',S w'->aA aB B w' from fun w' h=>by rw[l] at h;exact h);have t:=O (show ∀w',aA aB B w'->S w' from fun w' h=>by rw[l];exact h);have s:=O (show ∀w',S w'->w'.cell? ⟨sb,70,none⟩=some (jeV j0) from fun w' h=>by rw[l] at h;exact aC (r.same h).st (mK _ _ _ _ r.pool r.sum));have E:=O (show ∀w',S w'->w'.cell? ⟨0,0,none⟩=some (esV aF) from fun w' h=>by rw[l] at h;exact(m.keep (r.keep.trans h)).f);have K:=O (show ∀w',S w'->w'.cell? ⟨1,0,none⟩=some (esV aR) from fun w' h=>by rw[l] at h;exact(m.keep (r.keep.trans h)).r);clear l;have o:=t.out _ (aA.refl aB B).drew;refine wp_region_held (S:=S) (by kernel_rfl) ?_;change wpAnyH _ _ _ _ _ _ _ _ B.drew;generalize B.drew=wa at o ⊢;refine tka 0 (.pointer sb) rfl o ?_;simp only[Act.put,List.setIfInBounds_toArray,List.set_cons_zero,List.set_cons_succ,List.getElem_toArray,List.getElem_cons_zero];refine tnb 1 (.pointer sb) rfl o ?_;refine tnb 2 (.pointer (some ⟨sb,70,none⟩)) rfl o ?_;refine tnd 3 (jeV j0) rfl (.inl ⟨by rfl,fun w' q=>by have c:=s.out w' q;go_simp⟩) o ?_;refine tnd 4 (esV aF) rfl (.inl ⟨by rfl,fun w' q=>by have c:=E.out w' q;go_simp⟩) o ?_;refine wA9 5 ?_;go_wp2_with fail;refine(Fy (m.keep (r.keep.trans (f _ o))) (m.keep (r.keep.trans (f _ o))).bf qd (V.same (f _ o))).mono ?_;rintro e wb ⟨rfl,G⟩;have d:=t.out _ ((f _ o).trans G);clear o G;go_wp2_with fail;refine⟨d,?_⟩;refine tna 6 (.bool true) rfl d ?_;refine tnc 7 undef rfl d ?_;refine tnc 8 undef rfl d ?_;refine tnc 9 undef rfl d ?_;refine tnc 10 undef rfl d ?_;refine tnc 11 undef rfl d ?_;refine tnc 12 undef rfl d ?_;refine tna 13 (.bool true) rfl d ?_;refine wpAnyH_done (by kernel_rfl) ?_ _;have D:=O (f _ d);clear d f t s E K S;have ql:=qe
  go_wp2_with (first
   | ((with_reducible show WL none (.store 71 (.tmp 2) (.tmp 39)));refine aE rfl 71 (.tmp 2) (.tmp 39) rfl w.heap.size 0 I rfl rfl _ _ ((r.keep.trans D.out).blk R.out id) (by simp) (cR Q) qj ?_;intro qn F H;have U:=O F;have W:=O H;clear F H))
  refine bodyPost_ret (bO rfl _ _ w.heap.size _ _ _ _ rfl U.out cP rfl (by rw[cU,List.size_toArray];exact cR Q)) rfl ?_;rw[qc.out];refine⟨.slice none 0 0,?_,World.ownsRow_nil _ _ _ _,?_⟩
  ·rw[aI _ _ (by simp),HZ.out];rfl
  ·exact(C.trans (r.keep.trans D.out)).tT W.out (fun i hi e=>by omega)
 ·obtain⟨S,l⟩:∃S:World->Prop,S=fun w'=>aA aB B w':=⟨_,rfl⟩
  have f:=O (show ∀w',S w'->aA aB B w' from fun w' h=>by rw[l] at h;exact h);have t:=O (show ∀w',aA aB B w'->S w' from fun w' h=>by rw[l];exact h);have s:=O (show ∀w',S w'->w'.cell? ⟨sb,70,none⟩=some (jeV j0) from fun w' h=>by rw[l] at h;exact aC (r.same h).st (mK _ _ _ _ r.pool r.sum));have E:=O (show ∀w',S w'->w'.cell? ⟨0,0,none⟩=some (esV aF) from fun w' h=>by rw[l] at h;exact(m.keep (r.keep.trans h)).f);have K:=O (show ∀w',S w'->w'.cell? ⟨1,0,none⟩=some (esV aR) from fun w' h=>by rw[l] at h;exact(m.keep (r.keep.trans h)).r);clear l;have o:=t.out _ (aA.refl aB B).drew;refine wp_region_held (S:=S) (by kernel_rfl) ?_;change wpAnyH _ _ _ _ _ _ _ _ B.drew;generalize B.drew=wa at o ⊢;refine tka 0 (.pointer sb) rfl o ?_;simp only[Act.put,List.setIfInBounds_toArray,List.set_cons_zero,List.set_cons_succ,List.getElem_toArray,List.getElem_cons_zero];refine tnb 1 (.pointer sb) rfl o ?_;refine tnb 2 (.pointer (some ⟨sb,70,none⟩)) rfl o ?_;refine tnd 3 (jeV j0) rfl (.inl ⟨by rfl,fun w' q=>by have c:=s.out w' q;go_simp⟩) o ?_;refine tnd 4 (esV aF) rfl (.inl ⟨by rfl,fun w' q=>by have c:=E.out w' q;go_simp⟩) o ?_;refine wA9 5 ?_;go_wp2_with fail;refine(NT (m.keep (r.keep.trans (f _ o))) (m.keep (r.keep.trans (f _ o))).bf qd (V.same (f _ o))).mono ?_;rintro e wb ⟨rfl,G⟩;have d:=t.out _ ((f _ o).trans G);clear o G;go_wp2_with fail;refine⟨d,?_⟩;refine tna 6 (.bool false) rfl d ?_;refine tna 7 (.pointer sb) rfl d ?_;refine tnb 8 (.pointer sb) rfl d ?_;refine tnb 9 (.pointer (some ⟨sb,70,none⟩)) rfl d ?_;refine tnd 10 (jeV j0) rfl (.inl ⟨by rfl,fun w' q=>by have c:=s.out w' q;go_simp⟩) d ?_;refine tnd 11 (esV aR) rfl (.inl ⟨by rfl,fun w' q=>by have c:=K.out w' q;go_simp⟩) d ?_;refine wA9 12 ?_;go_wp2_with fail;refine(Fy (m.keep (r.keep.trans (f _ d))) (m.keep (r.keep.trans (f _ d))).br rfl (V.same (f _ d))).mono ?_;rintro e wc ⟨rfl,G⟩;have L:=t.out _ ((f _ d).trans G);clear d G;go_wp2_with fail;refine⟨L,?_⟩;refine tna 13 (.bool true) rfl L ?_;refine wpAnyH_done (by kernel_rfl) ?_ _;have D:=O (f _ L);clear L f t s E K S;have ql:=qe
  go_wp2_with (first
   | ((with_reducible show WL none (.store 71 (.tmp 2) (.tmp 39)));refine aE rfl 71 (.tmp 2) (.tmp 39) rfl w.heap.size 0 I rfl rfl _ _ ((r.keep.trans D.out).blk R.out id) (by simp) (cR Q) qj ?_;intro qn F H;have U:=O F;have W:=O H;clear F H))
  refine bodyPost_ret (bO rfl _ _ w.heap.size _ _ _ _ rfl U.out cP rfl (by rw[cU,List.size_toArray];exact cR Q)) rfl ?_;rw[qc.out];refine⟨.slice none 0 0,?_,World.ownsRow_nil _ _ _ _,?_⟩
  ·rw[aI _ _ (by simp),HZ.out];rfl
  ·exact(C.trans (r.keep.trans D.out)).tT W.out (fun i hi e=>by omega)
open Go.RowKit Go.Maps Go.ChangeMaps
set_option maxRecDepth 100000
set_option linter.unusedVariables false
theorem StW.ub{wr:World}(h:StW w wr sb base p v b at_ fe fa uv u er):wr.rangeAt sb 1 (aV uv u):=
 pC (A:=[.pointer p]) (B:=aV uv u) (C:=[er]) (aD h.st)
theorem FB(w:World)(aF aR:Addr)(hg:iK w aF aR)(bv:Value)(b:List UInt8)(hr:Rd w 1 bv b.length (b.map vb))(hl:b.length=256)(hz:¬b=List.replicate 256 0)(qo:pM b)(hB:gE (gX b)=true) :
 Calls prog 200 #[bv] w (fU w (bC b)):=by
 have q5:∀g,bv.ownBlock=some g->g<w.heap.size:=by
  obtain⟨k,hk,V⟩:=hr.lt (by simp;omega);intro g hg;rw[hg] at hk;cases hk;exact V
 obtain⟨a,c,hv,-,-⟩:=hr.form;rw[hl] at hv;subst hv;have HR:=O hr;clear hr;obtain⟨J,X,o,qt⟩:∃J,aV (.slice none 0 0) zUb=J/\J.length=69/\∀u∈J,u.oneCell'=true:=⟨_,rfl,rfl,fV _⟩
 have q0:∀w,(zeroValue 71).run prog w=.ok (.agg J.toArray) w:=by rw[←X];exact kQ
 have q4:∀w,(Instr.build 71 #[]).run prog w=.ok (.agg J.toArray) w:=by rw[←X];exact rT
 have HZ:=O X;clear X;have L:=O hl;clear hl;have qe:=O hz;go_in
 go_wp2_with (first
  | (refine aG rfl 71 rfl _ q0 J.toArray rfl ?_)
  | ((with_reducible show WL (some 14) (.makeSlice _ _ _));refine gC rfl (.const (.int .i64 256)) (.const (.int .i64 256)) 22 rfl w.heap.size 5 (.int .u8 0) 1 underlying22 eW rfl 256 rfl rfl (by omega) (by unfold maxLen;omega) (by simp) ?_;intro Y z V;rw[World.size_alloc] at z;have qk:=O (sN z);have E:=O V;clear z V))
 obtain⟨I,W⟩:=zX9 (w.alloc (.cells J.toArray 71))
 have s:Hid (aA aB w I):=O (by rw[←W];exact(aA.refl _ _).alloc _);have B:Hid (I.heap[w.heap.size]?=some (.cells J.toArray 71 (0,0))):=O (by rw[←W];exact heap_alloc_new _ _);have qj:=O (hg.keep s.out);clear hg;rw[W] at E;refine(nY Y _ _ b (List.replicate 256 0) (HR.keep (s.trans E.out) fun _ _=>id) qk.out false (decide_eq_false hz)).mono ?_;rintro e w3 ⟨rfl,rfl⟩;clear hz qk W;go_wp2_with fail;refine(sC _ b Y (HR.keep (s.trans E.out) fun _ _=>id) (by rw[L.out];omega)).mono ?_;rintro e w3 ⟨p,v,rfl,qq,qf⟩
 have H4:Hid (StW I (w3.alloc (.cells (eA p (.slice none 0 0) zUb .nilIface).toArray 329)) w3.heap.size Y.heap.size p v b 0 0 0 (.slice none 0 0) zUb .nilIface):=
  O ⟨heap_alloc_new _ _,qq.keep ((aA.refl aB w3).alloc _) id (fun _ _=>id),rfl,rfl,(E.trans qf).trans ((aA.refl aB w3).alloc _),E.size,(E.trans qf).size⟩
 obtain⟨sb,qr⟩:=zX9 w3.heap.size
 clear qq qf;go_wp2_with fail;rw[yN];rw[qr] at H4;refine(vO I _ sb Y.heap.size p v b _ _ _ H4.out L.out).mono ?_;rintro e w5 ⟨rfl,h5⟩;clear H4 qr;go_wp2_with fail;refine(tB I w5 sb Y.heap.size p v b _ _ _ h5 L.out).mono ?_;rintro e w6 ⟨rfl,q3,fe,fa,x,y,h6,hn⟩;clear h5;go_wp2_with fail;rw[if_pos qo] at hn;obtain⟨rfl,rfl,rfl,rfl⟩:=hn;refine(LD I w6 sb Y.heap.size p v b _ _ _ 48 95 0 fa 0 fa (gX b) hB h6 (BI I w6 sb Y.heap.size p v b _ _ _ L.out fa)).mono ?_;rintro e w7 ⟨rfl,uv2,h7,qp⟩;clear h6 qo hB;go_wp2_with fail;refine(G6 I w7 sb Y.heap.size p v b _ _ _ 95 fa h7).mono ?_;rintro e w8 ⟨rfl,qg⟩;have H8:Hid (StW I w8 sb Y.heap.size p v b 95 0 fa uv2 (dW b) .nilIface):=O (h7.same qg);have qh:w8.ownsRow I.heap.size 93 2 uv2 (dW b).root.addrs.length (aJ (dW b).root.addrs):=qg.owns qp (fun _ _=>id);obtain⟨oa,ca,qz,-,-⟩:=(Rd.of_owns qh).form;subst qz;have ql:=O qh;clear h7 qg qp qh;go_wp2_with fail;obtain⟨S,G⟩:∃S:World->Prop,S=fun w'=>aA aB w8 w':=⟨_,rfl⟩
 have T:=O (show ∀w',S w'->aA aB w8 w' from fun w' h=>by rw[G] at h;exact h);have R:=O (show ∀w',aA aB w8 w'->S w' from fun w' h=>by rw[G];exact h);have M:=O (show ∀w',S w'->w'.cell? ⟨sb,70,none⟩=some (.nilIface) from fun w' h=>by rw[G] at h;exact aC (H8.same h).st (mK _ _ _ _ H8.pool H8.sum));have qm:=O (show ∀w',S w'->w'.cell? ⟨0,0,none⟩=some (esV aF) from fun w' h=>by rw[G] at h;exact(qj.keep (H8.keep.trans h)).f);have qn:=O (show ∀w',S w'->w'.cell? ⟨1,0,none⟩=some (esV aR) from fun w' h=>by rw[G] at h;exact(qj.keep (H8.keep.trans h)).r);clear G;have hS:=R.out _ (aA.refl aB w8).drew;refine wp_region_held (S:=S) (by kernel_rfl) ?_;change wpAnyH _ _ _ _ _ _ _ _ w8.drew;generalize w8.drew=wa at hS ⊢;refine tka 0 (.pointer sb) rfl hS ?_;simp only[Act.put,List.setIfInBounds_toArray,List.set_cons_zero,List.set_cons_succ,List.getElem_toArray,List.getElem_cons_zero];refine tnb 1 (.pointer sb) rfl hS ?_;refine tnb 2 (.pointer (some ⟨sb,70,none⟩)) rfl hS ?_;refine tnd 3 (.nilIface) rfl (.inl ⟨by rfl,fun w' A=>by have c:=M.out w' A;go_simp⟩) hS ?_;refine tnd 4 (esV aF) rfl (.inl ⟨by rfl,fun w' A=>by have c:=qm.out w' A;go_simp⟩) hS ?_;refine wA9 5 ?_;go_wp2_with fail;refine(Dg wa aF).mono ?_;rintro e wb ⟨rfl,hk⟩;have d:=R.out _ ((T _ hS).trans hk);clear hS hk;go_wp2_with fail;refine⟨d,?_⟩;refine tna 6 (.bool false) rfl d ?_;refine tna 7 (.pointer sb) rfl d ?_;refine tnb 8 (.pointer sb) rfl d ?_;refine tnb 9 (.pointer (some ⟨sb,70,none⟩)) rfl d ?_;refine tnd 10 (.nilIface) rfl (.inl ⟨by rfl,fun w' A=>by have c:=M.out w' A;go_simp⟩) d ?_;refine tnd 11 (esV aR) rfl (.inl ⟨by rfl,fun w' A=>by have c:=qn.out w' A;go_simp⟩) d ?_;refine wA9 12 ?_;go_wp2_with fail;refine(Dg wb aR).mono ?_;rintro e wc ⟨rfl,hk⟩;have U:=R.out _ ((T _ d).trans hk);clear d hk;go_wp2_with fail;refine⟨U,?_⟩;refine tna 13 (.bool false) rfl U ?_;refine wpAnyH_done (by kernel_rfl) ?_ _;have qc:=O (T _ U);clear U T R M qm qn S;have H9:=O (H8.same qc.out);have Q:=O (qc.owns ql.out (fun _ _=>id));obtain⟨m,hm⟩:=zX9 ((dW b).root.addrs.length)
 have HM:=O hm;rw[hm] at H9 Q;have qx:Hid (UbV wc (.slice oa m ca) (dW b)):=O ⟨⟨by rw[hm];exact Rd.of_owns Q.out,AI _ _,rP L.out⟩,sH L.out⟩;have qa:=O (yB wc (.slice oa m ca) (dW b) qx.out);have C:=O H9.ub;obtain⟨uc,P⟩:=zX9 (aV (.slice oa m ca) (dW b))
 have H:uc.length=69:=by rw[←P];exact bZ (rP L.out) (sH L.out)
 have qy:∀u∈uc,u.oneCell'=true:=by rw[←P];exact fV _
 have qw:=O P;rw[P] at qa C;clear H8 ql qc hm P
 go_wp2_with (first
  | ((with_reducible show WL _ (.load 71 (.tmp 43)));refine aP (by rfl) 71 (.tmp 43) rfl (sb) 1 rfl uc _ C.out cP rfl (cR H) ?_))
 refine qa.mono ?_;rintro e q1 ⟨pv,rfl,qi,D⟩;have r:=O (H9.same D);have Z:=O (D.owns Q.out (fun _ _=>id));have qd:=O (D.rangeAt C.out);have qv:=O qi;obtain⟨ap,cp,rfl,-,-⟩:=(Rd.of_owns qi).form;clear qa H9 Q D C qi;obtain⟨t,ht⟩:=zX9 ((dW b).may)
 have HT:=O ht;rw[ht];clear ht;cases t
 ·have N:=O (show bC b=(zUb,11) by unfold bC;rw[if_neg (by rw[L.out];simp),if_neg qe.out,if_neg (by rw[HT.out];simp)])
  go_wp2_with (first
   | ((with_reducible show WL none (.store 71 (.tmp 2) (.tmp 56)));refine aE rfl 71 (.tmp 2) (.tmp 56) rfl w.heap.size 0 J rfl rfl _ _ (r.keep.blk B.out id) (by simp) (cR o) qt ?_;intro qu f l;have K:=O f;have F:=O l;clear f l))
  refine bodyPost_ret (bO rfl _ _ w.heap.size _ _ _ _ rfl K.out cP rfl (by rw[cU,List.size_toArray];exact cR o)) rfl ?_;rw[N.out];refine⟨.slice none 0 0,?_,World.ownsRow_nil _ _ _ _,?_⟩
  ·rw[aI _ _ (by simp),HZ.out];rfl
  ·exact(s.trans r.keep).tT F.out (fun i hi e=>by omega)
 ·obtain⟨q,hq⟩:=zX9 (decide (aY (dW b)=b))
  have HQ:=O hq;go_wp2_with fail;refine(nY q1 _ _ (aY (dW b)) b (Rd.of_owns qv.out) (by have:=HR.keep (s.trans r.keep) (fun _ _=>id);exact this) q hq).mono ?_;rintro e za ⟨rfl,rfl⟩;clear hq;cases q
  ·have N:=O (show bC b=(zUb,11) by unfold bC;rw[if_neg (by rw[L.out];simp),if_neg qe.out,if_neg (by intro h;exact of_decide_eq_false HQ.out h.2)])
   go_wp2_with (first
    | ((with_reducible show WL none (.store 71 (.tmp 2) (.tmp 56)));refine aE rfl 71 (.tmp 2) (.tmp 56) rfl w.heap.size 0 J rfl rfl _ _ (r.keep.blk B.out id) (by simp) (cR o) qt ?_;intro qu f l;have K:=O f;have F:=O l;clear f l))
   refine bodyPost_ret (bO rfl _ _ w.heap.size _ _ _ _ rfl K.out cP rfl (by rw[cU,List.size_toArray];exact cR o)) rfl ?_;rw[N.out];refine⟨.slice none 0 0,?_,World.ownsRow_nil _ _ _ _,?_⟩
   ·rw[aI _ _ (by simp),HZ.out];rfl
   ·exact(s.trans r.keep).tT F.out (fun i hi e=>by omega)
  ·have N:=O (show bC b=(dW b,0) by unfold bC;rw[if_neg (by rw[L.out];simp),if_neg qe.out,if_pos ⟨HT.out,of_decide_eq_true HQ.out⟩])
   go_wp2_with (first
    | ((with_reducible show WL _ (.load 71 (.tmp 59)));refine aP (by rfl) 71 (.tmp 59) rfl (sb) 1 rfl uc _ qd.out cP rfl (cR H) ?_)
    | ((with_reducible show WL none (.store 71 (.tmp 2) (.tmp 60)));refine aE rfl 71 (.tmp 2) (.tmp 60) rfl w.heap.size 0 uc rfl rfl _ _ (r.keep.blk B.out id) (by rw[List.size_toArray,o,H];exact Nat.le_refl _) (cR H) qy ?_;intro qu f l;have K:=O f;have F:=O l;clear f l))
   have q7:0+uc.length=J.toArray.size:=by rw[List.size_toArray,o,H]
   refine bodyPost_ret (bO rfl _ _ w.heap.size _ _ _ _ rfl K.out cP rfl (by rw[cU,List.size_toArray];exact cR o)) rfl ?_;rw[N.out];have q9:w.heap.size<I.heap.size:=lt_of_block B.out;refine⟨.slice oa m ca,?_,?_,?_⟩
   ·rw[aI _ _ (by rw[List.size_toArray,o,H]),←qw.out];rfl
   ·rw[HM.out]
    exact aQ (F.owns Z.out (fun g hg e=>by have:=aX Z.out hg;omega)) (by omega)
   ·exact(s.trans r.keep).tT F.out (fun i hi e=>by omega)
theorem Gv(w:World)(aF aR:Addr)(i:iK w aF aR)(c:Value)(b:List UInt8)(g:Rd w 1 c b.length (b.map vb))(l:b.length≤65536) :
 Calls prog 200 #[c] w (fU w (bC b)):=by
 by_cases f:b.length=256
 ·by_cases h:b=List.replicate 256 0
  ·exact Fx w c b g f h
  ·by_cases d:pM b
   ·rcases k:gE (gX b) with _|_
    ·exact FA w aF aR i c b g f h d k
    ·exact FB w aF aR i c b g f h d k
   ·exact Fz w aF aR i c b g f h d
 ·have e:bC b=(zUb,4):=by unfold bC;rw[if_pos f]
  rw[e];exact Gu w c b g l f
end
section
open Go.RowKit
open Go.RowKit Go.Maps Go.ChangeMaps
theorem FC(b:List UInt8):(bC b).1.root.sum.length=32/\(bC b).1.pool.length=32/\jF (bC b).1.root.addrs:=by
 by_cases h:(bC b).2=0
 ·obtain⟨c,d,-,-⟩:=BJ h
  rw[d];exact⟨rP c,sH c,AI _ _⟩
 ·rw[I8 h]
  exact⟨rfl,rfl,fun x e=>by cases e⟩
theorem fU.V{w w':World}{b:List UInt8}{e:Ending}(h:fU w (bC b) e w'):∃v,e=.returned (.tuple #[.agg (aV v (bC b).1).toArray,.int .i64 (bC b).2])/\UbV w' v (bC b).1 /\
 w'.ownsRow w.heap.size 93 2 v (bC b).1.root.addrs.length (aJ (bC b).1.root.addrs)/\aA aB w w':=by
 obtain⟨v,i,c,k⟩:=h;obtain⟨d,f,g⟩:=FC b;exact⟨v,i,⟨⟨Rd.of_owns c,g,d⟩,f⟩,c,k⟩
end
section
open Go.RowKit Go.Maps Go.ChangeMaps
structure oR(w:World)(v:Value)(hs:List (List UInt8)):Prop where
 rows:∃vs:List Value,Rd w 1 v hs.length vs/\∀(i:Nat) (L:List UInt8),hs[i]?=some L->∃u,vs[i]?=some u/\Rd w 1 u L.length (L.map vb)
variable{w:World}{v:Value}{hs:List (List UInt8)}
theorem oR.keep{w':World}(h:oR w v hs)(k:aA aB w w'):oR w' v hs:=by
 obtain⟨l,c,d⟩:=h.rows;refine⟨l,c.keep k fun _ _=>id,fun i L g=>?_⟩;obtain⟨u,e,f⟩:=d i L g;exact⟨u,e,f.keep k fun _ _=>id⟩
theorem oR.at(h:oR w v hs){i:Nat}{L:List UInt8}(r:hs[i]?=some L) :
 ∃g o d a c,v=.slice (some ⟨g,o,none⟩) hs.length d/\w.cell? ⟨g,o+i,none⟩=some (.slice a L.length c)/\Rd w 1 (.slice a L.length c) L.length (L.map vb):=by
 obtain⟨s,k,l⟩:=h.rows;obtain⟨u,e,f⟩:=l i L r;obtain⟨a,c,rfl,-,-⟩:=f.form;obtain⟨h0,b,d,rfl,-,-,-,m⟩:=k;obtain⟨g,o,rfl,q⟩:=m (by have:=(List.getElem?_eq_some_iff.1 e).1;omega);exact⟨g,o,d,a,c,rfl,q i _ e,f⟩
theorem oR.form(h:oR w v hs):∃a c,v=.slice a hs.length c/\hs.length≤maxLen:=by
 obtain⟨i,d,e⟩:=h.rows;obtain⟨_,a,c,rfl,f,g,-⟩:=d;exact⟨a,c,rfl,by omega⟩
open Go.RowKit Go.Maps Go.ChangeMaps
set_option maxRecDepth 100000
set_option linter.unusedVariables false
end
end Go.Proofs.YtoeinblfcbpcmaaGreatDoor
