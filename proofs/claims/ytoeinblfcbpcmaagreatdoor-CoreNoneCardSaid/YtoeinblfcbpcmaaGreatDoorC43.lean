import Derived.Test.YtoeinblfcbpcmaaGreatDoorC37
import Derived.Test.YtoeinblfcbpcmaaGreatDoorC42
namespace Go.Proofs.YtoeinblfcbpcmaaGreatDoor
open Tryz
set_option maxHeartbeats 0
set_option maxRecDepth 100000
set_option linter.unusedVariables false
section
open Go.RowKit Go.Maps Go.ChangeMaps
def Qw:List Value:=List.replicate 32 (.int .u8 0)
variable{pid:List UInt8}{D cp Z:Nat}{w:World}
theorem Oh:Qw.length=32:=rfl
theorem Q0:Hid (∀w,(zeroValue 31).run prog w=.ok (.agg Qw.toArray) w):=O fun w=>by kernel_rfl
theorem FS:(prog.info? 112).map (fun i=>(i.zero,i.size,i.bytes))=some (some (.agg iY.cells.toArray),37,72):=by kernel_rfl
def fR(pid:List UInt8)(D cp Z k:Nat):List Lab:=(List.range k).map fun d=>cG pid d D cp Z
theorem L5(pid:List UInt8)(D cp Z k:Nat):(fR pid D cp Z k).length=k:=by unfold fR;rw[List.length_map,List.length_range]
theorem wB(pid:List UInt8)(D cp Z k:Nat):fR pid D cp Z (k+1)=fR pid D cp Z k++[cG pid k D cp Z]:=by unfold fR;rw[List.range_succ,List.map_append];rfl
theorem JA{k:Nat}{x:Lab}(h:x∈fR pid D cp Z k):x.pool=pid:=by
 obtain⟨d,-,rfl⟩:=List.mem_map.1 h;rfl
theorem yS(f:2≤D/\D≤8/\8≤Z/\Z≤4096)(e:1≤cp/\cp≤3/\cp≤D):∀k,k≤D->dG (fR pid D cp Z k) pid=k
 | 0,_=>rfl
 | k+1,h=>by
   rw[wB,sQ,yS f e k (by omega),if_pos ⟨qI (by omega) f e.1 e.2.1 e.2.2,rfl⟩]
theorem BZ{p:List UInt8}(e:p≠pid):∀k,dG (fR pid D cp Z k) p=0
 | 0=>rfl
 | k+1=>by
   rw[wB,sQ,BZ e k,if_neg fun h=>e h.2.symm]
theorem GC(e:2≤D/\D≤8/\8≤Z/\Z≤4096)(f:1≤cp/\cp≤3/\cp≤D):(kF (fR pid D cp Z D)).1=pid/\0<(kF (fR pid D cp Z D)).2:=
 Jy (by rw[yS e f D (Nat.le_refl _)];omega) fun p g=>by rw[yS e f D (Nat.le_refl _),BZ g];omega
theorem GD(w:World)(L:Lab)(pid:List UInt8)(o:L.pool=pid)(f:pid.length=32)(p:Nat)(r:w.heap[p]?=some (.cells (pid.map vb).toArray 31 (0,0))):Calls prog 71 #[.agg L.cells.toArray,.pointer p] w (aN w (.bool true)):=by
 obtain⟨j,e⟩:=zX9 L.cells
 have z:j.length=37:=by rw[←e];exact L.cells_length (by rw[o];exact f)
 have t:Hid (∀u∈j,u.oneCell'=true):=O (by rw[←e];exact jT _);have k:Hid (j=pid.map vb++L.nums):=O (by rw[←e,←o];rfl);have n:=O r;have y:=EH pid pid f f;rw[decide_eq_true rfl] at y;have g:(pid.map vb).length=32:=by rw[List.length_map];exact f
 rw[e];have i:=lN w;clear e r;go_in
 go_wp2_with refine bxM i (j.toArray) ?_
 intro v A q i;replace n:=O (q.blk n.out id);clear q
 go_wp2_with (first
  | refine ldM v 0 (pid.map vb) (by have h:=aD (i.b 0);rw[k.out] at h;exact Aj h) underlying31 (by rw[g];exact oA) ?_
  | refine ldM p 0 (pid.map vb) (aD n.out) underlying31 (by rw[g];exact oA) ?_)
 go_ret;exact aN.of i.keep
theorem JB(w:World)(v:Value)(l:List Lab)(x:Lab)(K:pO l)(A:Rd w 37 v l.length (eU l))(h0:l[0]?=some x)(pid:List UInt8)(C:x.pool=pid)(j:pid.length=32)(p:Nat)(z:w.heap[p]?=some (.cells (pid.map vb).toArray 31 (0,0))):Calls prog 70 #[v,.func (.func 71) #[] #[.pointer p]] w (aN w (.int .i64 0)):=by
 have I:=(List.getElem?_eq_some_iff.1 h0).1;obtain⟨g,o,H,rfl,h⟩:=FP K A h0;obtain⟨n,k⟩:=zX9 l.length
 rw[k] at I ⊢;have t:=O (GD w x pid C j p z);obtain⟨E,f⟩:=zX9 x.cells
 have q:E.length=37:=by rw[←f];exact x.cells_length (by rw[C];exact j)
 rw[f] at t h;rw[Nat.zero_mul,Nat.add_zero] at h;have G:=O h;have J:(0:Int)<(n:Int):=by omega
 clear A h f z k h0;go_in;go_wp2_with fail
 go_loopw [4,5,8] (fun _ _ i wr=>i=.int .i64 0/\wr=w) (fun _ _ _ _=>0)
 case atStart=>exact⟨rfl,rfl⟩
 case round =>
  obtain⟨rfl,r⟩:=hrel;subst r
  go_wp2_with ((with_reducible show WL _ _);refine ldM g o E G.out underlying112 (by rw[q];exact gF) ?_)
  refine t.mono ?_;rintro e L ⟨rfl,y⟩;have F:=O y;clear y;go_wp2;go_ret;exact aN.of F.out
def Hh(w:World)(a:Nat)(pid:List UInt8)(cp:Nat)(B:Nat->Prop)(D Z:Nat)(f:Nat->Nat->List UInt8)(nw:Nat)(u:Ub)(e:Ending)(w':World):Prop:=
 ∃c m lb rv,e=.returned (.tuple #[.pointer (some ⟨c,0,none⟩),.int .i64 0])/\eJ w' c a m lb (.slice none 0 0) pid cp (.pointer none) ⟨rv,u,.slice none 0 0,[],.slice none 0 0,[]⟩ B D Z f nw/\(w.heap.size≤c/\w.heap.size≤m/\w.heap.size≤lb/\(∀i,rv.ownBlock=some i->w.heap.size≤i)/\c≠m/\lb≠c/\lb≠m/\∀i,rv.ownBlock=some i->i≠c/\i≠m/\i≠lb)/\aA aB w w'
theorem GE{a:Nat}{nw:Nat}{B:Nat->Prop}{H:Nat->Nat->List UInt8}(ha:bE w a B D Z H nw)(qa:pid.length=32)(qj:1≤cp/\cp≤3/\cp≤D)(Y:∀d,d<D->H d 0=dL (cG pid d D cp Z)){aF aR:Addr}(hg:iK w aF aR){u:Ub}(hF:∀d,d<D->(lR [H d 1,H d 2,H d 3,H d 4] pid).1=[u]){d s:Nat}(hU:Jp u D Z d s H):Calls prog 24 #[.pointer a] w (Hh w a pid cp B D Z H nw u):=by
 have zy:=ha.bd;have j:=O ha;have t:=O hg;have r:=O qa;have qr:=O qj;have qx:=O Y;have HF:=O hF;have zw:=O hU;have qo:=O (fun i (e:B i)=>ha.lt e);have q9:=O (GC (pid:=pid) zy qj);have g:=lN w;have zx:¬(D:Int)=0:=by omega
 have z7:((D:Int) == 0)=false:=by rw[beq_eq_false_iff_ne];exact zx
 clear ha hg qa qj Y hF hU;go_in;go_wp2_with fail;refine(iW j.out).mono ?_;rintro e w1 ⟨rfl,f⟩;replace g:=kL g f;replace j:=O (j.keep0 f);replace t:=O (t.keep f);clear f;go_wp2_with fail;refine(xU j.out).mono ?_;rintro e w2 ⟨rfl,f⟩;replace g:=kL g f;replace j:=O (j.keep0 f);replace t:=O (t.keep f);clear f;go_wp2_with fail;refine(iW j.out).mono ?_;rintro e w3 ⟨rfl,f⟩;replace g:=kL g f;replace j:=O (j.keep0 f);replace t:=O (t.keep f);clear f;go_wp2_with fail;have zr:=O g.keep;have qc:=j;have qt:=t;clear g j t
 go_loopw [4,5,6,7,22] (fun v _ _ _ i wr=>∃(k:Nat) (pa:Option Addr) (X:Nat),k≤D/\i=.int .i64 (k:Int)/\v=.slice pa k X/\Hid (aA aB w3 wr)/\Hid (wr.ownsRow w3.heap.size 112 37 (.slice pa k X) k (eU (fR pid D cp Z k)))) (fun _ _ _ _ i _=>D-(intOf i).toNat)
 case atStart=>exact⟨0,none,0,by omega,rfl,rfl,O (aA.refl _ _),O (World.ownsRow_nil _ _ _ _)⟩
 case round =>
  obtain⟨k,pa,X,f,rfl,rfl,HK,K⟩:=hrel
  by_cases zh:k<D
  ·have xc:(0:Int)≤(k:Int):=by omega
   have xd:(k:Int)<(D:Int):=by omega
   have g:=lN wr;have j:=O (qc.keep0 HK.out);have HW:=O HK.size;obtain⟨lc,y⟩:=zX9 ((cG pid k D cp Z).cells)
   have G:lc.length=37:=by rw[←y];exact Lab.cells_length _ r.out
   have q3:Hid (∀u∈lc,u.oneCell'=true):=O (by rw[←y];exact jT _);have qy:=O y;clear y;go_wp2_with fail;refine((xV j.out r.out zh qr.out (qx k zh))).mono ?_;rintro e w4 ⟨rfl,f⟩;rw[qy.out];replace g:=kL g f;replace j:=O (j.keep0 f);replace K:=O (f.owns K.out fun _ _=>id);clear f
   go_wp2_with ((with_reducible show WL _ _);refine alW (O kZ) G oQ (by rw[G];exact G0) q3.out ?_)
   intro b6 w6 F f hb
   replace g:=lW g F f hb;replace j:=O (j.keep0 f);replace K:=O (f.owns K.out fun _ _=>id);clear F f hb;clear j;have zu:=O g.keep.size;have qz:=O g.keep;have q4:=K;obtain⟨we,zm,U,qh,-⟩:=aM w6 lc.toArray 112;obtain⟨bx,R⟩:=zX9 w6.heap.size
   rw[R] at qh;have zb:Hid (Rd we 37 (.slice bx 1 1) 1 lc):=O (eL (n:=1) (size:=37) qh (by rw[G]) (by unfold maxLen;omega));have q7:=O (U.owns K.out fun _ _=>id);have z2:=U.size;have qv:=O U;have qp:=O R;clear qh U
   go_wp2_with (first
    | ((with_reducible show WL (some 33) (.load 112 _));refine ldR (g.b 0) underlying112 (by rw[G];exact G0) ?_)
    | ((with_reducible show WL _ (.buildSlice _ 1 _));refine bX rfl 127 112 (.tmp 33) rfl underlying127 FS (by decide) lc G (by decide) rfl ?_;rw[zm,R])
    | (at_builtin;refine aK rfl (.tmp 32) (.tmp 34) 127 rfl w3.heap.size 112 (.agg iY.cells.toArray) 37 72 underlying127 FS rfl (by decide) (.slice pa k X) k (eU (fR pid D cp Z k)) rfl q7.out (.slice bx 1 1) 1 lc rfl zb.out q3.out (by unfold maxLen;omega) (by omega) (by have h1:=HW.out;have h2:=zu.out;omega) ?_))
   intro v2 w8 qk zg zz xb;obtain⟨g2,c2,rfl⟩:=ownsRow_succ qk;clear zm R zz zb q7;have zt:Hid (aA aB w3 w8):=O (Dr HK.out (qv.owns q4.out fun _ _=>id) (qz.trans qv.out) zg)
   have zv:Hid (w8.ownsRow w3.heap.size 112 37 (.slice g2 (k+1) c2) (k+1) (eU (fR pid D cp Z (k+1)))):=O (by
    rw[wB,show eU (fR pid D cp Z k++[cG pid k D cp Z])=eU (fR pid D cp Z k)++lc from by unfold eU;rw[List.flatMap_append,←qy.out];simp];exact qk)
   clear qk zg g K q4 qz;go_wp2
   go_roundw
   case rel=>exact⟨k+1,some ⟨g2,0,none⟩,c2,by omega,by go_num,rfl,zt,zv⟩
   case measure=>simp[intOf];omega
  ·obtain rfl:k=D:=by omega
   have j:=O (qc.keep0 HK.out);have t:=O (qt.keep HK.out);have g:=lN wr;have J:Hid (aA aB w wr):=O (zr.trans HK.out);have o:Hid (Rd wr 37 (.slice pa k X) k (eU (fR pid k cp Z k))):=O (Rd.of_owns K.out);have V:(fR pid k cp Z k).length=k:=L5 _ _ _ _ _;have qd:=O V;have qe:Hid (pO (fR pid k cp Z k)):=O fun x hx=>by rw[JA hx];exact r.out
   obtain⟨pl,z⟩:=zX9 (pid.map vb)
   have ql:pl.length=32:=by rw[←z,List.length_map];exact r.out
   have q5:Hid (∀u∈pl,u.oneCell'=true):=O (by rw[←z];exact bA _);have E:=O z;obtain⟨ga,oa,z6,zl,qm⟩:=FP qe.out (by rw[V];exact o.out) (k:=0) (x:=cG pid 0 k cp Z) (by unfold fR;rw[List.getElem?_map,List.getElem?_range (by omega)];rfl);rw[V] at zl;cases zl
   rw[Nat.zero_mul,Nat.add_zero] at qm;have q:Hid (World.cell? wr ⟨ga,oa+34,none⟩=some (.int .i64 (cp:Int))):=O (qm 34 _ (by rw[Lab.cells_num _ r.out 2];rfl));clear qc qt K z V qm;go_wp2_with fail;refine((QZ wr (.slice (some ⟨ga,oa,none⟩) k X) (fR pid k cp Z k) qe.out (by rw[qd.out];exact o.out) (by rw[qd.out];omega))).mono ?_;rintro e wc ⟨rfl,f⟩;rw[q9.1,decide_eq_true q9.2,E.out];replace g:=kL g f;replace j:=O (j.keep0 f);replace t:=O (t.keep f);replace o:=O (o.keep f fun _ _=>id);replace q:=O (f.cell q.out id);clear f
   go_wp2_with ((with_reducible show WL _ _);refine alW Q0 ql Oh (by rw[ql];exact oA) q5.out ?_)
   intro b8 we F f hb
   replace g:=lW g F f hb;replace j:=O (j.keep0 f);replace t:=O (t.keep f);replace o:=O (o.keep f fun _ _=>id);replace q:=O (f.cell q.out id);clear F f hb;go_wp2_with fail;refine((JB we (.slice (some ⟨ga,oa,none⟩) k X) (fR pid k cp Z k) (cG pid 0 k cp Z) qe.out (by rw[qd.out];exact o.out) (by unfold fR;rw[List.getElem?_map,List.getElem?_range (by omega)];rfl) pid rfl r.out b8 (by rw[E.out];exact g.b 0))).mono ?_;rintro e wf ⟨rfl,f⟩;replace g:=kL g f;replace j:=O (j.keep0 f);replace t:=O (t.keep f);replace o:=O (o.keep f fun _ _=>id);replace q:=O (f.cell q.out id);clear f;have xe:¬k=0:=by omega
   go_wp2_with fail;refine dwA aB (by kernel_rfl) ?_;intro wg S L zd N A;replace g:=kL g A;replace j:=O (j.keep0 A);replace t:=O (t.keep A);replace o:=O (o.keep A fun _ _=>id);replace q:=O (A.cell q.out id);clear A;have q0:=g;have zn:=j;have zq:=t;have za:=o;have W:=q;refine tna 0 (.pointer a) rfl N ?_;refine tnd 1 (.agg pl.toArray) rfl (yieldsIf_load_mid (by rfl) 31 (.tmp 8) rfl b8 0 rfl pl _ (fun w' h=>aD ((L w' h).blk (q0.b 0) id)) underlying31 rfl (by rw[ql];exact oA)) N ?_;refine tna 2 (.slice (some ⟨ga,oa,none⟩) k X) rfl N ?_;refine tna 3 (.int .i64 0) rfl N ?_;refine tnb 4 (.pointer (some ⟨ga,oa,none⟩)) rfl N ?_;refine tnb 5 (.pointer (some ⟨ga,oa+34,none⟩)) rfl N ?_;refine tnd 6 (.int .i64 (cp:Int)) rfl (.inl ⟨by rfl,fun w' z1=>by have c:World.cell? w' ⟨ga,oa+34,none⟩=some (.int .i64 (cp:Int)):=(L w' z1).cell W.out id;go_simp⟩) N ?_;refine wA9 7 ?_;go_wp2_with fail;have qf:=O g.keep.size;have zp:=O (g.lt 0);refine((by rw[←E.out];exact Fi j.out pid r.out cp:Ka wg (xW wg a pid cp))).mono ?_;rintro e wh ⟨c,m,rfl,qi,zj,zf,zk,zi,f⟩;have qq:=O qi;have q1:=O zj;have I:=O (And.intro zf (And.intro zk zi));have zo:=O (lt_of_block qi.top);clear qi zj zf zk zi;have qg:=zd.out _ ((L _ N).trans f);replace g:=kL g f;replace j:=O (j.keep0 f);replace t:=O (t.keep f);replace o:=O (o.keep f fun _ _=>id);replace q:=O (f.cell q.out id);clear N f;go_wp2_with fail;refine⟨qg,?_⟩;refine tna 8 (.pointer c) rfl qg ?_;refine wpAnyH_done (by kernel_rfl) ?_ _;clear qg L zd q0 zn zq za W;have C:Hid (eJ wh c a m b8 (.slice none 0 0) pid cp (.pointer none) lJ B k Z H nw):=O ⟨qq.out,j.out,q1.out,⟨_,_,g.b 0,by decide,.inl rfl⟩,qr.out,qx.out⟩;have qp:=O (show ¬B c/\m≠c from⟨fun e=>by have h1:=qo.out _ e;have h2:=J.size;have h3:=qf.out;have h4:=I.1;omega,by have h4:=I.2.2;omega⟩);have qu:=t;have qw:=O g.keep;clear j t qq q1 o q g;have g:=lN wh;go_wp2_with fail;refine((Jq C.out qp.out qu.out HF.out zw.out)).mono ?_;rintro e wi ⟨rfl,rv,ze,qn,f⟩
   have HP:Hid (Hh w a pid cp B k Z H nw u (.returned (.tuple #[.pointer c,.int .i64 0])) wi):=O ⟨c,m,b8,rv,rfl,ze,by
    have h1:=J.size;have h2:=qf.out;have h3:=I.out;have h4:=zp.out;have h5:=qw.size;have h6:=zo.out;have h7:=lt_of_block C.mir;refine⟨by omega,by omega,by omega,fun i hi=>by have h8:=qn i hi;omega,by omega,by omega,by omega,fun i hi=>?_⟩;have h8:=qn i hi;have h9:=C.liv.lt;have xa:=lt_of_block C.cor.top;exact⟨by omega,by omega,by omega⟩,(J.trans qw.out).tT f fun i hi e=>by have h1:=J.size;have h2:=qf.out;have h3:=I.1;omega⟩
   clear ze qn f g C qu;go_wp2
   go_ret2
   exact HP.out
def KB(c m lb:Nat)(e:Nat->Prop)(g f:Nat)(h:Nat->Option Nat)(D:Nat)(t:Lst)(k:Nat):Prop:=k=c\/k=m\/k=lb\/e k\/Own g f h D k\/t.Own k
theorem KB.grow{c m lb g j:Nat}{i f:Nat->Prop}{l:Nat->Option Nat}{t n:Lst}(o:∀k,f k->i k\/w.heap.size≤k)(q:∀k,n.Own k->t.Own k\/w.heap.size≤k):∀k,KB c m lb f g j l D n k->KB c m lb i g j l D t k\/w.heap.size≤k:=by
 rintro k (e|e|e|e|e|e)
 ·exact .inl (.inl e)
 ·exact .inl (.inr (.inl e))
 ·exact .inl (.inr (.inr (.inl e)))
 ·exact(o k e).imp (fun h=>.inr (.inr (.inr (.inl h)))) id
 ·exact .inl (.inr (.inr (.inr (.inr (.inl e)))))
 ·exact(q k e).imp (fun h=>.inr (.inr (.inr (.inr (.inr h))))) id
def KX(w:World)(c a:Nat)(pid:List UInt8)(u:Ub)(ol vl:List Ad)(nw:Nat)(S:Kor)(B:Nat->Prop):Prop:=
 S.Bd/\u.txg=S.txg/\∃m lb g f i h e t,(t.u=u/\t.ol=ol/\t.vl=vl)/\(m≠c/\lb≠c)/\fI w c a m lb g f i h pid S.cp t e S.D S.Z S.M nw S.L/\B=KB c m lb e g f h S.D t
section
variable {w w':World}{c a:Nat}{pid:List UInt8}{u:Ub}{ol vl:List Ad}{nw:Nat}{S:Kor}{B:Nat->Prop}
theorem KX.ki(h:KX w c a pid u ol vl nw S B):KI w c S B:=by
 obtain⟨j,k,m,lb,g,f,n,l,e,t,⟨rfl,o,q⟩,r,i,rfl⟩:=h;exact⟨j,a,m,lb,g,f,n,l,pid,e,nw,t,k,i,rfl⟩
theorem KX.bd(h:KX w c a pid u ol vl nw S B):S.Bd:=h.1
theorem KX.lt(h:KX w c a pid u ol vl nw S B){k:Nat}(e:B k):k<w.heap.size:=h.ki.lt e
theorem KX.keepT{T:Nat->Prop}(h:KX w c a pid u ol vl nw S B)(k:aA T w w')(r:∀i,T i->¬B i):KX w' c a pid u ol vl nw S B:=by
 obtain⟨v,y,m,lb,g,l,A,z,j,t,n,o,q,rfl⟩:=h;refine⟨v,y,m,lb,g,l,A,z,j,t,n,o,q.keepT k fun i e=>?_,rfl⟩;have f:=r i e;exact⟨fun e=>f (.inl e),fun e=>f (.inr (.inl e)),fun e=>f (.inr (.inr (.inl e))),fun e=>f (.inr (.inr (.inr (.inl e)))),fun e=>f (.inr (.inr (.inr (.inr (.inl e))))),fun e=>f (.inr (.inr (.inr (.inr (.inr e)))))⟩
theorem KX.keep0(h:KX w c a pid u ol vl nw S B)(k:aA aB w w'):KX w' c a pid u ol vl nw S B:=h.keepT k fun _ e=>e.elim
theorem KX.arr(h:KX w c a pid u ol vl nw S B):∃e,bE w a e S.D S.Z S.M nw/\(∀k,e k->B k)/\(∀d,d<S.D->S.M d 0=dL (cG pid d S.D S.cp S.Z))/\pid.length=32:=by
 obtain⟨n,o,m,lb,g,i,r,q,e,t,j,l,f,rfl⟩:=h;exact⟨e,f.cor.arr,fun k h=>.inr (.inr (.inr (.inl h))),f.cor.lab,f.cor.cor.idl⟩
def pP(w:World)(c a:Nat)(pid:List UInt8)(u:Ub)(ol vl:List Ad)(nw:Nat)(S:Kor)(B:Nat->Prop)(r:Option (Pt×Kor))(e:Ending)(w':World):Prop:=
 match r with
 | none=>e=.returned (.tuple #[.agg (aL (.slice none 0 0) zPt).toArray,.int .i64 15])/\aA aB w w'
 | some (p,T)=>∃v f,e=.returned (.tuple #[.agg (aL v p).toArray,.int .i64 0])/\gZ w' f v p/\KX w' c a pid u ol vl (nw+p.addrs.length) T f/\(∀k,f k->B k\/w.heap.size≤k)/\AQ w v/\aA B w w'
theorem KX.put(h:KX w c a pid u ol vl nw S B){lv:Nat}(r:lv≤3){vv:Value}{f:List UInt8}(q:f.length=256)(N:Rd w 1 vv 256 (f.map vb))(E:∀i,vv.ownBlock=some i->¬B i):Calls prog 12 #[.pointer c,.int .i64 (lv:Int),vv] w (pP w c a pid u ol vl nw S B (S.put lv f)):=by
 obtain⟨j,F,m,lb,g,G,yv,J,U,t,⟨rfl,V,W⟩,X,y,rfl⟩:=h;have o:∀i,vv.ownBlock=some i->¬U i/\¬Own g G J S.D i:=fun i L=>⟨fun e=>E i L (.inr (.inr (.inr (.inl e)))),fun e=>E i L (.inr (.inr (.inr (.inr (.inl e)))))⟩
 cases z:bL (bN S.L S.D S.Z) (List.replicate S.D true) S.cp with
 | none =>
   have e:S.put lv f=none:=by unfold Kor.put Kor.allUp;rw[z]
   rw[e];refine(G2 y (by rw[F];exact⟨j.t0,j.t1⟩) lv r vv f q N o z).mono ?_;rintro e w' ⟨rfl,C⟩;exact⟨rfl,C⟩
 | some l =>
   have e:S.put lv f=some (⟨aU S.L S.Z l,S.txg+1,(lv:Int),bU f⟩,⟨S.D,S.Z,S.cp,S.L++aU S.L S.Z l,fP f (aU S.L S.Z l) S.M,S.txg⟩):=by unfold Kor.put Kor.allUp;rw[z]
   have H:=oC j r q e;rw[e];refine(C8 y (by rw[F];exact⟨j.t0,j.t1⟩) lv r vv f q N o (lB j.d8 j.z4) z).mono ?_;rintro e w' ⟨v,K,rfl,I,hI,Y,R,C⟩;have A:∀k,v.ownBlock=some k->w.heap.size≤k:=fun k C=>bG I C
   refine⟨v,KB c m lb K g G J S.D t,by rw[F],⟨⟨Rd.of_owns I,fun x hx=>lB j.d8 j.z4 x (H.1.lies x hx).1,H.1.sl⟩,fun k n=>⟨?_,?_⟩⟩,⟨H.2.2.1,F,m,lb,g,G,yv,J,K,t,⟨rfl,V,W⟩,X,hI,rfl⟩,KB.grow Y fun k h=>.inl h,A,C.mono fun k _ e=>.inr (.inr (.inr (e.imp id .inl)))⟩
   ·have h9:=A k n
    rintro (rfl|rfl|rfl|e|e|e)
    ·have:=lt_of_block y.cor.cor.top;omega
    ·have:=lt_of_block y.cor.mir;omega
    ·have:=y.cor.liv.lt;omega
    ·exact(R k n).1 e
    ·exact(R k n).2 e
    ·have:=y.cor.cor.lst.lt e;omega
   ·obtain⟨cur,z⟩:=aH I n
    exact⟨_,_,z⟩
def yT(w:World)(c a:Nat)(pid:List UInt8)(ol vl:List Ad)(S:Kor)(B:Nat->Prop)(p:Pt)(n:Int)(e:Ending)(w':World):Prop:=
 e=.returned (.int .i64 0)/\∃f g,((∀d s,s≠(eC (S.txg+1)).toNat->f d s=S.M d s)/\∀d,d<S.D->f d (eC (S.txg+1)).toNat=aY ⟨S.txg+1,p,n,pid⟩)/\KX w' c a pid ⟨S.txg+1,p,n,pid⟩ ol vl 0 ⟨S.D,S.Z,S.cp,S.L,f,S.txg+1⟩ g/\(∀k,g k->B k\/w.heap.size≤k)/\aA B w w'
theorem KX.commit(h:KX w c a pid u ol vl nw S B)(v:S.txg+1<2147483648)(l:Value)(p:Pt)(L:PtV w l p)(i:p.addrs.length≤65536)(n:Int)(r:0≤n/\n≤16384)(N:p.hole=true\/(p.may=true/\p.level=3/\p.birth≤S.txg+1)):Calls prog 26 #[.pointer c,.agg (aL l p).toArray,.int .i64 n] w (yT w c a pid ol vl S B p n):=by
 obtain⟨f,j,m,lb,g,A,U,R,V,t,⟨rfl,H,I⟩,J,G,rfl⟩:=h
 have K:Ub.may ⟨t.u.txg+1,p,n,pid⟩=true:=by
  have h0:=f.t0;unfold Ub.may;rw[j];simp only[Bool.and_eq_true,Bool.or_eq_true,decide_eq_true_eq,beq_iff_eq];refine⟨⟨⟨⟨by omega,by omega⟩,r.1⟩,r.2⟩,N.imp id fun h=>⟨⟨h.1,h.2.1⟩,h.2.2⟩⟩
 refine(Ac G (by rw[j];exact⟨f.t0,v⟩) l p L i n K).mono ?_;rintro e w' ⟨rfl,y,rv,z,o,q,C,E,F⟩;rw[j] at o q;refine⟨rfl,z,_,o,⟨⟨f.d2,f.d8,f.z8,f.z4,f.c1,f.c3,f.cD,by show 0≤S.txg+1;have:=f.t0;omega,v⟩,rfl,m,lb,g,A,U,R,y,⟨rv,⟨S.txg+1,p,n,pid⟩,t.ov,t.ol,t.vv,t.vl⟩,⟨rfl,H,I⟩,J,q,rfl⟩,KB.grow C ?_,F.mono fun k _ e=>?_⟩
 ·rintro k (e|e)
  ·exact .inr (E k e)
  ·exact .inl (.inr e)
 ·rcases e with e|rfl
  ·exact .inr (.inr (.inr (.inl e)))
  ·exact .inl rfl
theorem KX.uber(h:KX w c a pid u ol vl nw S B):Calls prog 30 #[.pointer c] w (zE w u):=by
 obtain⟨n,o,m,lb,g,i,r,q,f,t,⟨rfl,j,k⟩,l,e,rfl⟩:=h;exact yC e.cor.cor
def nO(w:World)(c a:Nat)(pid:List UInt8)(u:Ub)(ol vl:List Ad)(nw:Nat)(S:Kor)(B:Nat->Prop)(e:Ending)(w':World):Prop:=
 e=.returned (.int .i64 0)/\∃f,KX w' c a pid u ol vl nw ⟨S.D,S.Z,S.cp,cX (ol++vl),S.M,S.txg⟩ f/\(∀k,f k->B k\/w.heap.size≤k)/\aA B w w'
theorem KX.hold(h:KX w c a pid u ol vl nw S B)(v:Value)(l:List Ad)(I:Rd w 2 v l.length (aJ l))(n:∀x∈vl++l,bW x S.D S.Z)(j:vl.length≤32768/\l.length≤32768)(o:nw≤7000):Calls prog 29 #[.pointer c,v] w (nO w c a pid u vl l nw S B):=by
 obtain⟨f,y,m,lb,g,N,L,U,z,t,⟨rfl,R,rfl⟩,r,i,rfl⟩:=h;refine(Dd i.cor ⟨⟨i.top.1,i.top.2.1,i.top.2.2.1⟩,r,i.top.2.2.2⟩ v l I (fun x J=>lB f.d8 f.z4 x (n x (List.mem_append_right _ J))) n j o (by rw[y];exact f.t0)).mono ?_;rintro e w' ⟨rfl,C,A,q,K,E,F,G,H⟩;refine⟨rfl,_,⟨⟨f.d2,f.d8,f.z8,f.z4,f.c1,f.c3,f.cD,f.t0,f.t1⟩,y,m,lb,C,A,L,q,z,⟨t.rv,t.u,t.vv,t.vl,K,l⟩,⟨rfl,rfl,rfl⟩,r,E,rfl⟩,?_,H.mono fun k _ e=>.inl e⟩;rintro k (e|e|e|e|e|e)
 ·exact .inl (.inl e)
 ·exact .inl (.inr (.inl e))
 ·exact .inl (.inr (.inr (.inl e)))
 ·exact .inl (.inr (.inr (.inr (.inl e))))
 ·exact .inr (G k e)
 ·rcases e with e|e|e
  ·exact .inl (.inr (.inr (.inr (.inr (.inr (.inl e))))))
  ·exact .inl (.inr (.inr (.inr (.inr (.inr (.inr (.inr e)))))))
  ·exact .inr (F k e)
theorem KX.undo(h:KX w c a pid u ol vl nw S B)(l:∀x∈ol++vl,bW x S.D S.Z)(i:ol.length+vl.length≤65536)(j:nw≤7000):Calls prog 14 #[.pointer c] w (nO w c a pid u ol vl nw S B):=by
 obtain⟨f,q,m,lb,g,G,F,H,r,t,⟨rfl,rfl,rfl⟩,o,E,rfl⟩:=h;refine(Lt E o l i j (by rw[q];exact f.t0)).mono ?_;rintro e w' ⟨rfl,y,v,n,z,A,C⟩;refine⟨rfl,_,⟨⟨f.d2,f.d8,f.z8,f.z4,f.c1,f.c3,f.cD,f.t0,f.t1⟩,q,m,lb,y,v,F,n,r,_,⟨rfl,rfl,rfl⟩,o,z,rfl⟩,?_,C.mono fun k _ e=>.inl e⟩;rintro k (e|e|e|e|e|e)
 ·exact .inl (.inl e)
 ·exact .inl (.inr (.inl e))
 ·exact .inl (.inr (.inr (.inl e)))
 ·exact .inl (.inr (.inr (.inr (.inl e))))
 ·exact .inr (A k e)
 ·exact .inl (.inr (.inr (.inr (.inr (.inr e)))))
end
def KY(w:World)(c a:Nat)(pid:List UInt8)(u:Ub)(S:Kor)(B:Nat->Prop):Prop:=
 S.Bd/\u.txg=S.txg/\∃m lb f e rv,Lr w c m lb ⟨rv,u,.slice none 0 0,[],.slice none 0 0,[]⟩ e/\eJ w c a m lb f pid S.cp (.pointer none) ⟨rv,u,.slice none 0 0,[],.slice none 0 0,[]⟩ e S.D S.Z S.M 0/\B=fun k=>k=c\/k=m\/k=lb\/e k\/rv.ownBlock=some k
section
variable {w w':World}{c a:Nat}{pid:List UInt8}{u:Ub}{S:Kor}{B:Nat->Prop}
theorem KY.keepT{T:Nat->Prop}(h:KY w c a pid u S B)(k:aA T w w')(n:∀i,T i->¬B i):KY w' c a pid u S B:=by
 obtain⟨o,q,m,lb,r,g,rv,j,l,rfl⟩:=h;refine⟨o,q,m,lb,r,g,rv,j,l.keep k fun i e=>?_,rfl⟩;have f:=n i e;refine⟨fun e=>f (.inl e),fun e=>f (.inr (.inl e)),fun e=>f (.inr (.inr (.inl e))),fun e=>f (.inr (.inr (.inr (.inl e)))),fun e=>?_⟩;rcases e with e|e|e
 ·exact f (.inr (.inr (.inr (.inr e))))
 ·cases e
 ·cases e
theorem KY.keep0(h:KY w c a pid u S B)(k:aA aB w w'):KY w' c a pid u S B:=h.keepT k fun _ e=>e.elim
theorem KY.lt(h:KY w c a pid u S B){k:Nat}(g:B k):k<w.heap.size:=by
 obtain⟨l,n,m,lb,o,i,rv,j,f,rfl⟩:=h;rcases g with rfl|rfl|rfl|e|e
 ·exact lt_of_block f.cor.top
 ·exact lt_of_block f.mir
 ·exact f.liv.lt
 ·exact f.arr.lt e
 ·exact f.cor.lst.lt (.inl e)
theorem KY.uber(h:KY w c a pid u S B):Calls prog 30 #[.pointer c] w (zE w u):=by
 obtain⟨i,j,m,lb,k,f,rv,g,e,rfl⟩:=h;exact yC e.cor
theorem KY.get(h:KY w c a pid u S B){j:Value}{p:Pt}(z:PtV w j p){lv:Nat}{b:List UInt8}(f:qH S p lv b):Calls prog 28 #[.pointer c,.agg (aL j p).toArray] w (mC w b):=by
 obtain⟨G,H,m,lb,I,C,rv,E,v,rfl⟩:=h;have l:=f.lies
 obtain⟨x,rest,n⟩:∃x rest,p.addrs=x::rest:=by
  rcases e:p.addrs with _|⟨x,r⟩
  ·exact(f.ne e).elim
  ·exact⟨x,r,rfl⟩
 have g:=l x (by rw[n];exact List.mem_cons_self ..)
 have t:x=⟨((x.dev.toNat:Nat):Int),((x.sec.toNat:Nat):Int)⟩:=by
  obtain⟨d,s⟩:=x;have i:=g.1;unfold bW at i;have o:((d.toNat:Nat):Int)=d:=Int.toNat_of_nonneg i.1;have q:((s.toNat:Nat):Int)=s:=Int.toNat_of_nonneg (Int.le_trans (by decide) i.2.2.1);show (⟨d,s⟩:Ad)=⟨((d.toNat:Nat):Int),((s.toNat:Nat):Int)⟩;rw[o,q]
 have k:=AP v j p z f.may f.ne_hole (fun y A=>(l y A).1) (by
  have F:=(pD f.may).1;omega) (d:=x.dev.toNat) (s:=x.sec.toNat) (rest:=rest) (by rw[n,←t]) (by rw[g.2.2];exact f.sum)
 rw[g.2.2] at k;exact k
theorem KY.hold(h:KY w c a pid u S B)(v:Value)(l:List Ad)(F:Rd w 2 v l.length (aJ l))(i:∀x∈l,bW x S.D S.Z)(g:l.length≤32768):Calls prog 29 #[.pointer c,v] w (nO w c a pid u [] l 0 S B):=by
 obtain⟨f,o,m,lb,H,q,rv,n,E,rfl⟩:=h;refine(Dd E n v l F (fun x G=>lB f.d8 f.z4 x (i x G)) i ⟨Nat.zero_le _,g⟩ (Nat.zero_le _) (by show 0≤u.txg;rw[o];exact f.t0)).mono ?_;rintro e w' ⟨rfl,t,r,j,I,y,z,A,C⟩;refine⟨rfl,_,⟨⟨f.d2,f.d8,f.z8,f.z4,f.c1,f.c3,f.cD,f.t0,f.t1⟩,o,m,lb,t,r,H,j,q,_,⟨rfl,rfl,rfl⟩,n.2.1,y,rfl⟩,?_,C.mono fun k _ e=>.inl e⟩;rintro k (e|e|e|e|e|e)
 ·exact .inl (.inl e)
 ·exact .inl (.inr (.inl e))
 ·exact .inl (.inr (.inr (.inl e)))
 ·exact .inl (.inr (.inr (.inr (.inl e))))
 ·exact .inr (A k e)
 ·rcases e with e|e|e
  ·exact .inl (.inr (.inr (.inr (.inr e))))
  ·cases e
  ·exact .inr (z k e)
end
variable{w:World}{c a m lb lv s D cp d Z nw:Nat}{pid b:List UInt8}{u:Ub}{S T:Kor}{P:Program}{ops:Array Oper}{rest:List Oper}{Q:Exit->Act->World->Prop}{B:Nat->Prop}{x:Int}{M:Nat->Nat->List UInt8}{p:Pt}{ol vl:List Ad}
theorem KY.of{w':World}{g:Nat->Prop}{rv:Value}(t:S.Bd)(y:u.txg=S.txg)(h:eJ w' c a m lb (.slice none 0 0) pid S.cp (.pointer none) ⟨rv,u,.slice none 0 0,[],.slice none 0 0,[]⟩ g S.D S.Z S.M 0)(j:∀k,g k->k<w.heap.size)
 (v:w.heap.size≤c/\w.heap.size≤m/\w.heap.size≤lb/\(∀i,rv.ownBlock=some i->w.heap.size≤i)/\c≠m/\lb≠c/\lb≠m/\∀i,rv.ownBlock=some i->i≠c/\i≠m/\i≠lb):KY w' c a pid u S (fun k=>k=c\/k=m\/k=lb\/g k\/rv.ownBlock=some k):=by
 obtain⟨z,A,C,n,o,q,E,r⟩:=v;refine⟨t,y,m,lb,_,g,rv,⟨⟨fun e=>by have:=j _ e;omega,fun e=>by have:=j _ e;omega,fun e=>by have:=j _ e;omega⟩,⟨fun e=>o e.symm,q⟩,fun i f=>?_⟩,h,rfl⟩;rcases f with f|f|f
 ·exact⟨fun e=>by have F:=j i e;have l:=n i f;omega,r i f⟩
 ·cases f
 ·cases f
def sec(b:UInt8):List UInt8:=List.replicate 256 b
theorem iZ(b:UInt8):(sec b).length=256:=List.length_replicate
def ofC(x:UInt8)(k:Nat):List Value:=(List.range 256).map fun i=>if i<k then vb x else .int .u8 0
theorem uD(x:UInt8)(k:Nat):(ofC x k).length=256:=by unfold ofC;simp
theorem Oi(x:UInt8):ofC x 0=eT:=by
 rw[show eT=List.replicate 256 (.int .u8 0) from rfl];refine List.eq_replicate_iff.2 ⟨uD x 0,fun v e=>?_⟩;unfold ofC at e;obtain⟨i,-,rfl⟩:=List.mem_map.1 e;exact if_neg (by omega)
theorem Oj(x:UInt8):ofC x 256=(sec x).map vb:=by
 unfold ofC sec;rw[List.map_replicate];refine List.eq_replicate_iff.2 ⟨by simp,fun v f=>?_⟩;obtain⟨i,e,rfl⟩:=List.mem_map.1 f;exact if_pos (List.mem_range.1 e)
theorem PQ(x:UInt8)(k:Nat)(l:k<256):spl (ofC x k).toArray k [vb x]=(ofC x (k+1)).toArray:=by
 show (ofC x k).toArray.setIfInBounds k (vb x)=_;rw[List.setIfInBounds_toArray]
 congr 1
 refine List.ext_getElem (by rw[List.length_set,uD,uD]) fun i f g=>?_
 rw[List.getElem_set];have q:∀j h,(ofC x j)[i]'h=if i<j then vb x else .int .u8 0:=fun j h=>by simp[ofC]
 rw[q,q]
 by_cases e:k=i
 ·subst e;rw[if_pos rfl,if_pos (by omega)]
 ·rw[if_neg e]
  by_cases d:i<k
  ·rw[if_pos d,if_pos (by omega)]
  ·rw[if_neg d,if_neg (by omega)]
def zH(w:World)(x:UInt8)(e:Ending)(w':World):Prop:=∃v,e=.returned v/\w'.ownsRow w.heap.size 5 1 v 256 ((sec x).map vb)/\aA aB w w'
theorem JE(w:World)(av g:Value)(f ys:List UInt8)(j:Rd w 1 av f.length (f.map vb))(k:Rd w 1 g ys.length (ys.map vb))(b:Bool)(l:decide (f=ys)=b):Calls prog 52 #[av,g] w (bM w b):=
 (Kt w av g f ys j k b l).mono fun e w' h=>by obtain⟨i,rfl⟩:=h;exact⟨i,aA.refl _ _⟩
theorem Rb{o:Oper}{a:Act}(t e:TypeId)(x y:Operand)(F:P.underlying t=some (.slice e)){z:Value}{size bytes:Nat}(k:(P.info? e).map (fun i=>(i.zero,i.size,i.bytes))=some (some z,size,bytes))(n:0<size)
 (j g:List Value) (r:j.length=size) (q:g.length=size) (f:2*size≤2 ^ 24) (h:∀b w',w.heap.size=b->aA aB w w'->w'.heap[b]?=some (.cells (j++g).toArray e (0,0))->wpList P ops Q rest (a.put o.dst (.slice (some ⟨b,0,none⟩) 2 2)) w')
 (G:a.eval x=.agg j.toArray:=by rfl) (H:a.eval y=.agg g.toArray:=by rfl) (C:o.guard=none:=by rfl) (E:o.op=.buildSlice t 2 #[(0,x),(1,y)]:=by rfl):wpList P ops Q (o::rest) a w:=by
 refine pW C t e 2 _ E F k n [j,g] (fun l v=>?_) rfl (by decide) f ?_ (h _ _ rfl ((aA.refl _ _).alloc _) ?_)
 ·simp only[List.mem_cons,List.not_mem_nil,or_false] at v
  rcases v with rfl|rfl
  ·exact r
  ·exact q
 ·simp[kI,G,H]
 ·have A:[j,g].flatten=j++g:=by simp
  rw[A];exact heap_alloc_new _ _
def fJ:List UInt8:=7::List.replicate 31 0
theorem Ok:fJ.length=32:=rfl
theorem Qx(w:World):(Instr.build 31 #[(0,.int .u8 7)]).run prog w=.ok (.agg (fJ.map vb).toArray) w:=by kernel_rfl
theorem FT(d n:Int)(w:World):(Instr.build 93 #[(0,.int .i64 d),(1,.int .i64 n)]).run prog w=.ok (.agg (aO ⟨d,n⟩).toArray) w:=by kernel_rfl
def wC(D cp:Nat):Nat->Nat->List UInt8:=xX (fun d=>dL (cG fJ d D cp 8)) (fun _ _=>zB) D
def qO(w:World)(D cp:Nat)(e:Ending)(w':World):Prop:=∃a c nw B,e=.returned (.tuple #[.pointer (some ⟨a,0,none⟩),.pointer (some ⟨c,0,none⟩)])/\KX w' c a fJ ⟨0,zPt,0,List.replicate 32 0⟩ [] [] nw ⟨D,8,cp,[],wC D cp,0⟩ B/\nw≤1000/\(∀k,B k->w.heap.size≤k)/\aA aB w w'
theorem mF(w:World)(x:UInt8):Calls prog 13 #[vb x] w (zH w x):=by
 obtain⟨t,f⟩:=zX9 (vb x)
 have y:=O f;have C:t.oneCell'=true:=by rw[←f];rfl
 have E:t.cells=#[t]:=by rw[←f];rfl
 rw[f];clear f;go_in
 go_wp2_with ((with_reducible show WL _ _);refine mkz (.const (.int .i64 256)) (.const (.int .i64 256)) ?_)
 intro r G n A z;rw[←Oi x] at z;have j:=O n;have I:Hid (G.heap[r]?=some (.cells (ofC x 0).toArray 5 (0,0))/\aA aB w G):=O ⟨z,A⟩;clear z A n;go_wp2_with fail
 go_loopw [4] (fun i wr=>∃k:Nat,k≤256/\i=.int .i64 (k:Int)/\Hid (wr.heap[r]?=some (.cells (ofC x k).toArray 5 (0,0))/\aA aB w wr)) (fun i _=>256-(intOf i).toNat)
 case atStart=>exact⟨0,by omega,rfl,I⟩
 case round =>
  obtain⟨k,A,rfl,l⟩:=hrel
  by_cases q:k<256
  ·go_wp2_with ((with_reducible show WL _ _);refine sta 5 (.tmp 15) (.tmp 14) r k [t] l.1 (by rw[List.size_toArray,uD];exact q) (by kernel_rfl) (by intro v F;rw[List.mem_singleton] at F;rw[F];exact C) ?_ (hy:=E))
   intro H o g;rw[←y.out,PQ x k q] at g;have J:Hid (H.heap[r]?=some (.cells (ofC x (k+1)).toArray 5 (0,0))/\aA aB w H):=O ⟨g,l.2.tT o (fun i K e=>by have:=j.out;omega)⟩;clear o g l;go_wp2
   go_roundw
   case rel=>exact⟨k+1,by omega,by go_num,J⟩
   case measure=>simp[intOf];omega
  ·obtain rfl:k=256:=by omega
   go_wp2;go_ret;exact⟨_,rfl,by rw[←Oj x];exact Fj l.1 (by rw[uD]) (by have:=j.out;omega),l.2⟩
theorem B6(w:World)(D cp:Nat)(Y:2≤D/\D≤8)(C:1≤cp/\cp≤3/\cp≤D):Calls prog 8 #[.int .i64 (D:Int),.int .i64 (cp:Int)] w (qO w D cp):=by
 have r:=lN w;have y:=O Y;have o:=O C;have j:=Qx;have R:(fJ.map vb).length=32:=by rw[List.length_map];rfl
 obtain⟨ic,n⟩:=zX9 (fJ.map vb)
 have G:=O n;rw[n] at j;have v:=O j;clear j n R Y C;go_in
 go_wp2_with ((with_reducible show WL _ _);refine bld 31 #[(0,.const (.int .u8 7))] [(0,.int .u8 7)] (.agg ic.toArray) v.out ?_)
 have I:=O r.keep.size;refine((Nc w D 8 ⟨y.1,y.2,by decide,by decide⟩)).mono ?_;rintro e w1 ⟨a,BA,rfl,q,z,E⟩;have V:=O q;have t:=O z;clear q z;replace r:=kL r E;clear E
 go_wp2_with ((with_reducible show WL _ _);refine bld 31 #[(0,.const (.int .u8 7))] [(0,.int .u8 7)] (.agg ic.toArray) v.out ?_)
 have H:=O r.keep.size;refine((by rw[←G.out];exact DV V.out fJ rfl cp o.out (Nat.zero_le _):Ka w1 (xY w1 a fJ BA D 8 cp (fun _ _=>zB) 0))).mono ?_;rintro e w2 ⟨c,m,lb,g,b2,lc,B2,U,rfl,f,N,A,⟨J,K,L,F⟩,E⟩
 have HP:Hid (qO w D cp (.returned (.tuple #[.pointer a,.pointer c])) w2):=O (by
  have h0:=H.out;have qa:=I.out;have h1:=f.many;have h2:=lt_of_block f.cor.cor.top;have h3:=lt_of_block f.cor.mir;have h4:=f.cor.liv;refine⟨a,c,U,_,rfl,⟨⟨y.1,y.2,Nat.le_refl 8,(show (8:Nat)≤4096 by decide),o.1,o.2.1,o.2.2,(by show (0:Int)≤0;decide),(by show (0:Int)<2147483648;decide)⟩,rfl,m,lb,g,b2,_,lc,B2,lJ,⟨rfl,rfl,rfl⟩,⟨?_,?_⟩,f,rfl⟩,?_,?_,?_⟩
  ·intro e
   have W:=f.cor.mir;rw[eQ,e,f.cor.cor.top] at W;cases W
  ·exact h4.ne f.cor.cor.top
  ·have X:=y.out;omega
  ·rintro k (rfl|rfl|rfl|e|e|e)
   ·omega
   ·omega
   ·omega
   ·exact(A k e).elim (fun e=>Nat.le_trans (by omega) (t k e)) fun e=>by omega
   ·have X:=F k e;omega
   ·exact(rL e).elim
  ·exact r.keep.tT E fun i hi e=>by have X:=t.out i e;omega)
 clear r V f A N J K L F E;go_wp2
 go_ret2
 exact HP.out
theorem B7(w:World)(v:Value)(p:Pt)(H:PtV w v p)(n:Int)(G:Bool)(U:decide (p.addrs=[⟨0,n⟩,⟨1,n⟩])=G):Calls prog 34 #[.agg (aL v p).toArray,.int .i64 n] w (aN w (.bool G)):=by
 have h:=lN w;have V:=O U;obtain⟨q,t,rfl,-,-⟩:=H.rd.form;have f:=O H.rd;obtain⟨F,o⟩:=zX9 p.addrs.length
 have L:=O o;have C:=bB (v:=.slice q p.addrs.length t) H.sum;rw[o] at C f ⊢;have y:Hid (∃r,aL (.slice q F t) p=.slice q F t::r):=O ⟨_,rfl⟩;obtain⟨X,j⟩:=zX9 (aL (.slice q F t) p)
 have J:=O (FT 0 n);have K:=O (FT 1 n);rw[j] at C y ⊢;clear H U j o;go_in
 go_wp2_with refine bxM h (X.toArray) ?_
 intro W Y g h;replace f:=O (f.keep g fun _ _=>id);clear g;have c1:Y.cell? ⟨W,0,none⟩=some (.slice q F t):=(by obtain⟨r,e⟩:=y.out;exact aC (i:=0) (h.b 0) (by rw[e];rfl))
 go_wp2_with ((with_reducible show WL _ _);first
  | refine bld 93 #[(0,.const (.int .i64 0)),(1,.tmp 7)] [(0,.int .i64 0),(1,.int .i64 n)] (.agg (aO ⟨0,n⟩).toArray) J.out ?_
  | refine bld 93 #[(0,.const (.int .i64 1)),(1,.tmp 9)] [(0,.int .i64 1),(1,.int .i64 n)] (.agg (aO ⟨1,n⟩).toArray) K.out ?_
  | refine Rb 29 93 (.tmp 8) (.tmp 10) underlying29 tW (by decide) (aO ⟨0,n⟩) (aO ⟨1,n⟩) rfl rfl (by decide) ?_)
 clear c1;intro z I A g R;replace h:=lW h A g R;replace f:=O (f.keep g fun _ _=>id);have N:Hid (Rd I 2 (.slice z 2 2) 2 (aJ [⟨0,n⟩,⟨1,n⟩])):=O (eL (n:=2) (size:=2) R rfl (by unfold maxLen;omega));clear A g R;go_wp2_with fail;refine((by have E:=f.out;rw[←L.out] at E ⊢;exact Mw I _ _ p.addrs [⟨0,n⟩,⟨1,n⟩] E N.out G V.out:Calls prog 88 #[.slice q F t,.slice z 2 2] I (fun e w9=>e=.returned (.bool G)/\aA aB I w9))).mono ?_;rintro e w3 ⟨rfl,g⟩;replace h:=kL h g;clear g;go_wp2;go_ret;exact aN.of h.keep
theorem JF(h:KY w c a pid u S B)(v:Value)(p:Pt)(C:PtV w v p){o:List UInt8}(F:qH S p lv o)(vv:Value)(E:Rd w 1 vv 256 (o.map vb))(r:o.length=256):Calls prog 17 #[.pointer c,.agg (aL v p).toArray,vv] w (aN w (.bool true)):=by
 have j:=lN w;have k:=O h;have g:=O C;have H:=O F;have n:=O E;have q:=O r;obtain⟨K,L,rfl,-,-⟩:=E.form;have t:=bB (v:=v) C.sum;obtain⟨I,i⟩:=zX9 (aL v p)
 have z:=O i;rw[i] at t ⊢;clear h C F E r i;go_in
 go_wp2_with refine bxM j (I.toArray) ?_
 intro U G f j;replace k:=O (k.keep0 f);replace g:=O (g.keep f fun _ _=>id);replace n:=O (n.keep f fun _ _=>id);clear f
 go_wp2_with refine ldQ (j.b 0) t ?_
 refine((by rw[←z.out];exact KY.get k.out g.out H.out:Ka G (mC G o))).mono ?_;rintro e J ⟨V,rfl,A,f⟩;obtain⟨N,R,rfl,-,-⟩:=(Rd.of_owns A).form;have y:=O (Rd.of_owns A);clear A;replace j:=kL j f;replace k:=O (k.keep0 f);replace g:=O (g.keep f fun _ _=>id);replace n:=O (n.keep f fun _ _=>id);clear f;go_wp2_with fail;refine((JE J (.slice N 256 R) (.slice K 256 L) o o (by rw[q.out];exact y.out) (by rw[q.out];exact n.out) true (decide_eq_true rfl))).mono ?_;rintro e W ⟨rfl,f⟩;replace j:=kL j f;replace k:=O (k.keep0 f);replace g:=O (g.keep f fun _ _=>id);replace n:=O (n.keep f fun _ _=>id);replace y:=O (y.keep f fun _ _=>id);clear f;go_wp2;go_ret;exact aN.of j.keep
theorem B8(b:List UInt8)(M:Nat->Nat->List UInt8)(d:Nat):∀(k s:Nat),1≤s->s<k->gM b M d k d s=zB
 | 0,s,_,h=>absurd h (Nat.not_lt_zero _)
 | k+1,s,f,h=>by
   show fN (gM b M d k) d k (if k=0 then b else zB) d s=zB;unfold fN
   by_cases e:s=k
   ·rw[if_pos ⟨rfl,e⟩,if_neg (by omega)]
   ·rw[if_neg fun h=>e h.2]
    exact B8 b M d k s f (by omega)
theorem Dz(P:Nat->List UInt8)(M:Nat->Nat->List UInt8)(f:1≤s/\s≤4):∀(k d:Nat),d<k->xX P M k d s=zB
 | 0,d,h=>absurd h (Nat.not_lt_zero _)
 | k+1,d,h=>by
   show gM (P k) (xX P M k) k 5 d s=zB
   by_cases e:d=k
   ·subst e;exact B8 _ _ _ 5 s f.1 (by omega)
   ·rw[tA _ _ _ e];exact Dz P M f k d (by omega)
theorem L7(e:d<D)(f:1≤s/\s≤4):wC D cp d s=zB:=Dz _ _ f D d e
theorem Q1:(bC zB).2=6:=by
 unfold bC;rw[if_neg (show ¬zB.length≠256 by decide),if_pos (show zB=List.replicate 256 0 from rfl)]
theorem tF(pool:List UInt8)(i:Nat):iG pool i zB=[]:=by
 unfold iG;rw[if_neg];rw[Q1];exact fun h=>absurd h.1 (by decide)
theorem GF(g:u.pool.length=32)(h:u.root.sum.length=32)(f:u.may=true){i:Nat}(e:eC u.txg=(i:Int)+1):iG u.pool i (aY u)=[u]:=by
 unfold iG;rw[Ft g h f,if_pos ⟨rfl,rfl,e⟩]
theorem L8(l:u.pool.length=32)(n:u.root.sum.length=32)(j:u.may=true)(i:u.txg=1){f:Nat->List UInt8}(h:f 2=aY u)(g:∀k,k≠2->1≤k->k≤4->f k=zB):(lR [f 1,f 2,f 3,f 4] u.pool).1=[u]:=by
 have e:eC u.txg=((1:Nat):Int)+1:=by rw[i];decide
 rw[g 1 (by decide) (by decide) (by decide),g 3 (by decide) (by decide) (by decide),g 4 (by decide) (by decide) (by decide),h];unfold lR;rw[if_pos (show [zB,aY u,zB,zB].length=4 from rfl),QV];show iG u.pool 0 zB++(iG u.pool 1 (aY u)++(iG u.pool 2 zB++(iG u.pool 3 zB++[])))=[u];rw[tF,tF,tF,GF l n j e];rfl
def two(n:Int):List Ad:=[⟨0,n⟩,⟨1,n⟩]
def p18(b:UInt8):Pt:=⟨two 5,1,3,bU (sec b)⟩
def S18(L:List Ad)(M:Nat->Nat->List UInt8)(t:Int):Kor:=⟨2,8,2,L,M,t⟩
theorem OF(h:0<x):cZ [x,x] [true,true] 2=[0,1]:=by
 have h0:dU [x,x] [true,true] 0=true:=by simp[dU,h]
 have e:dU [x,x] [true,true] 1=true:=by simp[dU,h]
 rw[oK,oK,if_pos h0,if_pos e];rfl
theorem Hi(h:0<x):bL [x,x] [true,true] 2=some [0,1]:=by
 have e:kC [x,x] [true,true]=[0,1]:=(zN (by show [0,1].Perm (cZ [x,x] [true,true] 2);rw[OF h]) (by
  show List.Pairwise _ [0,1];simp[dI])).symm
 unfold bL;rw[e];show (if cZ [x,x] [true,true] 2=[]\/(cZ [x,x] [true,true] 2).length<kU [true,true] 2 then none else some (List.take (kU [true,true] 2) [0,1]))=_;rw[OF h];rfl
theorem PR:bL (bN [] 2 8) [true,true] 2=some [0,1]:=by
 rw[show bN [] 2 8=[3,3] by decide +kernel];exact Hi (by decide)
theorem PS:bL (bN (two 5) 2 8) [true,true] 2=some [0,1]:=by
 rw[show bN (two 5) 2 8=[2,2] by decide +kernel];exact Hi (by decide)
theorem Qy:aU [] 8 [0,1]=two 5:=by decide +kernel
theorem Qz:aU (two 5) 8 [0,1]=two 6:=by decide +kernel
theorem QA:cX ([]++two 5)=two 5:=(Ax (l:=two 5) (by unfold uL two;decide) fun x=>by rw[List.nil_append]).symm
theorem QB(b:UInt8)(M:Nat->Nat->List UInt8):(S18 [] M 0).put 3 (sec b)=some (p18 b,S18 (two 5) (fP (sec b) (two 5) M) 0):=by
 unfold Kor.put;rw[show bL (bN (S18 [] M 0).L (S18 [] M 0).D (S18 [] M 0).Z) (S18 [] M 0).allUp (S18 [] M 0).cp=some [0,1] from PR];show some ((⟨aU [] 8 [0,1],0+1,((3:Nat):Int),bU (sec b)⟩:Pt),(⟨2,8,2,[]++aU [] 8 [0,1],fP (sec b) (aU [] 8 [0,1]) M,0⟩:Kor))=_;rw[Qy];rfl
theorem Rc(b:UInt8)(M:Nat->Nat->List UInt8):(S18 (two 5) M 1).put 0 (sec b)=some (⟨two 6,2,0,bU (sec b)⟩,S18 (two 5++two 6) (fP (sec b) (two 6) M) 1):=by
 unfold Kor.put;rw[show bL (bN (S18 (two 5) M 1).L (S18 (two 5) M 1).D (S18 (two 5) M 1).Z) (S18 (two 5) M 1).allUp (S18 (two 5) M 1).cp=some [0,1] from PS];show some ((⟨aU (two 5) 8 [0,1],1+1,((0:Nat):Int),bU (sec b)⟩:Pt),(⟨2,8,2,(two 5)++aU (two 5) 8 [0,1],fP (sec b) (aU (two 5) 8 [0,1]) M,1⟩:Kor))=_;rw[Qz];rfl
theorem Q2(b:UInt8)(M:Nat->Nat->List UInt8)(g:s≤4):fP (sec b) (two 5) M d s=M d s:=vG _ _ _ _ _ fun a e h=>by
 unfold two at e;simp only[List.mem_cons,List.not_mem_nil,or_false] at e;rcases e with rfl|rfl
 ·have f:s=5:=h.2
  omega
 ·have f:s=5:=h.2
  omega
theorem Ol(b:UInt8)(M:Nat->Nat->List UInt8){x:Ad}(e:x∈two 5):fP (sec b) (two 5) M x.dev.toNat x.sec.toNat=sec b:=Cs _ _ _ _ _ (.inl ⟨x,e,rfl,rfl⟩)
theorem FU{n:Int}(h:5≤n/\n<8):∀x∈two n,bW x 2 8:=fun x e=>by
 unfold two at e;simp only[List.mem_cons,List.not_mem_nil,or_false] at e;rcases e with rfl|rfl
 ·exact⟨(show (0:Int)≤0 by decide),(show (0:Int)<2 by decide),h.1,h.2⟩
 ·exact⟨(show (0:Int)≤1 by decide),(show (1:Int)<2 by decide),h.1,h.2⟩
theorem zI(b:UInt8):(p18 b).may=true:=(oC (S:=S18 [] (fun _ _=>zB) 0) ⟨by decide,by decide,by decide,by decide,by decide,by decide,by decide,by decide,by decide⟩ (lv:=3) (by decide) (iZ b) (QB b _)).1.may
def u18(b:UInt8):Ub:=⟨1,p18 b,9,fJ⟩
theorem Hj(b:UInt8):(u18 b).may=true:=by
 unfold Ub.may;have h:=zI b;simp only[Bool.and_eq_true,Bool.or_eq_true,decide_eq_true_eq,beq_iff_eq];exact⟨⟨⟨⟨(show (1:Int)≤1 by decide),(show (1:Int)≤2147483648 by decide)⟩,(show (0:Int)≤9 by decide)⟩,(show (9:Int)≤16384 by decide)⟩,.inr ⟨⟨h,rfl⟩,(show (1:Int)≤1 by decide)⟩⟩
theorem L9(b:UInt8)(f:∀x∈two 5,M x.dev.toNat x.sec.toNat=sec b):qH (S18 (two 5) M 1) (p18 b) 3 (sec b):=
 ⟨zI b,(show two 5≠[] by decide),rfl,rfl,iZ b,⟨(show (1:Int)≤1 by decide),(show (1:Int)≤1+1 by decide)⟩,fun x e=>⟨FU (by decide) x e,e,f x e⟩⟩
theorem Q3(b:UInt8)(e:∀x∈two 5,M x.dev.toNat x.sec.toNat=sec b):Jp (u18 b) 2 8 0 5 M:=
 ⟨Hj b,zI b,(L9 b e).ne_hole,FU (by decide),by show (two 5).length≤65536;decide,⟨_,rfl⟩,by
  have h:=e ⟨0,5⟩ (List.mem_cons_self ..);show bU (sec b)=bU (M 0 5);rw[show M 0 5=sec b from h]⟩
theorem mN(v:Value)(u:Ub)(w:World):(Instr.field 71 (.agg (aV v u).toArray) 0).run prog w=.ok (.int .i64 u.txg) w:=by
 unfold aV;generalize (aL v u.root++(.int .i64 u.len::u.pool.map vb))=e
 kernel_rfl
theorem PT(e:Array Value)(off:Nat)(w:World):(part 33 e off).run prog w=.ok (.agg (e.extract off (off+35))) w:=by kernel_rfl
theorem JG(v:Value)(u:Ub)(h:u.root.sum.length=32):(aV v u).toArray.extract 1 (1+35)=(aL v u.root).toArray:=by
 unfold aV;rw[List.extract_toArray,List.extract_eq_take_drop];show (List.take 35 (aL v u.root++(.int .i64 u.len::u.pool.map vb))).toArray=_;rw[List.take_append_of_le_length (Nat.le_of_eq (bB h).symm),List.take_of_length_le (Nat.le_of_eq (bB h))]
theorem mO(v:Value)(u:Ub)(h:u.root.sum.length=32)(w:World):(Instr.field 71 (.agg (aV v u).toArray) 1).run prog w=.ok (.agg (aL v u.root).toArray) w:=by
 have f:∀e:Array Value,(Instr.field 71 (.agg e) 1).run prog w=(part 33 e 1).run prog w:=fun e=>by kernel_rfl
 rw[f,PT,JG v u h]
theorem Ma(v:Value)(u:Ub)(h:u.root.sum.length=32):(aV v u).toArray[36]?=some (.int .i64 u.len):=by
 unfold aV;rw[List.getElem?_toArray];show (aL v u.root++(.int .i64 u.len::u.pool.map vb))[35]?=_;rw[List.getElem?_append_right (Nat.le_of_eq (bB h)),bB h];rfl
theorem mP(v:Value)(u:Ub)(h:u.root.sum.length=32)(w:World):(Instr.field 71 (.agg (aV v u).toArray) 2).run prog w=.ok (.int .i64 u.len) w:=by
 have f:∀e:Array Value,(Instr.field 71 (.agg e) 2).run prog w=(part 3 e 36).run prog w:=fun e=>by kernel_rfl
 rw[f];simp[part,isAgg,run_underlying underlying3,Ma v u h]
theorem Mb(v:Value)(p:Pt)(w:World):(Instr.field 33 (.agg (aL v p).toArray) 0).run prog w=(part 29 (aL v p).toArray 0).run prog w:=by kernel_rfl
theorem DA(v:Value)(p:Pt)(w:World):(Instr.field 33 (.agg (aL v p).toArray) 0).run prog w=.ok v w:=by
 rw[Mb];simp[part,isAgg,run_underlying underlying29,aL]
theorem Re(L:List Ad)(M:Nat->Nat->List UInt8)(t:Int)(h:0≤t/\t<2147483648):(S18 L M t).Bd:=⟨(show 2≤2 by decide),(show 2≤8 by decide),(show 8≤8 by decide),(show 8≤4096 by decide),(show 1≤2 by decide),(show 2≤3 by decide),(show 2≤2 by decide),h.1,h.2⟩
theorem Om{I:Value}{t:Lst}{E:Nat->Nat->List UInt8}(h:eJ w c a m lb I pid cp (.pointer none) t B D Z E nw)(lv:Nat)(G:lv≤3)(vv:Value)(F:List UInt8)(l:Rd w 1 vv 256 (F.map vb)):Calls prog 12 #[.pointer c,.int .i64 (lv:Int),vv] w (aN w (.tuple #[.agg eK.toArray,.int .i64 9])):=by
 obtain⟨L,K,rfl,-,-⟩:=l.form;have z:¬((lv:Int)<0):=by omega
 have A:¬((3:Int)<(lv:Int)):=by omega
 have k:=O h;have j:=lN w;clear h l
 go_enter_defers func12,ntmps12
 go_wp2_with refine alM j eX ?_
 intro y N g j;replace k:=O (k.keep0 g);clear g
 go_wp2_with refine alS j qQ ?_
 intro o R g j;replace k:=O (k.keep0 g);clear g;go_wp2_with fail;refine(kO k.cor k.arr).mono ?_;rintro e H ⟨rfl,g⟩;replace j:=kL j g;replace k:=O (k.keep0 g);clear g;have c1:H.cell? ⟨c,36,none⟩=some (.pointer none):=(aT.gv_ k.cor)
 go_wp2_with ((with_reducible show WL _ _);first
  | refine ldQ (j.b 1) aW ?_
  | refine sta 33 (.tmp 6) (.tmp 38) y 0 eK (j.b 1) (by first|decide|(rw[aW];exact Nat.le_refl _)|simp[aW,aW]) (szP9 aW) (dE zPt) ?_)
 clear c1;intro U g l;rw[aI _ _ (by first|rfl|simp[aW,aW])] at l;replace j:=O (j.set 1 g l);clear g l
 go_wp2_with refine stV (.int .i64 9) (j.b 0) ?_
 intro C g l;replace j:=O (j.set 0 g l);clear g l;go_wp2_with fail;have q:=O (j.b 1);have n:=O (j.b 0);have r:Hid (aA aB w C):=O j.keep;clear j;go_wp2_with fail;refine leaves_cons (f:=39) (args:=#[.pointer c,.pointer o]) (by simp) (by simp[go_sem]) ?_;refine(lQ C c o 9 _ n.out (by decide)).mono ?_;rintro e J v ⟨rfl,rfl,g⟩;have c7:v.cell? ⟨o,0,none⟩=some (.int .i64 9):=aC (i:=0) (g.blk n.out id) rfl;refine⟨_,mD rfl _ _ y _ _ _ _ rfl (g.blk q.out id) bJ rfl (by rw[List.size_toArray,aW];exact mI) ⟨o,0,none⟩ (.int .i64 9) rfl (by go_simp),?_⟩;exact⟨rfl,r.trans g⟩
theorem KY.put(h:KY w c a pid u S B)(lv:Nat)(e:lv≤3)(vv:Value)(f:List UInt8)(i:Rd w 1 vv 256 (f.map vb)):Calls prog 12 #[.pointer c,.int .i64 (lv:Int),vv] w (aN w (.tuple #[.agg eK.toArray,.int .i64 9])):=by
 obtain⟨-,-,m,lb,k,j,rv,-,g,rfl⟩:=h;exact Om g lv e vv f i
theorem GG(w:World)(aF aR:Addr)(hg:iK w aF aR):Calls prog 6 #[] w (aN w (.bool true)):=by
 have HG:=O hg;have o:=lN w;clear hg;go_in;go_wp2_with fail;refine((B6 w 2 2 (by decide) (by decide):Calls _ _ #[.int .i64 2,.int .i64 2] w (qO w 2 2))).mono ?_;rintro e w1 ⟨a,c,nw,B,rfl,t,xy,hB,g⟩;replace t:KX w1 c a fJ ⟨0,zPt,0,List.replicate 32 0⟩ [] [] nw (S18 [] (wC 2 2) 0) B:=t;have j:=O t;have y:=O hB;replace o:=O (o.turn (B':=B) g (fun _ _ h=>h.elim) (fun i J e=>by have:=hB i e;omega));clear t xy hB g;go_wp2_with fail;refine(KX.uber j.out).mono ?_;rintro e w2 ⟨zl,rfl,q,-,g⟩;have qa:=O (mN zl ⟨0,zPt,0,List.replicate 32 0⟩);have q3:=O (mO zl ⟨0,zPt,0,List.replicate 32 0⟩ q.root.sum);have q4:=O (mP zl ⟨0,zPt,0,List.replicate 32 0⟩ q.root.sum);obtain⟨x3,qt⟩:=zX9 (aV zl ⟨0,zPt,0,List.replicate 32 0⟩)
 rw[qt] at qa q3 q4 ⊢;have xz:=O q;clear qt q;replace o:=kL o g;replace j:=O (KX.keep0 j.out g);clear g;have xt:=qa.out w2;go_wp2_with fail;clear xt;refine(mF w2 1).mono ?_;rintro e w3 ⟨x8,rfl,L,g⟩;have qq:=j.out;obtain⟨zw,zx,rfl,-,-⟩:=(Rd.of_owns L).form;have zt:=O (Rd.of_owns L);have qp:=O (fun i (J:(Value.slice zw 256 zx).ownBlock=some i)=>show ¬B i from fun e=>by have h1:=bG L J;have h2:=qq.lt e;omega);clear L qq;replace o:=kL o g;replace j:=O (KX.keep0 j.out g);clear g;go_wp2_with fail;refine((by have h:=KX.put j.out (lv:=3) (by decide) (iZ 1) zt.out qp.out;rw[QB 1 (wC 2 2)] at h;exact h:Calls _ _ #[.pointer c,.int .i64 3,.slice zw 256 zx] w3 (pP w3 c a fJ ⟨0,zPt,0,List.replicate 32 0⟩ [] [] nw (S18 [] (wC 2 2) 0) B (some (p18 1,S18 (two 5) (fP (sec 1) (two 5) (wC 2 2)) 0))))).mono ?_;rintro e w4 ⟨vp,B1,rfl,E,t,r,z6,g⟩;replace t:KX w4 c a fJ ⟨0,zPt,0,List.replicate 32 0⟩ [] [] (nw+2) (S18 (two 5) (fP (sec 1) (two 5) (wC 2 2)) 0) B1:=t;replace E:gZ w4 B1 vp (p18 1):=E;obtain⟨pa,V⟩:=zX9 (aL vp (p18 1))
 have zi:pa.length=35:=by rw[←V];exact bB E.pt.sum
 have xf:Hid (∀u∈pa,u.oneCell'=true):=O (by rw[←V];exact fE E.pt);have zh:=O V;rw[V];have n:=O E;have F:=O t;have v:Hid (∀i,B1 i->w.heap.size≤i):=O fun i e=>(r i e).elim (y i) fun h=>Nat.le_trans o.keep.size h
 replace o:=O (o.turn (B':=B1) g (fun i J e=>by have:=y.out i e;omega) (fun i J e=>(r i e).elim id fun h=>by omega));clear y;have y:=v;clear v;clear j t E r z6 g V zt qp;have j:=F;clear F
 go_wp2_with refine alW eX zi aW (szP9 zi) xf.out ?_
 intro b3 w6 U g hb
 replace o:=O (o.new ((fun k e=>KX.lt j.out e)) U g hb);replace j:=O (KX.keep0 j.out g);replace n:=pK n g;clear U g hb
 go_wp2_with ((with_reducible show WL _ _);refine aP (by rfl) 33 (.tmp 3) rfl b3 0 rfl pa _ (aD (o.b 0)) bJ rfl (szP9 zi) ?_)
 refine((by rw[←zh.out];exact B7 w6 _ (p18 1) n.pt 5 true (decide_eq_true rfl):Calls _ _ #[.agg pa.toArray,.int .i64 5] w6 (aN w6 (.bool true)))).mono ?_;rintro e w7 ⟨rfl,g⟩;replace o:=kL o g;replace j:=O (KX.keep0 j.out g);replace n:=pK n g;clear g;have c1:w7.cell? ⟨b3,1,none⟩=some (.int .i64 1):=(aC (i:=1) (o.b 0) (by rw[←zh.out];rfl))
 have c2:w7.cell? ⟨b3,2,none⟩=some (.int .i64 3):=(aC (i:=2) (o.b 0) (by rw[←zh.out];rfl))
 go_wp2_with ((with_reducible show WL _ _);refine aP (by rfl) 33 (.tmp 3) rfl b3 0 rfl pa _ (aD (o.b 0)) bJ rfl (szP9 zi) ?_)
 clear c1 c2;refine((by rw[←zh.out];exact KX.commit j.out (by decide) vp (p18 1) n.pt (by decide) 9 (by decide) (.inr ⟨zI 1,rfl,by decide⟩):Calls _ _ #[.pointer c,.agg pa.toArray,.int .i64 9] w7 (yT w7 c a fJ [] [] (S18 (two 5) (fP (sec 1) (two 5) (wC 2 2)) 0) B1 (p18 1) 9))).mono ?_;rintro e w8 ⟨rfl,Y,B2,hM,t,r,g⟩;replace t:KX w8 c a fJ (u18 1) [] [] 0 (S18 (two 5) Y 1) B2:=t;replace hM:(∀d s,s≠2->Y d s=(fP (sec 1) (two 5) (wC 2 2)) d s)/\∀d,d<2->Y d 2=aY (u18 1):=hM;have zy:=O hM;have F:=O t;replace n:=O (n.keep g r);have v:Hid (∀i,B2 i->w.heap.size≤i):=O fun i e=>(r i e).elim (y i) fun h=>Nat.le_trans o.keep.size h
 replace o:=O (o.turn (B':=B2) g (fun i J e=>by have:=y.out i e;omega) (fun i J e=>(r i e).elim id fun h=>by omega));clear y;have y:=v;clear v;clear j t hM r g;have j:=F;clear F;go_wp2_with fail;refine(KX.uber j.out).mono ?_;rintro e w9 ⟨zm,rfl,q,-,g⟩;have qc:=O (mN zm (u18 1));have q5:=O (mO zm (u18 1) q.root.sum);have q7:=O (mP zm (u18 1) q.root.sum);obtain⟨x4,qu⟩:=zX9 (aV zm (u18 1))
 rw[qu] at qc q5 q7 ⊢;have zr:=O q;clear qu q;replace o:=kL o g;replace j:=O (KX.keep0 j.out g);replace n:=pK n g;clear g;have xu:=qc.out w9;go_wp2_with fail;clear xu;refine(KX.uber j.out).mono ?_;rintro e wa ⟨zn,rfl,q,-,g⟩;have q9:=O (mN zn (u18 1));have za:=O (mO zn (u18 1) q.root.sum);have qd:=O (mP zn (u18 1) q.root.sum);obtain⟨x5,qv⟩:=zX9 (aV zn (u18 1))
 rw[qv] at q9 za qd ⊢;have x0:=O q;clear qv q;replace o:=kL o g;replace j:=O (KX.keep0 j.out g);replace n:=pK n g;replace zr:=O (zr.keep g fun _ _=>id);clear g;have xv:=qd.out wa;go_wp2_with fail;clear xv;obtain⟨BA,R,zv,zu,-⟩:=j.arr;have HA:=O R;have qm:=O zv;have zp:Hid (∀d,d<2->Y d 0=dL (cG fJ d 2 2 8)):=O zu;clear R zv zu;go_wp2_with fail;refine(JD HA.out).mono ?_;rintro e wb ⟨rfl,N,R,xk,g⟩;have r:∀k,N k->B2 k\/wa.heap.size≤k:=fun k h=>.inl (qm k (xk k h))
 have xd:=O R;replace g:=g.mono fun k _ e=>qm.out k e
 replace n:=O (n.keep g r);have v:Hid (∀i,N i->w.heap.size≤i):=O fun i e=>(r i e).elim (y i) fun h=>Nat.le_trans o.keep.size h
 replace o:=O (o.turn (B':=N) g (fun i J e=>by have:=y.out i e;omega) (fun i J e=>(r i e).elim id fun h=>by omega));clear y;have y:=v;clear v;clear HA R xk r g qm j;have HA:=xd;clear xd;go_wp2_with fail
 have xe:Hid (∀x∈two 5,Y x.dev.toNat x.sec.toNat=sec 1):=O (fun x hx=>by
  have h5:x.sec.toNat=5:=by
   unfold two at hx;simp only[List.mem_cons,List.not_mem_nil,or_false] at hx;rcases hx with rfl|rfl<;>rfl
  rw[zy.1 _ _ (by rw[h5];decide)];exact Ol 1 _ hx)
 go_wp2_with fail;refine(GE HA.out Ok (cp:=2) (show 1≤2/\2≤3/\2≤2 by decide) zp.out (iK.keep HG.out o.keep) (fun d hd=>(L8 (u:=u18 1) rfl rfl (Hj 1) rfl (f:=fun s=>Y d s) (zy.2 d hd) (fun k k2 k1 k4=>by show Y d k=zB;rw[zy.1 d k k2,Q2 1 _ k4];exact L7 hd ⟨k1,k4⟩))) (Q3 1 xe.out)).mono ?_;rintro e wc ⟨c2,m2,xm,xn,rfl,xl,hn,g⟩;have z2:=KY.of (S:=S18 (two 5) Y 1) (Re _ _ _ (by decide)) rfl xl (fun k e=>HA.lt e) hn
 have r:∀k,(k=c2\/k=m2\/k=xm\/N k\/xn.ownBlock=some k)->N k\/wb.heap.size≤k:=by
  rintro k (e|e|e|e|e)
  ·exact .inr (e▸hn.1)
  ·exact .inr (e▸hn.2.1)
  ·exact .inr (e▸hn.2.2.1)
  ·exact .inl e
  ·exact .inr (hn.2.2.2.1 k e)
 obtain⟨B3,z1⟩:∃B3:Nat->Prop,B3=fun k=>k=c2\/k=m2\/k=xm\/N k\/xn.ownBlock=some k:=⟨_,rfl⟩
 rw[←z1] at z2;replace r:∀k,B3 k->N k\/wb.heap.size≤k:=by rw[z1];exact r
 clear z1 xl hn;have j:=O z2;replace g:aA N wb wc:=g.any;have v:Hid (∀i,B3 i->w.heap.size≤i):=O fun i e=>(r i e).elim (y i) fun h=>Nat.le_trans o.keep.size h
 replace o:=O (o.turn (B':=B3) g (fun i J e=>by have:=y.out i e;omega) (fun i J e=>(r i e).elim id fun h=>by omega));clear y;have y:=v;clear v;clear HA z2 r g zp;go_wp2_with fail;clear n;go_wp2_with fail;refine(KY.uber j.out).mono ?_;rintro e wd ⟨zo,rfl,q,-,g⟩;have qe:=O (mN zo (u18 1));have zb:=O (mO zo (u18 1) q.root.sum);have zd:=O (mP zo (u18 1) q.root.sum);obtain⟨x6,qw⟩:=zX9 (aV zo (u18 1))
 rw[qw] at qe zb zd ⊢;have H:=O q;clear qw q;replace o:=kL o g;replace j:=O (KY.keep0 j.out g);clear g;have xw:=qe.out wd;go_wp2_with fail;clear xw;refine(KY.uber j.out).mono ?_;rintro e we ⟨X,rfl,q,-,g⟩;have ze:=O (mN X (u18 1));have A:=O (mO X (u18 1) q.root.sum);have zf:=O (mP X (u18 1) q.root.sum);obtain⟨xo,qx⟩:=zX9 (aV X (u18 1))
 rw[qx] at ze A zf ⊢;have I:=O q;clear qx q;obtain⟨pb,zj⟩:=zX9 (aL X (p18 1))
 replace A:Hid (∀w,(Instr.field 71 (.agg xo.toArray) 1).run prog w=.ok (.agg (aL X (p18 1)).toArray) w):=A;rw[zj] at A;have xp:=O zj;have xh:=O (DA X (p18 1));rw[zj] at xh;clear zj;replace o:=kL o g;replace j:=O (KY.keep0 j.out g);replace H:=O (H.keep g fun _ _=>id);clear g;have xx:=A.out we;go_wp2_with fail;clear xx;refine(mF we 1).mono ?_;rintro e wf ⟨x9,rfl,L,g⟩;have qr:=j.out;obtain⟨q0,q1,rfl,-,-⟩:=(Rd.of_owns L).form;have qg:=O (Rd.of_owns L);have zz:=O (fun i (J:(Value.slice q0 256 q1).ownBlock=some i)=>show ¬B3 i from fun e=>by have h1:=bG L J;have h2:=qr.lt e;omega);clear L qr;replace o:=kL o g;replace j:=O (KY.keep0 j.out g);replace H:=O (H.keep g fun _ _=>id);replace I:=O (I.keep g fun _ _=>id);clear g;go_wp2_with fail;refine((by rw[←xp.out];exact JF j.out X (p18 1) I.root (L9 1 xe.out) (.slice q0 256 q1) qg.out (iZ 1):Calls _ _ #[.pointer c2,.agg pb.toArray,.slice q0 256 q1] wf (aN wf (.bool true)))).mono ?_;rintro e wg ⟨rfl,g⟩;replace o:=kL o g;replace j:=O (KY.keep0 j.out g);replace H:=O (H.keep g fun _ _=>id);replace I:=O (I.keep g fun _ _=>id);replace qg:=O (qg.keep g fun _ _=>id);clear g;go_wp2_with fail;clear qg zz I H;go_wp2_with fail;refine(mF wg 1).mono ?_;rintro e wh ⟨x1,rfl,L,g⟩;have qh:=j.out;obtain⟨xa,xb,rfl,-,-⟩:=(Rd.of_owns L).form;have K:=O (Rd.of_owns L);have zg:=O (fun i (J:(Value.slice xa 256 xb).ownBlock=some i)=>show ¬B3 i from fun e=>by have h1:=bG L J;have h2:=qh.lt e;omega);clear L qh;replace o:=kL o g;replace j:=O (KY.keep0 j.out g);clear g;go_wp2_with fail;refine(KY.put j.out 0 (by decide) _ (sec 1) K.out).mono ?_;rintro e wi ⟨rfl,g⟩;replace o:=kL o g;replace j:=O (KY.keep0 j.out g);replace K:=O (K.keep g fun _ _=>id);clear g;clear K zg
 go_wp2_with refine alW eX aW aW (szP9 aW) (dE zPt) ?_
 intro b7 wk U g hb
 replace o:=O (o.new ((fun k e=>KY.lt j.out e)) U g hb);replace j:=O (KY.keep0 j.out g);clear U g hb;go_wp2_with fail;go_wp2_with fail;refine(KY.uber j.out).mono ?_;rintro e wl ⟨C,rfl,q,-,g⟩;have qk:=O (mN C (u18 1));have z:=O (mO C (u18 1) q.root.sum);have ql:=O (mP C (u18 1) q.root.sum);obtain⟨xc,qj⟩:=zX9 (aV C (u18 1))
 rw[qj] at qk z ql ⊢;have qn:=O q;clear qj q;obtain⟨pc,zk⟩:=zX9 (aL C (p18 1))
 replace z:Hid (∀w,(Instr.field 71 (.agg xc.toArray) 1).run prog w=.ok (.agg (aL C (p18 1)).toArray) w):=z;rw[zk] at z;have x7:=O zk;have zq:=O (DA C (p18 1));rw[zk] at zq;clear zk;replace o:=kL o g;replace j:=O (KY.keep0 j.out g);clear g;have xi:=z.out wl;have xj:=zq.out wl;go_wp2_with fail;clear xi xj;refine((KY.hold j.out C (two 5) qn.root.rd (FU (by decide)) (by decide):Calls _ _ #[.pointer c2,C] wl (nO wl c2 a fJ (u18 1) [] (two 5) 0 (S18 (two 5) Y 1) B3))).mono ?_;rintro e wm ⟨rfl,B4,t,r,g⟩;replace t:KX wm c2 a fJ (u18 1) [] (two 5) 0 ⟨2,8,2,cX ([]++two 5),Y,1⟩ B4:=t;rw[QA] at t;replace t:KX wm c2 a fJ (u18 1) [] (two 5) 0 (S18 (two 5) Y 1) B4:=t;have F:=O t;have v:Hid (∀i,B4 i->w.heap.size≤i):=O fun i e=>(r i e).elim (y i) fun h=>Nat.le_trans o.keep.size h
 replace o:=O (o.turn (B':=B4) g (fun i J e=>by have:=y.out i e;omega) (fun i J e=>(r i e).elim id fun h=>by omega));clear y;have y:=v;clear v;clear j t r g qn;have j:=F;clear F;go_wp2_with fail;go_wp2_with fail;refine(mF wm 1).mono ?_;rintro e wn ⟨x2,rfl,L,g⟩;have qi:=j.out;obtain⟨qy,qz,rfl,-,-⟩:=(Rd.of_owns L).form;have qo:=O (Rd.of_owns L);have qf:=O (fun i (J:(Value.slice qy 256 qz).ownBlock=some i)=>show ¬B4 i from fun e=>by have h1:=bG L J;have h2:=qi.lt e;omega);clear L qi;replace o:=kL o g;replace j:=O (KX.keep0 j.out g);clear g;go_wp2_with fail;refine((by have h:=KX.put j.out (lv:=0) (by decide) (iZ 1) qo.out qf.out;rw[Rc 1 Y] at h;exact h:Calls _ _ #[.pointer c2,.int .i64 0,.slice qy 256 qz] wn (pP wn c2 a fJ (u18 1) [] (two 5) 0 (S18 (two 5) Y 1) B4 (some (⟨two 6,2,0,bU (sec 1)⟩,S18 (two 5++two 6) (fP (sec 1) (two 6) Y) 1))))).mono ?_;rintro e wo ⟨vq,B5,rfl,E,t,r,z6,g⟩;replace t:KX wo c2 a fJ (u18 1) [] (two 5) (0+2) (S18 (two 5++two 6) (fP (sec 1) (two 6) Y) 1) B5:=t;replace E:gZ wo B5 vq (⟨two 6,2,0,bU (sec 1)⟩:Pt):=E;obtain⟨pd,W⟩:=zX9 (aL vq (⟨two 6,2,0,bU (sec 1)⟩:Pt))
 have z7:pd.length=35:=by rw[←W];exact bB E.pt.sum
 have xg:Hid (∀u∈pd,u.oneCell'=true):=O (by rw[←W];exact fE E.pt);have xq:=O W;rw[W];have G:=O E;have F:=O t;have v:Hid (∀i,B5 i->w.heap.size≤i):=O fun i e=>(r i e).elim (y i) fun h=>Nat.le_trans o.keep.size h
 replace o:=O (o.turn (B':=B5) g (fun i J e=>by have:=y.out i e;omega) (fun i J e=>(r i e).elim id fun h=>by omega));clear y;have y:=v;clear v;clear j t E r z6 g W qo qf;have j:=F;clear F
 go_wp2_with refine alW eX z7 aW (szP9 z7) xg.out ?_
 intro xr wq U g hb
 replace o:=O (o.new ((fun k e=>KX.lt j.out e)) U g hb);replace j:=O (KX.keep0 j.out g);replace G:=pK G g;clear U g hb
 go_wp2_with ((with_reducible show WL _ _);refine aP (by rfl) 33 (.tmp 10) rfl xr 0 rfl pd _ (aD (o.b 0)) bJ rfl (szP9 z7) ?_)
 refine((by rw[←xq.out];exact B7 wq _ (⟨two 6,2,0,bU (sec 1)⟩:Pt) G.pt 6 true (decide_eq_true rfl):Calls _ _ #[.agg pd.toArray,.int .i64 6] wq (aN wq (.bool true)))).mono ?_;rintro e wr ⟨rfl,g⟩;replace o:=kL o g;replace j:=O (KX.keep0 j.out g);replace G:=pK G g;clear g;go_wp2;go_ret;exact aN.of o.keep
def yU(w:World)(c a:Nat)(pid:List UInt8)(vl:List Ad)(S:Kor)(B:Nat->Prop)(p:Pt)(e:Ending)(w':World):Prop:=
 ∃v g f,e=.returned (.tuple #[.agg (aL v p).toArray,.bool true])/\gZ w' f v p/\KX w' c a pid ⟨S.txg+1,p,9,pid⟩ vl p.addrs 0 ⟨S.D,S.Z,S.cp,cX (vl++p.addrs),g,S.txg+1⟩ f/\(∀k,f k->B k\/w.heap.size≤k)/\AQ w v/\aA B w w'
theorem wD(h:S.put lv b=some (p,T)):T.D=S.D/\T.Z=S.Z/\T.cp=S.cp/\T.txg=S.txg:=by
 unfold Kor.put at h;cases e:bL (bN S.L S.D S.Z) S.allUp S.cp with
 | none=>rw[e] at h;cases h
 | some l =>
   rw[e] at h;cases h
   exact⟨rfl,rfl,rfl,rfl⟩
theorem D3{z:Kor}(h:KX w c a pid u ol vl nw z B)(x:UInt8)(I:z.put 3 (sec x)=some (p,T))(ht:z.txg+1<2147483648)(qq:∀y∈vl,bW y z.D z.Z)(qr:vl.length≤32768)(qp:p.addrs.length≤32768):Calls prog 9 #[.pointer c,vb x] w (yU w c a pid vl z B p):=by
 have r:=O h;have qh:=oC h.bd (by decide) (iZ x) I;have qc:=O qh.1;have qx:=O qh.2.2.2.2.1;have J:=O (wD I);have qm:=O I;have qz:=O ht;have qy:=O qq;have qo:=O (And.intro qr qp);have j:=O (Loc.nil B B w);have o:Hid (∀i,B i->B i\/w.heap.size≤i):=O fun i e=>.inl e
 clear h qh I ht qq qr qp;obtain⟨xv,qi⟩:=zX9 (vb x)
 have q0:=O qi;rw[qi];clear qi;go_in
 go_wp2_with refine alA eX ?_
 intro b4 w1 L g hb;replace j:=O (j.new ((fun k e=>KX.lt r.out e)) L g hb);replace r:=O (KX.keep0 r.out g);clear L g hb;go_wp2_with fail;refine((by rw[←q0.out];exact mF w1 x:Calls _ _ #[xv] w1 (zH w1 x))).mono ?_;rintro e w2 ⟨o1,rfl,ho,g⟩;have qa:=r.out;obtain⟨oa,oc,rfl,-,-⟩:=(Rd.of_owns ho).form;have ql:=O (Rd.of_owns ho);have qk:=O (fun i (E:(Value.slice oa 256 oc).ownBlock=some i)=>show ¬B i from fun e=>by have h1:=bG ho E;have h2:=qa.lt e;omega);clear ho qa;replace j:=kL j g;replace r:=O (KX.keep0 r.out g);clear g;go_wp2_with fail;refine((by have h:=KX.put r.out (lv:=3) (by decide) (iZ x) ql.out qk.out;rw[qm.out] at h;exact h:Calls _ _ #[.pointer c,.int .i64 3,.slice oa 256 oc] w2 (pP w2 c a pid u ol vl nw z B (some (p,T))))).mono ?_;rintro e w3 ⟨v,B1,rfl,X,F,n,qg,g⟩;obtain⟨pa,G⟩:=zX9 (aL v p)
 have H:pa.length=35:=by rw[←G];exact bB X.pt.sum
 have Y:Hid (∀u∈pa,u.oneCell'=true):=O (by rw[←G];exact fE X.pt);have qe:=O G;rw[G];have f:=O X;have qw:Hid (AQ w v):=O fun i E=>Nat.le_trans j.keep.size (qg i E)
 have qv:Hid (∀i,v.ownBlock=some i->i≠b4):=O fun i E e=>by have h1:=qg i E;have h2:=(j.lt 0).2;omega
 have A:=O F;have q:Hid (∀i,B1 i->B i\/w.heap.size≤i):=O fun i e=>(n i e).elim (o i) fun h=>.inr (Nat.le_trans j.keep.size h)
 replace j:=O (j.turn (B':=B1) g (fun i E e=>(o i e).elim id fun h=>by omega) (fun i E e=>(n i e).elim id fun h=>by omega));clear o;have o:=q;clear q;clear r F X n qg g G ql qk;have r:=A;clear A
 go_wp2_with refine alW eX H aW (szP9 H) Y.out ?_
 intro b6 w5 L g hb
 replace j:=O (j.new ((fun k e=>KX.lt r.out e)) L g hb);replace r:=O (KX.keep0 r.out g);replace f:=pK f g;clear L g hb;go_wp2_with fail;have qd:Hid (¬(B1 b6\/b6=b4)):=O fun e=>e.elim (fun e=>(j.aq 0) e) fun e=>fH (i:=0) j.nd rfl 1 (by decide) rfl e.symm
 have q3:=O (j.lt 1).1;go_wp2_with fail;refine dwA (fun k=>B1 k\/k=b4) (by kernel_rfl) ?_;intro w6 S C U V W;replace j:=kL j W;replace r:=O (KX.keep0 r.out W);replace f:=pK f W;clear W;have R:=j;have qu:=r;have qn:=f;refine tnd 0 (.agg pa.toArray) rfl (yieldsIf_load_mid (by rfl) 33 (.tmp 6) rfl b6 0 rfl pa _ (fun w' h=>aD ((C w' h).blk (R.b 0) qd.out)) bJ rfl (szP9 H)) V ?_;refine tna 1 (.int .i64 0) rfl V ?_;refine tnb 2 (.bool true) rfl V ?_;refine tna 3 (.bool true) rfl V ?_;refine tna 4 (.pointer c) rfl V ?_;refine tnd 5 (.agg pa.toArray) rfl (yieldsIf_load_mid (by rfl) 33 (.tmp 6) rfl b6 0 rfl pa _ (fun w' h=>aD ((C w' h).blk (R.b 0) qd.out)) bJ rfl (szP9 H)) V ?_;refine wA9 6 ?_;go_wp2_with fail;refine((by rw[←qe.out];exact KX.commit r.out (by rw[J.2.2.2];exact qz.out) v p f.pt (by have:=qo.out;omega) 9 (by decide) (.inr ⟨qc.may,qc.lev,by rw[qx.out,J.2.2.2];exact Int.le_refl _⟩):Calls _ _ #[.pointer c,.agg pa.toArray,.int .i64 9] w6 (yT w6 c a pid ol vl T B1 p 9))).mono ?_;rintro e w7 ⟨rfl,N,B2,-,F,n,g⟩;have t:=U.out _ ((C _ V).tT g (fun i _ e=>.inl e));have qj:Hid (∀i,i<w6.heap.size->B2 i->B1 i):=O fun i E e=>(n i e).elim id fun h=>by have:=(C _ V).size;omega
 have A:=O F;replace f:=O (f.keep g n);have q:Hid (∀i,B2 i->B i\/w.heap.size≤i):=O fun i e=>(n i e).elim (o i) fun h=>.inr (Nat.le_trans j.keep.size h)
 replace j:=O (j.turn (B':=B2) g (fun i E e=>(o i e).elim id fun h=>by omega) (fun i E e=>(n i e).elim id fun h=>by omega));clear o;have o:=q;clear q;clear r F n g V;have r:=A;clear A;go_wp2_with fail;refine⟨t,?_⟩;refine tnb 7 (.bool true) rfl t ?_;refine tna 8 (.bool true) rfl t ?_;refine tna 9 (.bool true) rfl t ?_;refine tna 10 (.pointer c) rfl t ?_;refine tnb 11 (.pointer b6) rfl t ?_;refine tnd 12 v rfl (.inl ⟨by rfl,fun w' q1=>by have c:World.cell? w' ⟨b6,0,none⟩=some (v):=(aC (i:=0) ((C w' q1).blk (R.b 0) qd.out) (by rw[←qe.out];rfl));go_simp⟩) t ?_;refine wA9 13 ?_;go_wp2_with fail;refine((KX.hold r.out v p.addrs f.pt.rd (fun y hy=>(List.mem_append.1 hy).elim (fun h=>by show bW y T.D T.Z;rw[J.1,J.2.1];exact qy.out y h) fun h=>(qc.lies y h).1) qo.out (Nat.zero_le _):Calls _ _ #[.pointer c,v] w7 (nO w7 c a pid ⟨T.txg+1,p,9,pid⟩ vl p.addrs 0 ⟨T.D,T.Z,T.cp,T.L,N,T.txg+1⟩ B2))).mono ?_;rintro e w8 ⟨rfl,B3,F,n,g⟩;have K:=U.out _ ((C _ t).tT g (fun i E e=>.inl (qj i E e)))
 have A:Hid (KX w8 c a pid ⟨z.txg+1,p,9,pid⟩ vl p.addrs 0 ⟨z.D,z.Z,z.cp,cX (vl++p.addrs),N,z.txg+1⟩ B3):=O (by
  have h1:=J.out;have h2:=F;rw[show (⟨T.txg+1,p,9,pid⟩:Ub)=⟨z.txg+1,p,9,pid⟩ by rw[h1.2.2.2]] at h2;rw[show (⟨(⟨T.D,T.Z,T.cp,T.L,N,T.txg+1⟩:Kor).D,(⟨T.D,T.Z,T.cp,T.L,N,T.txg+1⟩:Kor).Z,(⟨T.D,T.Z,T.cp,T.L,N,T.txg+1⟩:Kor).cp,cX (vl++p.addrs),(⟨T.D,T.Z,T.cp,T.L,N,T.txg+1⟩:Kor).M,(⟨T.D,T.Z,T.cp,T.L,N,T.txg+1⟩:Kor).txg⟩:Kor)=⟨z.D,z.Z,z.cp,cX (vl++p.addrs),N,z.txg+1⟩ by show (⟨T.D,T.Z,T.cp,_,N,T.txg+1⟩:Kor)=_;rw[h1.1,h1.2.1,h1.2.2.1,h1.2.2.2]] at h2;exact h2)
 replace f:=O (f.keep g n);have q:Hid (∀i,B3 i->B i\/w.heap.size≤i):=O fun i e=>(n i e).elim (o i) fun h=>.inr (Nat.le_trans j.keep.size h)
 replace j:=O (j.turn (B':=B3) g (fun i E e=>(o i e).elim id fun h=>by omega) (fun i E e=>(n i e).elim id fun h=>by omega));clear o;have o:=q;clear q;clear r F n g t;have r:=A;clear A;go_wp2_with fail;refine⟨K,?_⟩;refine tnb 14 (.bool true) rfl K ?_;refine tna 15 (.bool true) rfl K ?_;refine wA9 16 ?_;refine stW (j.b 1) H aW (szP9 H) Y.out ?_;intro w9 g hb;have qf:=U.out _ ((C _ K).tT g (fun i E e=>.inr e));clear K;replace j:=O (j.set 1 g hb);replace r:=O (KX.keepT r.out g (fun i e=>e▸(j.aq 1)));replace f:=O (gZ.keepT f.out g (fun i E e=>qv.out i E e));clear g hb;refine wpList_nil ?_;refine⟨qf,?_⟩;refine tna 17 (.bool true) rfl qf ?_;refine wpAnyH_done (by kernel_rfl) ?_ _;clear qf C U R qu qn;have qt:=O (j.b 1);have HP:Hid (yU w c a pid vl z B p (.returned (.tuple #[.agg pa.toArray,.bool true])) w9):=O ⟨v,N,B3,by rw[qe.out],f.out,r.out,o.out,qw.out,j.keep⟩;clear j r f;go_wp2_with fail
 (try simp only[Exit.inBlock,Exit.then])
 refine bodyPost_ret (bO rfl _ _ b4 _ _ _ _ rfl qt.out bJ rfl (by rw[List.size_toArray,H];exact mI)) rfl ?_;exact HP.out
theorem DB(w:World)(va vm:Value)(l m:List Ad)(hl:Rd w 2 va l.length (aJ l))(hm:Rd w 2 vm m.length (aJ m))(qi:∀y∈m,y ∉ l)(qf:∀(i j:Nat) (x y:Ad),i<j->m[i]?=some x->m[j]?=some y->x.dev≠y.dev):Calls prog 10 #[va,vm] w (aN w (.bool false)):=by
 obtain⟨oa,ca,rfl,qq,qu⟩:=hl.form;obtain⟨ob,cb,rfl,qr,qv⟩:=hm.form;have qg:l.length≤maxLen:=by omega
 have qh:m.length≤maxLen:=by omega
 unfold maxLen at qg qh;have qd:=O hl;have U:=O hm;have ql:=O qi;have qj:=O qf;obtain⟨n,hn⟩:=zX9 l.length
 obtain⟨q,hq⟩:=zX9 m.length
 have HN:=O hn;have HM:=O hq;rw[hn] at qd qg;rw[hq] at U qh;rw[hn,hq];clear hl hm qq qu qr qv hn hq qi qf;go_in;go_wp2_with fail
 go_loopw [5] (fun i wr=>∃k:Nat,k≤q/\i=.int .i64 k/\Hid (aA aB w wr)) (fun i _=>q-(intOf i).toNat)
 case atStart=>exact⟨0,Nat.zero_le _,rfl,O (aA.refl _ _)⟩
 case round =>
 obtain⟨k,hk,rfl,E⟩:=hrel
 by_cases qt:k<q
 ·obtain⟨y,F⟩:∃y,m[k]?=some y:=⟨m[k]'(by rw[HM.out];exact qt),List.getElem?_eq_getElem _⟩
  have HY:=O F;have q4:(k:Int)<(q:Int):=by omega
  have q3:(0:Int)≤(k:Int):=by omega
  clear F;go_wp2_with fail
  go_loopw [6] (fun i wr=>∃j:Nat,j≤n/\i=.int .i64 j/\Hid (aA aB w wr)) (fun i _=>n-(intOf i).toNat)
  case atStart=>exact⟨0,Nat.zero_le _,rfl,E⟩
  case round =>
  clear E;obtain⟨j,hj,rfl,E⟩:=hrel
  by_cases qp:j<n
  ·obtain⟨x,K⟩:∃x,l[j]?=some x:=⟨l[j]'(by rw[HN.out];exact qp),List.getElem?_eq_getElem _⟩
   have F:=HY.out;obtain⟨S,r⟩:∃S:World->Prop,S=fun w'=>aA aB w w':=⟨_,rfl⟩
   have H:=qd.out;have t:=U.out;rw[←HN.out] at H;rw[←HM.out] at t;obtain⟨g,o,qw,hv,-⟩:=fT H K;obtain⟨v,z,qe,G,-⟩:=fT t F;have e1:oa=some ⟨g,o,none⟩:=by cases hv;rfl
   have e2:ob=some ⟨v,z,none⟩:=by cases G;rfl
   subst e1 e2;obtain⟨L,I⟩:=zX9 (aO x)
   obtain⟨N,J⟩:=zX9 (aO y)
   have W:=O (show ∀w',S w'->w'.rangeAt g (o+j*2) L from fun w' h=>by
    rw[r] at h;obtain⟨g',o',c',C,A⟩:=fT (H.keep h fun _ _=>id) K;cases C
    rw[←I];exact A)
   have X:=O (show ∀w',S w'->w'.rangeAt v (z+k*2) N from fun w' h=>by
    rw[r] at h;obtain⟨g',o',c',C,A⟩:=fT (t.keep h fun _ _=>id) F;cases C
    rw[←J];exact A)
   have qm:Hid ((prog.info? 93).map (·.size)=some L.length):=O (by rw[←I];exact cK);have qn:Hid ((prog.info? 93).map (·.size)=some N.length):=O (by rw[←J];exact cK);have Y:decide (x=y)=false:=decide_eq_false fun e=>ql.out y (List.mem_of_getElem? F) (e▸List.mem_of_getElem? K)
   have qk:Hid (∀w',Sem.run prog (binOp .eql 93 (.agg L.toArray) (.agg N.toArray)) w'=.ok (.bool false) w'):=O (fun w'=>by rw[←I,←J,←Y];exact P1 x y w');have V:=O (show ∀w',S w'->aA aB w w' from fun w' h=>by rw[r] at h;exact h);have f:S wr.drew:=by rw[r];exact E.drew
   have q1:(j:Int)<(n:Int):=by omega
   have q0:(0:Int)≤(j:Int):=by omega
   clear K F r H t hv G I J Y E;go_wp2_with fail;refine wp_region_held (S:=S) (by kernel_rfl) ?_;change wpAnyH _ _ _ _ _ _ _ _ wr.drew;generalize wr.drew=w6 at *;refine tka 0 (.slice (some ⟨g,o,none⟩) n ca) rfl f ?_;simp only[Act.put,List.setIfInBounds_toArray,List.set_cons_zero,List.set_cons_succ,List.getElem_toArray,List.getElem_cons_zero];refine tna 1 (.int .i64 j) rfl f ?_;refine tkd 2 (.pointer (some ⟨g,o+j*2,none⟩)) rfl (.inl ⟨by rfl,fun _ _=>?_⟩) f ?_
   ·go_simp
   refine nrm ?_;refine tnd 3 (.agg L.toArray) rfl (yieldsIf_load_mid (by rfl) 93 (.tmp 22) rfl g (o+j*2) rfl L _ W.out bY rfl qm.out) f ?_;refine tna 4 (.slice (some ⟨v,z,none⟩) q cb) rfl f ?_;refine tna 5 (.int .i64 k) rfl f ?_;refine tkd 6 (.pointer (some ⟨v,z+k*2,none⟩)) rfl (.inl ⟨by rfl,fun _ _=>?_⟩) f ?_
   ·go_simp
   refine nrm ?_;refine tnd 7 (.agg N.toArray) rfl (yieldsIf_load_mid (by rfl) 93 (.tmp 26) rfl v (z+k*2) rfl N _ X.out bY rfl qn.out) f ?_;refine tnd 8 (.bool false) rfl (Az (by rfl) 93 (.tmp 23) (.tmp 27) 93 rfl L.toArray N.toArray rfl rfl GQ qk.out) f ?_;refine wpAnyH_done (by kernel_rfl) ?_ _;have R:=O (V _ f);clear f;go_wp2
   go_roundw
   case rel=>exact⟨j+1,by omega,by go_num,R⟩
   case measure=>simp[intOf];omega
  ·obtain rfl:j=n:=by omega
   go_wp2_with fail
   go_loopw [7] (fun i wr=>∃j:Nat,j≤k/\i=.int .i64 j/\Hid (aA aB w wr)) (fun i _=>k-(intOf i).toNat)
   case atStart=>exact⟨0,Nat.zero_le _,rfl,E⟩
   case round =>
   clear E;obtain⟨i,hi,rfl,E⟩:=hrel
   by_cases qo:i<k
   ·obtain⟨x,K⟩:∃x,m[i]?=some x:=⟨m[i]'(by rw[HM.out];omega),List.getElem?_eq_getElem _⟩
    have F:=HY.out;obtain⟨S,r⟩:∃S:World->Prop,S=fun w'=>aA aB w w':=⟨_,rfl⟩
    have t:=U.out;rw[←HM.out] at t;obtain⟨v,z,qe,G,-⟩:=fT t F;have e2:ob=some ⟨v,z,none⟩:=by cases G;rfl
    subst e2;obtain⟨xd,qa⟩:=zX9 x.dev
    obtain⟨yd,qc⟩:=zX9 y.dev
    have W:=O (show ∀w',S w'->w'.cell? ⟨v,z+i*2,none⟩=some (.int .i64 xd) from fun w' h=>by
     rw[r] at h;obtain⟨g',o',c',C,A⟩:=fT (t.keep h fun _ _=>id) K;cases C
     rw[←qa];exact A 0 _ rfl)
    have X:=O (show ∀w',S w'->w'.cell? ⟨v,z+k*2,none⟩=some (.int .i64 yd) from fun w' h=>by
     rw[r] at h;obtain⟨g',o',c',C,A⟩:=fT (t.keep h fun _ _=>id) F;cases C
     rw[←qc];exact A 0 _ rfl)
    have Y:¬xd=yd:=by rw[←qa,←qc];exact qj.out i k x y qo K F
    have V:=O (show ∀w',S w'->aA aB w w' from fun w' h=>by rw[r] at h;exact h);have f:S wr.drew:=by rw[r];exact E.drew
    have qz:(i:Int)<(k:Int):=by omega
    have qy:(i:Int)<(q:Int):=by omega
    have qx:(0:Int)≤(i:Int):=by omega
    clear K F r t G qa qc E;go_wp2_with fail;refine wp_region_held (S:=S) (by kernel_rfl) ?_;change wpAnyH _ _ _ _ _ _ _ _ wr.drew;generalize wr.drew=w6 at *;refine tka 0 (.slice (some ⟨v,z,none⟩) q cb) rfl f ?_;simp only[Act.put,List.setIfInBounds_toArray,List.set_cons_zero,List.set_cons_succ,List.getElem_toArray,List.getElem_cons_zero];refine tna 1 (.int .i64 i) rfl f ?_;refine tkd 2 (.pointer (some ⟨v,z+i*2,none⟩)) rfl (.inl ⟨by rfl,fun _ _=>?_⟩) f ?_
    ·go_simp
    refine nrm ?_;refine tnb 3 (.pointer (some ⟨v,z+i*2,none⟩)) rfl f ?_;refine tnd 4 (.int .i64 xd) rfl (.inl ⟨by rfl,fun w' h=>by have c:World.cell? w' ⟨v,z+i*2,none⟩=some (.int .i64 xd):=W.out w' h;go_simp⟩) f ?_;refine tna 5 (.slice (some ⟨v,z,none⟩) q cb) rfl f ?_;refine tna 6 (.int .i64 k) rfl f ?_;refine tkd 7 (.pointer (some ⟨v,z+k*2,none⟩)) rfl (.inl ⟨by rfl,fun _ _=>?_⟩) f ?_
    ·go_simp
    refine nrm ?_;refine tnb 8 (.pointer (some ⟨v,z+k*2,none⟩)) rfl f ?_;refine tnd 9 (.int .i64 yd) rfl (.inl ⟨by rfl,fun w' h=>by have c:World.cell? w' ⟨v,z+k*2,none⟩=some (.int .i64 yd):=X.out w' h;go_simp⟩) f ?_;refine tnd 10 (.bool false) rfl (.inl ⟨by rfl,fun _ _=>by go_simp⟩) f ?_;refine wpAnyH_done (by kernel_rfl) ?_ _;have R:=O (V _ f);clear f;go_wp2
    go_roundw
    case rel=>exact⟨i+1,by omega,by go_num,R⟩
    case measure=>simp[intOf];omega
   ·obtain rfl:i=k:=by omega
    go_wp2
    go_roundw
    case rel=>exact⟨i+1,by omega,by go_num,E⟩
    case measure=>simp[intOf];omega
 ·obtain rfl:k=q:=by omega
  go_wp2;go_ret;exact aN.of E.out
def gV(l:List Ad):Prop:=∀(i j:Nat) (x y:Ad),i<j->l[i]?=some x->l[j]?=some y->x.dev≠y.dev
theorem gV.nil:gV []:=fun i j x y _ h=>by cases h
theorem gV.eq{l:List Ad}(h:gV l){x y:Ad}(n:x∈l)(o:y∈l)(e:x.dev=y.dev):x=y:=by
 obtain⟨i,k⟩:=List.getElem?_of_mem n;obtain⟨j,g⟩:=List.getElem?_of_mem o;rcases Nat.lt_trichotomy i j with f|rfl|f
 ·exact absurd e (h i j x y f k g)
 ·rw[k] at g;exact Option.some.inj g
 ·exact absurd e.symm (h j i y x f g k)
theorem GH{L:List Ad}{l:List Nat}(h:l.Nodup):gV (aU L Z l):=fun i j x y q g k e=>by
 unfold aU at g k;rw[List.getElem?_map] at g k;obtain⟨d,n,rfl⟩:=Option.map_eq_some_iff.1 g;obtain⟨d2,f,rfl⟩:=Option.map_eq_some_iff.1 k;have r:(d:Int)=(d2:Int):=e;obtain rfl:d=d2:=by omega
 have o:=(List.getElem?_eq_some_iff.1 n).1;exact absurd ((List.getElem?_inj o h).1 (n.trans f.symm)) (by omega)
theorem PU(D:Nat):upN (List.replicate D true)=D:=by
 unfold upN;rw[List.countP_replicate];simp
theorem DC(i:S.Bd)(h:S.put lv b=some (p,T)):p.addrs.length=S.cp/\gV p.addrs/\T.L=S.L++p.addrs:=by
 unfold Kor.put at h;cases e:bL (bN S.L S.D S.Z) S.allUp S.cp with
 | none=>rw[e] at h;cases h
 | some l =>
   rw[e] at h;cases h
   obtain⟨-,f,-,g,-⟩:=eM e;refine⟨?_,GH g,rfl⟩;show (aU S.L S.Z l).length=S.cp;rw[mW,f];unfold kU Kor.allUp;rw[PU];exact Nat.min_eq_left i.cD
theorem FV{e:List Int}{f:List Bool}:∀{n:Nat},(∀i,i<n->dU e f i=true)->(cZ e f n).length=n
 | 0,_=>rfl
 | n+1,h=>by
   rw[oK,List.length_append,FV fun i g=>h i (by omega),if_pos (h n (by omega))];rfl
theorem Md(n:gV ol)(o:gV vl)(d:Nat):0<(aZ (cX (ol++vl)) d 8).length:=by
 rcases Nat.eq_zero_or_pos (aZ (cX (ol++vl)) d 8).length with h|h
 ·exfalso
  have h0:=List.eq_nil_of_length_eq_zero h
  have j:∀s:Nat,5≤s->s<8->(⟨(d:Int),(s:Int)⟩:Ad)∈ol++vl:=fun s f v=>by
   cases q:dX (cX (ol++vl)) d s with
   | true=>exact mH.1 (of_decide_eq_true q)
   | false =>
     have k:(s:Int)∈aZ (cX (ol++vl)) d 8:=qA.2 ⟨s,rfl,v,f,q⟩;rw[h0] at k;cases k
  have key:∀(l:List Ad) (s t:Nat),gV l->s≠t->(⟨(d:Int),(s:Int)⟩:Ad)∈l->(⟨(d:Int),(t:Int)⟩:Ad)∈l->False:=fun l s t y z k r=>by
   have e:=congrArg Ad.sec (y.eq k r rfl);have A:(s:Int)=(t:Int):=e;omega
  have f:=List.mem_append.1 (j 5 (by decide) (by decide));have g:=List.mem_append.1 (j 6 (by decide) (by decide));have i:=List.mem_append.1 (j 7 (by decide) (by decide));rcases f with f|f<;>rcases g with g|g<;>rcases i with i|i
  ·exact key _ _ _ n (by decide) f g
  ·exact key _ _ _ n (by decide) f g
  ·exact key _ _ _ n (by decide) f i
  ·exact key _ _ _ o (by decide) g i
  ·exact key _ _ _ n (by decide) g i
  ·exact key _ _ _ o (by decide) f i
  ·exact key _ _ _ o (by decide) f g
  ·exact key _ _ _ o (by decide) f g
 ·exact h
theorem On(j:S.Bd)(q:S.Z=8)(o:S.L=cX (ol++vl))(t:gV ol)(v:gV vl)(lv:Nat)(b:List UInt8):∃p T,S.put lv b=some (p,T):=by
 have r:(bL (bN S.L S.D S.Z) S.allUp S.cp)≠none:=fun g=>by
  have f:(cZ (bN S.L S.D S.Z) S.allUp (bN S.L S.D S.Z).length).length=S.D:=by
   rw[jA];refine FV fun i k=>?_
   unfold dU;rw[oX _ k,o,q];have z:=Md t v i
   have n:S.allUp.getD i false=true:=by
    unfold Kor.allUp;rw[List.getD_eq_getElem?_getD,List.getElem?_replicate,if_pos k];rfl
   rw[n,Bool.true_and];exact decide_eq_true (by omega)
  unfold bL at g;have A:=j.d2;have C:=j.cD;rw[if_neg ?_] at g
  ·cases g
  ·rintro (e|e)
   ·rw[e] at f
    have:(0:Nat)=S.D:=f;omega
   ·rw[f] at e
    have y:S.D<min S.cp (upN S.allUp):=e;omega
 unfold Kor.put;cases h:bL (bN S.L S.D S.Z) S.allUp S.cp with
 | none=>exact absurd h r
 | some l=>exact⟨_,_,rfl⟩
theorem Oo(e:S.Bd)(f:S.Z=8){N:Nat}(h:S.room N):N≤64:=by
 have g:=MB h (show 0<S.cp by have:=e.c1;omega);have i:=oZ S.L S.D S.Z;have j:S.D*S.Z≤8*8:=by rw[f];exact Nat.mul_le_mul e.d8 (Nat.le_refl 8)
 omega
theorem Loc.bare{S:Nat->Prop}{e:World}(k:aA S e w):Loc S B e w []:=⟨k,(fun _ h=>by cases h),List.nodup_nil,(fun _ h=>by cases h),(fun _ h=>by cases h)⟩
theorem JH{op:Oper}{a:Act}(i:op.guard=none)(t:TypeId){e:TypeId}(x lo:Operand)(o:op.op=.slice t x (some lo) none none)(r:P.underlying t=some (.slice e))(q:∀w,(sizeOf e).run P w=.ok s w)
 (f:Option Addr) (n c k:Nat) (v:a.eval x=.slice f n c) (l:a.eval lo=.int .i64 (k:Int)) (j:k≤n) (h:wpList P ops Q rest (a.put op.dst (sliced f k n c s)) w):wpList P ops Q (op::rest) a w:=by
 refine wpList_plain i fun K g=>?_
 unfold Oper.wp execOp;simp only[o,v,Option.map_some,Option.map_none,l,Sem.run_bind,Sem.run_pure,Result.andThen_ok,El r f n c k j q w];exact g _ _ h
theorem PV:∀w,(sizeOf 93).run prog w=.ok 2 w:=fun w=>by kernel_rfl
structure Rm(w:World)(c a D cp k:Nat)(ol vl:List Ad)(B:Nat->Prop)(hv:Value)(wr:World):Prop where
 ki:∃u nw M,KX wr c a fJ u ol vl nw ⟨D,8,cp,cX (ol++vl),M,(k:Int)⟩ B/\nw≤1000
 low:∀i,B i->w.heap.size≤i
 kp:aA aB w wr
 held:fB wr w.heap.size 93 2 hv (ol++vl).length (aJ (ol++vl))
 far:∀i,hv.ownBlock=some i->¬B i
 ao:gV ol
 av:gV vl
 lo:ol.length=if k≤1 then 0 else cp
 lv:vl.length=if k=0 then 0 else cp
 pl:∀x∈ol++vl,bW x D 8
structure Rn(w:World)(c a D cp k N n:Nat)(u:Ub)(ol vl:List Ad)(S:Kor)(hl:List Ad)(B:Nat->Prop)(hv:Value)(wr:World):Prop where
 ki:∃nw,KX wr c a fJ u ol vl nw S B/\nw≤1000+3*n
 shp:S.D=D/\S.Z=8/\S.cp=cp/\S.txg=(k:Int)
 room:S.room (N-n)
 low:∀i,B i->w.heap.size≤i
 kp:aA aB w wr
 held:fB wr w.heap.size 93 2 hv hl.length (aJ hl)
 far:∀i,hv.ownBlock=some i->¬B i
 sub:∀x∈hl,x∈S.L
 few:hl.length≤10+3*n
theorem Rm.zero{wr:World}(h:KX wr c a fJ u [] [] nw ⟨D,8,cp,[],M,0⟩ B)(g:nw≤1000)(e:∀i,B i->w.heap.size≤i)(k:aA aB w wr):Rm w c a D cp 0 [] [] B (.slice none 0 0) wr:=
 ⟨⟨u,nw,M,by rw[show cX ([]++[]:List Ad)=[] from(Ax (l:=[]) List.Pairwise.nil fun x=>by simp).symm];exact h,g⟩,e,k,fB.nil _ _ _ _,(fun i f=>by cases f),gV.nil,gV.nil,rfl,rfl,(fun x j=>by cases j)⟩
theorem D4(w:World)(aF aR:Addr)(hg:iK w aF aR)(dx:Int)(xo:-9223372036854775808≤dx/\dx≤9223372036854775807)(cx:Int)(xm:-9223372036854775808≤cx/\cx≤9223372036854775807)(lv:Value)(l:List UInt8)(hr:Rd w 1 lv l.length (l.map vb)):Calls prog 3 #[.int .i64 dx,.int .i64 cx,lv] w (aN w (.bool true)):=by
 have HG:=O hg;have zz:=O xo;have zy:=O xm;obtain⟨va,vc,rfl,x8,xu⟩:=hr.form;obtain⟨ln,zr⟩:=zX9 l.length
 have z1:=O zr;have x6:(ln:Int)≤9223372036854775807:=by unfold maxLen at xu;omega
 rw[zr] at hr ⊢;have qw:=O hr;have xh:=qw;have j:=lN w;clear hg xo xm hr zr x8 xu;go_in;go_wp2_with fail;refine(GG w aF aR (iK.keep HG.out j.keep)).mono ?_;rintro e w1 ⟨rfl,f⟩;replace j:=kL j f;replace qw:=O (qw.keep f fun _ _=>id);clear f;go_wp2_with fail;refine(ER w1 dx 3 (by decide) (by decide) zz.1 zz.2).mono ?_;rintro e w2 ⟨rfl,rfl⟩;obtain⟨d3,xn⟩:∃k:Nat,dx % 3=(k:Int):=⟨(dx % 3).toNat,by omega⟩
 rw[xn];have vf:(0:Int)≤(d3:Int):=by omega
 have vg:(d3:Int)<3:=by omega
 clear xn;go_wp2_with fail;refine(ER w1 cx 2 (by decide) (by decide) zy.1 zy.2).mono ?_;rintro e w3 ⟨rfl,rfl⟩;obtain⟨c2,xk⟩:∃k:Nat,cx % 2=(k:Int):=⟨(cx % 2).toNat,by omega⟩
 rw[xk];have vd:(0:Int)≤(c2:Int):=by omega
 have ve:(c2:Int)<2:=by omega
 clear xk;go_wp2_with fail;refine((by have h:=B6 w1 (2+d3) (1+c2) (by omega) (by omega);rw[show (((2+d3):Nat):Int)=2+(d3:Int) by omega,show (((1+c2):Nat):Int)=1+(c2:Int) by omega] at h;exact h:Calls _ _ #[.int .i64 (2+(d3:Int)),.int .i64 (1+(c2:Int))] w1 (qO w1 (2+d3) (1+c2)))).mono ?_;rintro e w4 ⟨a,c,nw,B,rfl,A,qe,hB,f⟩;have qa:=O (Rm.zero A qe (fun i e=>Nat.le_trans j.keep.size (hB i e)) (j.keep.trans f));clear A qe hB;replace j:=kL j f;replace qw:=O (qw.keep f fun _ _=>id);clear f;rcases Nat.lt_or_ge 4 ln with xp|xp
 ·have x5:(4:Int)<(ln:Int):=by omega
  go_wp2;go_ret;exact aN.of j.keep
 have x5:¬(4:Int)<(ln:Int):=by omega
 go_wp2_with fail;clear qw
 go_loopw [10,11] (fun hv i wr=>∃(k:Nat) (ol vl:List Ad) (B:Nat->Prop),k≤ln/\i=.int .i64 (k:Int)/\Hid (Rm w c a (2+d3) (1+c2) k ol vl B hv wr)) (fun _ i _=>ln-(intOf i).toNat)
 case atStart=>exact⟨0,[],[],B,Nat.zero_le _,rfl,qa⟩
 case round =>
 clear qa j;obtain⟨k,ol,vl,B,f,rfl,qa⟩:=hrel
 by_cases xq:k<ln
 ·have vo:(k:Int)<(ln:Int):=by omega
  have vn:(0:Int)≤(k:Int):=by omega
  obtain⟨⟨u,nw,M,A,qe⟩,W,qi,E,V,q7,q9,qx,qy,zb⟩:=qa.out;obtain⟨ha,hc,rfl⟩:=E.form;obtain⟨xb,xw⟩:∃y,l[k]?=some y:=⟨l[k]'(by rw[z1.out];exact xq),List.getElem?_eq_getElem _⟩
  obtain⟨gl,og,rfl,qr⟩:∃g o,va=some ⟨g,o,none⟩/\wr.cell? ⟨g,o+k,none⟩=some (vb xb):=by
   obtain⟨h0,a',c',x7,-,-,-,x2⟩:=xh.keep qi fun _ _=>id
   obtain⟨g,o,e,x3⟩:=x2 (by rw[List.length_map,z1.out];omega);cases x7
   exact⟨g,o,e,x3 k _ (by rw[List.getElem?_map,xw];rfl)⟩
  obtain⟨p,T,I⟩:=On A.bd rfl rfl q7 q9 3 (sec xb);have qt:=DC A.bd I;have X:=oC A.bd (by decide) (iZ xb) I;have zl:=O (fun y (hy:y∈p.addrs) (e:y∈ol++vl)=>X.2.2.2.2.2.1 y hy (mH.2 e))
  have xe:Hid (∀y∈p.addrs,bW y (2+d3) 8):=O fun y hy=>by
   have h:=(X.1.lies y hy).1;rw[(wD I).1,(wD I).2.1] at h;exact h
  have z:=O A;have t:=O W;have C:=O E;have r:=O V;have vm:=O q7;have zw:=O q9;have z2:=O qx;have zm:=O qy;have q4:=O zb;have qk:=O qt;have qg:=O I;have j:=O (Loc.bare (S:=aB) (B:=B) qi);obtain⟨hn,zp⟩:=zX9 ((ol++vl).length)
  have q0:=O zp;rw[zp] at C r ⊢;obtain⟨xv,zv⟩:=zX9 (vb xb)
  rw[zv] at qr;have xi:=O zv;have qz:=O qr
  have K:Hid (vl.length≤2/\ol.length≤2/\p.addrs.length≤2):=O (by
   have h1:=qt.1;have h2:(⟨(2+d3),8,(1+c2),cX (ol++vl),M,(k:Int)⟩:Kor).cp=(1+c2):=rfl;rw[h2] at h1;refine⟨?_,?_,by omega⟩
   ·rw[qy];split<;>omega
   ·rw[qx];split<;>omega)
  clear qa A qe W qi E V q7 q9 qx qy zb xw I qt X zp zv qr;have c1:wr.cell? ⟨gl,og+k,none⟩=some (xv):=qz.out;go_wp2_with fail;clear c1;refine((by rw[←xi.out];exact D3 z.out xb qg.out (by show (k:Int)+1<2147483648;omega) (fun y hy=>q4.out y (List.mem_append_right _ hy)) (by have:=K.out;omega) (by have:=K.out;omega):Calls _ _ #[.pointer c,xv] wr (yU wr c a fJ vl (⟨(2+d3),8,(1+c2),cX (ol++vl),M,(k:Int)⟩:Kor) B p))).mono ?_;rintro e w5 ⟨v,Mc,B1,rfl,qf,A,L,zt,f⟩;obtain⟨pa,H⟩:=zX9 (aL v p)
  have za:pa.length=35:=by rw[←H];exact bB qf.pt.sum
  have q3:Hid (∀u∈pa,u.oneCell'=true):=O (by rw[←H];exact fE qf.pt);have ql:=O H;rw[H];have G:=O qf;have Y:Hid (∀i,(Value.slice ha hn hc).ownBlock=some i->¬B1 i):=O fun i J e=>(L i e).elim (r i J) fun h=>by have:=(C.lt J).2;omega
  replace C:=O (C.keep f fun i J e=>r.out i J e);clear r;have r:=Y;clear Y;have F:Hid (∀i,B1 i->w.heap.size≤i):=O fun i e=>(L i e).elim (t i) fun h=>Nat.le_trans j.keep.size h
  replace j:=O (j.turn (B':=B1) f (fun i J e=>by have:=t.out i e;omega) (fun i J e=>(L i e).elim id fun h=>by omega));clear t;have t:=F;clear F;have qj:Hid (KX w5 c a fJ ⟨(k:Int)+1,p,9,fJ⟩ vl p.addrs 0 ⟨(2+d3),8,(1+c2),cX (vl++p.addrs),Mc,(k:Int)+1⟩ B1):=O A;clear z A qf L zt f H qz xi;have z:=qj;clear qj
  go_wp2_with refine alW eX za aW (szP9 za) q3.out ?_
  intro zn w7 qm f hb
  replace j:=O (j.new ((fun k e=>KX.lt z.out e)) qm f hb);replace z:=O (KX.keep0 z.out f);replace C:=O (C.keep f fun _ _=>id);replace G:=pK G f;clear qm f hb;have c1:w7.cell? ⟨zn,0,none⟩=some (v):=(aC (i:=0) (j.b 0) (by rw[←ql.out];rfl))
  go_wp2_with fail;clear c1;refine((by have h:=C.rd;rw[←q0.out] at h ⊢;exact DB w7 _ v (ol++vl) p.addrs h G.pt.rd zl.out qk.2.1:Calls _ _ #[.slice ha hn hc,v] w7 (aN w7 (.bool false)))).mono ?_;rintro e w8 ⟨rfl,f⟩;replace j:=kL j f;replace z:=O (KX.keep0 z.out f);replace C:=O (C.keep f fun _ _=>id);replace G:=pK G f;clear f
  by_cases zq:k=0
  ·have x4:¬(0:Int)<(k:Int):=by omega
   have HO:Hid (fB w8 w.heap.size 93 2 (.slice ha hn hc) hn (aJ vl)):=O (by
    have h1:=z2.out;rw[if_pos (by omega)] at h1;obtain rfl:ol=[]:=List.eq_nil_of_length_eq_zero h1;exact C.out)
   have U:Hid (∀i,(Value.slice ha hn hc).ownBlock=some i->(Value.slice ha hn hc).ownBlock=some i):=O fun i h=>h
   have qd:Hid (hn=vl.length):=O (by
    have h1:=z2.out;rw[if_pos (by omega)] at h1;have h2:=q0.out;rw[List.length_append] at h2;omega)
   clear zq;have c1:w8.cell? ⟨zn,0,none⟩=some (v):=(aC (i:=0) (j.b 0) (by rw[←ql.out];rfl))
   go_wp2_with (first
    | (at_builtin;refine mG rfl (.tmp 85) (.tmp 87) 29 rfl w.heap.size 93 (.agg #[.int .i64 0,.int .i64 0]) 2 16 underlying29 tW rfl (by decide) (.slice ha hn hc) (hn) (aJ vl) rfl HO.out (v) p.addrs.length (aJ p.addrs) rfl G.pt.rd (oN _) (by unfold maxLen;have:=K.out;have:=qd.out;omega) (by have:=K.out;have:=qd.out;omega) j.keep.size ?_))
   clear c1;intro v2 w9 qp qc qo
   have qa:Hid (Rm w c a (2+d3) (1+c2) (k+1) vl p.addrs B1 v2 w9):=O (by
    have zo:p.addrs.length=(1+c2):=qk.1;refine⟨⟨(⟨(k:Int)+1,p,9,fJ⟩:Ub),0,Mc,?_,Nat.zero_le _⟩,t.out,j.keep.tT qc (fun i J e=>by have:=(HO.lt e).1;omega),?_,?_,zw.out,qk.2.1,?_,?_,?_⟩
    ·have h:=KX.keepT z.out qc (fun i e=>r.out i (U i e))
     rw[show ((k+1:Nat):Int)=(k:Int)+1 by omega];exact h
    ·rw[List.length_append,gR,←qd.out];exact qp
    ·intro i J e
     rcases qo i J with h|h
     ·exact r.out i (U i h) e
     ·have h2:=KX.lt z.out e
      omega
    ·rw[zm.out]
     by_cases e:k=0
     ·rw[if_pos e,if_pos (by omega)]
     ·rw[if_neg e,if_neg (by omega)]
    ·rw[if_neg (by omega)];exact zo
    ·intro y hy
     exact(List.mem_append.1 hy).elim (fun h=>q4.out y (List.mem_append_right _ h)) (xe y))
   clear qp qc qo j z G C HO;go_wp2
   go_roundw
   case rel=>exact⟨k+1,vl,p.addrs,B1,by omega,by go_num,qa⟩
   case measure=>simp[intOf];omega
  ·have x4:(0:Int)<(k:Int):=by omega
   obtain⟨on,xt⟩:=zX9 ol.length
   have xr:hn=on+(1+c2):=by
    have h1:=zm.out;rw[if_neg zq] at h1;have h2:=q0.out;rw[List.length_append] at h2;omega
   have xy:Hid ((hn:Int)-(1+(c2:Int))=(on:Int)):=O (by omega);have vi:(0:Int)≤(hn:Int):=by omega
   have vj:(hn:Int)≤8:=by have h1:=K.out;have h2:=q0.out;rw[List.length_append] at h2;omega
   have xz:=O xr;have hcut:=C.cut (k:=on) (by omega);obtain⟨qv,zu⟩:=zX9 (sliced ha on hn hc 2)
   rw[zu] at hcut;have x1:=O zu;have z6:=O hcut;have z7:=O xt;clear hcut xr xt zq zu
   have HO:Hid (fB w8 w.heap.size 93 2 qv (hn-on) (aJ vl)):=O (by
    have h:=z6.1
    have e:(aJ (ol++vl)).drop (on*2)=aJ vl:=by
     rw[gR,←z7.out,←oM];exact List.drop_left
    rw[e] at h;exact h)
   have U:Hid (∀i,qv.ownBlock=some i->(Value.slice ha hn hc).ownBlock=some i):=O fun i h=>by rw[←z6.2];exact h
   have qd:Hid (hn-on=vl.length):=O (by
    have h2:=q0.out;have h3:=z7.out;rw[List.length_append] at h2;omega)
   have c1:w8.cell? ⟨zn,0,none⟩=some (v):=(aC (i:=0) (j.b 0) (by rw[←ql.out];rfl))
   go_wp2_with (first
    | ((with_reducible show WL (some 84) (.slice _ _ _ _ _));refine JH rfl 29 (.tmp 79) (.tmp 83) rfl underlying29 PV ha hn hc on rfl (by exact congrArg (Value.int .i64) xy.out) (by have:=xz.out;omega) ?_;rw[x1.out])
    | (at_builtin;refine mG rfl (.tmp 85) (.tmp 87) 29 rfl w.heap.size 93 (.agg #[.int .i64 0,.int .i64 0]) 2 16 underlying29 tW rfl (by decide) (qv) (hn-on) (aJ vl) rfl HO.out (v) p.addrs.length (aJ p.addrs) rfl G.pt.rd (oN _) (by unfold maxLen;have:=K.out;have:=qd.out;omega) (by have:=K.out;have:=qd.out;omega) j.keep.size ?_))
   clear c1;intro v2 w9 qp qc qo
   have qa:Hid (Rm w c a (2+d3) (1+c2) (k+1) vl p.addrs B1 v2 w9):=O (by
    have zo:p.addrs.length=(1+c2):=qk.1;refine⟨⟨(⟨(k:Int)+1,p,9,fJ⟩:Ub),0,Mc,?_,Nat.zero_le _⟩,t.out,j.keep.tT qc (fun i J e=>by have:=(HO.lt e).1;omega),?_,?_,zw.out,qk.2.1,?_,?_,?_⟩
    ·have h:=KX.keepT z.out qc (fun i e=>r.out i (U i e))
     rw[show ((k+1:Nat):Int)=(k:Int)+1 by omega];exact h
    ·rw[List.length_append,gR,←qd.out];exact qp
    ·intro i J e
     rcases qo i J with h|h
     ·exact r.out i (U i h) e
     ·have h2:=KX.lt z.out e
      omega
    ·rw[zm.out]
     by_cases e:k=0
     ·rw[if_pos e,if_pos (by omega)]
     ·rw[if_neg e,if_neg (by omega)]
    ·rw[if_neg (by omega)];exact zo
    ·intro y hy
     exact(List.mem_append.1 hy).elim (fun h=>q4.out y (List.mem_append_right _ h)) (xe y))
   clear qp qc qo j z G C HO;go_wp2
   go_roundw
   case rel=>exact⟨k+1,vl,p.addrs,B1,by omega,by go_num,qa⟩
   case measure=>simp[intOf];omega
 ·obtain rfl:ln=k:=by omega
  obtain⟨⟨u,nw,M,A,qe⟩,W,qi,E,V,q7,q9,qx,qy,zb⟩:=qa.out;have z:=O A;have q1:=O qe;have t:=O W;have C:=O E;have r:=O V;have q4:=O zb;have j:=O (Loc.bare (S:=aB) (B:=B) qi);have zh:=A.bd
  have xd:Hid (ol.length+vl.length≤10):=O (by
   have h1:(ol.length≤(1+c2)):=by rw[qx];split<;>omega
   have h2:(vl.length≤(1+c2)):=by rw[qy];split<;>omega
   omega)
  have xx:=O zh;clear qa A qe W qi E V q7 q9 qx qy zb zh;go_wp2_with fail;refine(KI.rooms (KX.ki z.out)).mono ?_;rintro e w5 ⟨N,hN,rfl,f⟩;have HN:=O hN;have x9:(N:Int)≤64:=by have:=Oo xx.out rfl hN;omega
  clear hN;replace j:=kL j f;replace z:=O (KX.keep0 z.out f);replace C:=O (C.keep f fun _ _=>id);clear f;go_wp2_with fail;have qq:Hid (Rn w c a (2+d3) (1+c2) ln N 0 u ol vl ⟨(2+d3),8,(1+c2),cX (ol++vl),M,(ln:Int)⟩ (ol++vl) B u10 w5):=O ⟨⟨nw,z.out,q1.out⟩,⟨rfl,rfl,rfl,rfl⟩,HN.out,t.out,j.keep,C.out,r.out,fun x hx=>mH.2 hx,by rw[List.length_append];have:=xd.out;omega⟩;clear z C j t r q1
  go_loopw [10,16] (fun hv i wr=>∃(n:Nat) (Sk:Kor) (hl:List Ad) (B:Nat->Prop),n≤N/\i=.int .i64 (n:Int)/\Hid (Rn w c a (2+d3) (1+c2) ln N n u ol vl Sk hl B hv wr)) (fun _ i _=>N+1-(intOf i).toNat)
  case atStart=>exact⟨0,_,_,B,Nat.zero_le _,rfl,qq⟩
  case round =>
  clear qq B;obtain⟨n,Sk,hl,B,vq,rfl,qq⟩:=hrel;obtain⟨⟨nw,A,qe⟩,zj,zd,W,qi,E,V,zk,zi⟩:=qq.out;have z:=O A;have q1:=O qe;have R:=O zj;have t:=O W;have C:=O E;have r:=O V;have U:=O zk;have zg:=O zi;have xf:=O zd;have j:=O (Loc.bare (S:=aB) (B:=B) qi);have vp:(0:Int)≤(n:Int):=by omega
  have vh:(n:Int)≤64:=by omega
  have vk:(n:Int)≤(N:Int):=by omega
  have xl:vb (UInt8.ofNat n)=.int .u8 (n:Int):=by
   unfold vb;rw[UInt8.toNat_ofNat',Nat.mod_eq_of_lt (by omega)]
  have zx:=O xl;clear qq A qe zj zd W qi E V zk zi xl
  by_cases xq:n<N
  ·obtain⟨p,T,I,qu⟩:=Nz (N:=N-n-1) (by rw[show N-n-1+1=N-n by omega];exact xf.out) 0 (sec (UInt8.ofNat n))
   have qt:=DC z.bd I;have X:=oC z.bd (by decide) (iZ (UInt8.ofNat n)) I;have zl:=O (fun y (hy:y∈p.addrs) (e:y∈hl)=>X.2.2.2.2.2.1 y hy (U y e));have vr:(p.addrs.length:Int)=1+(c2:Int):=by have h1:=qt.1;have h2:=R.2.2.1;omega
   have x0:Hid (p.birth=(ln:Int)+1):=O (by rw[X.2.2.2.2.1,R.2.2.2]);have K:Hid (hl.length≤300/\p.addrs.length≤2):=O (by have:=zg.out;omega);have qd:=K;have qk:=O qt;have qg:=O I;have xg:=O qu;clear qt X I qu;go_wp2_with fail;refine((by have h:=mF wr (UInt8.ofNat n);rw[zx.out] at h;exact h:Calls _ _ #[.int .u8 (n:Int)] wr (zH wr (UInt8.ofNat n)))).mono ?_;rintro e w6 ⟨o1,rfl,ho,f⟩;have qn:=z.out;obtain⟨oa,oc,rfl,-,-⟩:=(Rd.of_owns ho).form;have qh:=O (Rd.of_owns ho);have ze:=O (fun i (J:(Value.slice oa 256 oc).ownBlock=some i)=>show ¬B i from fun e=>by have h1:=bG ho J;have h2:=qn.lt e;omega);clear ho qn;replace j:=kL j f;replace z:=O (KX.keep0 z.out f);replace C:=O (C.keep f fun _ _=>id);clear f;go_wp2_with fail;refine((by have h:=KX.put z.out (lv:=0) (by decide) (iZ (UInt8.ofNat n)) qh.out ze.out;rw[qg.out] at h;exact h:Calls _ _ #[.pointer c,.int .i64 0,.slice oa 256 oc] w6 (pP w6 c a fJ u ol vl nw Sk B (some (p,T))))).mono ?_;rintro e w7 ⟨v,B1,rfl,qf,A,L,zt,f⟩;obtain⟨xa,xc,rfl,-,-⟩:=qf.pt.rd.form;obtain⟨pa,H⟩:=zX9 (aL (.slice xa p.addrs.length xc) p)
   have za:pa.length=35:=by rw[←H];exact bB qf.pt.sum
   have q3:Hid (∀u∈pa,u.oneCell'=true):=O (by rw[←H];exact fE qf.pt);have ql:=O H;rw[H];have G:=O qf;have Y:Hid (∀i,u10.ownBlock=some i->¬B1 i):=O fun i J e=>(L i e).elim (r i J) fun h=>by have:=(C.lt J).2;omega
   replace C:=O (C.keep f fun i J e=>r.out i J e);clear r;have r:=Y;clear Y;have F:Hid (∀i,B1 i->w.heap.size≤i):=O fun i e=>(L i e).elim (t i) fun h=>Nat.le_trans j.keep.size h
   replace j:=O (j.turn (B':=B1) f (fun i J e=>by have:=t.out i e;omega) (fun i J e=>(L i e).elim id fun h=>by omega));clear t;have t:=F;clear F;have qj:=O A;clear z A qf L zt f H qh ze;have z:=qj;clear qj
   go_wp2_with refine alW eX za aW (szP9 za) q3.out ?_
   intro q5 w9 qm f hb
   replace j:=O (j.new ((fun k e=>KX.lt z.out e)) qm f hb);replace z:=O (KX.keep0 z.out f);replace C:=O (C.keep f fun _ _=>id);replace G:=pK G f;clear qm f hb;have c1:w9.cell? ⟨q5,0,none⟩=some (.slice xa p.addrs.length xc):=(aC (i:=0) (j.b 0) (by rw[←ql.out];rfl))
   have c2:w9.cell? ⟨q5,0,none⟩=some (.slice xa p.addrs.length xc):=(aC (i:=0) (j.b 0) (by rw[←ql.out];rfl))
   go_wp2_with fail;clear c1 c2;refine(DB w9 _ (.slice xa p.addrs.length xc) hl p.addrs C.rd G.pt.rd zl.out qk.2.1).mono ?_;rintro e wa ⟨rfl,f⟩;replace j:=kL j f;replace z:=O (KX.keep0 z.out f);replace C:=O (C.keep f fun _ _=>id);replace G:=pK G f;clear f;have c1:wa.cell? ⟨q5,1,none⟩=some (.int .i64 ((ln:Int)+1)):=(aC (i:=1) (j.b 0) (by rw[←ql.out];show some (Value.int .i64 p.birth)=_;rw[x0.out]))
   have c2:wa.cell? ⟨q5,0,none⟩=some (.slice xa p.addrs.length xc):=(aC (i:=0) (j.b 0) (by rw[←ql.out];rfl))
   go_wp2_with (first
    | (at_builtin;refine mG rfl (.tmp 134) (.tmp 136) 29 rfl w.heap.size 93 (.agg #[.int .i64 0,.int .i64 0]) 2 16 underlying29 tW rfl (by decide) (u10) (hl.length) (aJ hl) rfl C.out (.slice xa p.addrs.length xc) p.addrs.length (aJ p.addrs) rfl G.pt.rd (oN _) (by unfold maxLen;have:=K.out;have:=qd.out;omega) (by have:=K.out;have:=qd.out;omega) j.keep.size ?_))
   clear c1 c2;intro v2 wb qp qc qo
   have qq:Hid (Rn w c a (2+d3) (1+c2) ln N (n+1) u ol vl T (hl++p.addrs) B1 v2 wb):=O (by
    have X:=wD qg.out;have zf:=R.out;refine⟨⟨nw+p.addrs.length,KX.keepT z.out qc (fun i e=>r.out i e),by have h1:=q1.out;have h2:=K.2;omega⟩,⟨by rw[X.1];exact zf.1,by rw[X.2.1];exact zf.2.1,by rw[X.2.2.1];exact zf.2.2.1,by rw[X.2.2.2];exact zf.2.2.2⟩,?_,t.out,j.keep.tT qc (fun i J e=>by have:=(C.lt e).1;omega),?_,?_,?_,?_⟩
    ·rw[show N-(n+1)=N-n-1 by omega];exact xg.out
    ·rw[List.length_append,gR];exact qp
    ·intro i J e
     rcases qo i J with h|h
     ·exact r.out i h e
     ·have h2:=KX.lt z.out e
      omega
    ·intro y hy
     rw[qk.2.2];exact List.mem_append.2 ((List.mem_append.1 hy).imp (U y) id)
    ·rw[List.length_append];have h1:=zg.out;have h2:=K.2;omega)
   clear qp qc qo j z G C;go_wp2
   go_roundw
   case rel=>exact⟨n+1,T,hl++p.addrs,B1,by omega,by go_num,qq⟩
   case measure=>simp[intOf];omega
  ·obtain rfl:N=n:=by omega
   have qg:Hid (Sk.put 0 (sec (UInt8.ofNat N))=none):=O (Li (by have h:=xf.out;rw[Nat.sub_self] at h;exact h) 0 _);go_wp2_with fail;refine((by have h:=mF wr (UInt8.ofNat N);rw[zx.out] at h;exact h:Calls _ _ #[.int .u8 (N:Int)] wr (zH wr (UInt8.ofNat N)))).mono ?_;rintro e w6 ⟨o1,rfl,ho,f⟩;have qn:=z.out;obtain⟨oa,oc,rfl,-,-⟩:=(Rd.of_owns ho).form;have qh:=O (Rd.of_owns ho);have ze:=O (fun i (J:(Value.slice oa 256 oc).ownBlock=some i)=>show ¬B i from fun e=>by have h1:=bG ho J;have h2:=qn.lt e;omega);clear ho qn;replace j:=kL j f;replace z:=O (KX.keep0 z.out f);replace C:=O (C.keep f fun _ _=>id);clear f;go_wp2_with fail;refine((by have h:=KX.put z.out (lv:=0) (by decide) (iZ (UInt8.ofNat N)) qh.out ze.out;rw[qg.out] at h;exact h:Calls _ _ #[.pointer c,.int .i64 0,.slice oa 256 oc] w6 (aN w6 (.tuple #[.agg eK.toArray,.int .i64 15])))).mono ?_;rintro e w7 ⟨rfl,f⟩;replace j:=kL j f;replace z:=O (KX.keep0 z.out f);replace C:=O (C.keep f fun _ _=>id);replace qh:=O (qh.keep f fun _ _=>id);clear f
   go_wp2_with refine alW eX aW aW (szP9 aW) (dE zPt) ?_
   intro q5 w9 qm f hb
   replace j:=O (j.new ((fun k e=>KX.lt z.out e)) qm f hb);replace z:=O (KX.keep0 z.out f);replace C:=O (C.keep f fun _ _=>id);replace qh:=O (qh.keep f fun _ _=>id);clear qm f hb;go_wp2_with fail;refine(KX.undo z.out (fun y hy=>by rw[R.1,R.2.1];exact q4.out y hy) (by have:=xd.out;omega) (by have:=q1.out;omega)).mono ?_;rintro e wa ⟨rfl,B4,A,L,f⟩;have F:Hid (∀i,B4 i->w.heap.size≤i):=O fun i e=>(L i e).elim (t i) fun h=>Nat.le_trans j.keep.size h
   replace j:=O (j.turn (B':=B4) f (fun i J e=>by have:=t.out i e;omega) (fun i J e=>(L i e).elim id fun h=>by omega));clear t;have t:=F;clear F;have qj:=O A;clear z A L f C qh;have z:=qj;clear qj;go_wp2_with fail;refine(KI.rooms (KX.ki z.out)).mono ?_;rintro e wb ⟨N2,xj,rfl,f⟩
   obtain rfl:N=N2:=by
    have h1:=HN.out;have h2:=xj;unfold Kor.room Kor.allUp at h1 h2;dsimp only at h1 h2;rw[R.1,R.2.1,R.2.2.1] at h2;exact h1.unique h2
   clear xj;replace j:=kL j f;replace z:=O (KX.keep0 z.out f);clear f;go_wp2;go_ret;exact aN.of j.keep
end
end Go.Proofs.YtoeinblfcbpcmaaGreatDoor
