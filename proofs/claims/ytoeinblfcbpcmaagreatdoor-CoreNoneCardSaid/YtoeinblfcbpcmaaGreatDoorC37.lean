import Derived.Test.YtoeinblfcbpcmaaGreatDoorC31
import Derived.Test.YtoeinblfcbpcmaaGreatDoorC36
namespace Go.Proofs.YtoeinblfcbpcmaaGreatDoor
open Tryz
set_option maxHeartbeats 0
set_option maxRecDepth 100000
set_option linter.unusedVariables false
section
open Go.RowKit Go.Maps Go.ChangeMaps
variable{w we w8 w':World}{v v8 gv:Value}{T:TypeId}{s n k N0 c a m cp D Z nw d:Nat}{vs:List Value}{f:Nat->List UInt8}{u:Ub}{pid:List UInt8}{B:Nat->Prop}{Mm:Nat->Nat->List UInt8}{ps:List (Value×Ub)}
theorem PL:(prog.info? 22).map (fun i=>(i.zero,i.size,i.bytes))=some (some (.slice none 0 0),1,24):=by kernel_rfl
theorem Dr{wr:World}{j:List Value}(h:aA aB w wr)(b:we.ownsRow w.heap.size T s v n j)(k:aA aB wr we)(g:aA (fun k=>v.ownBlock=some k) we w8):aA aB w w8:=
 (h.trans k).tT g (fun i l e=>by have:=bG b e;omega)
def SlX(w:World)(vs:List Value)(k:Nat)(f:Nat->List UInt8):Prop:=∀j,j<k->∃u,vs[j]?=some u/\w.ownsRow 0 5 1 u 256 ((f j).map vb)
theorem SlX.keep0(h:SlX w vs k f)(q:aA aB w w'):SlX w' vs k f:=fun j b=>(h j b).imp fun u h=>⟨h.1,q.owns h.2 fun _ _=>id⟩
def SlR(w:World)(N0:Nat)(v:Value)(k:Nat)(f:Nat->List UInt8):Prop:=
 ∃vs,w.ownsRow N0 22 1 v k vs/\SlX w vs k f
theorem SlR.keep0(h:SlR w N0 v k f)(q:aA aB w w'):SlR w' N0 v k f:=by
 obtain⟨vs,b,e⟩:=h;exact⟨vs,q.owns b fun _ _=>id,e.keep0 q⟩
theorem SlR.more{u:Value}(l:we.ownsRow N0 22 1 v k vs)(r:SlX we vs k f)(o:we.ownsRow 0 5 1 u 256 ((f k).map vb))(t:w8.ownsRow N0 22 1 v8 (k+1) (vs++[u]))(p:aA (fun i=>v.ownBlock=some i) we w8):SlR w8 N0 v8 (k+1) f:=by
 have z:vs.length=k:=by have:=(Rd.of_owns l).1;omega
 have ne:∀{x:Value}{ys:List Value},we.ownsRow 0 5 1 x 256 ys->∀i,x.ownBlock=some i->¬v.ownBlock=some i:=by
  intro x ys b i y e;obtain⟨c1,q⟩:=aH b y;obtain⟨c2,g⟩:=aH l e;rw[q] at g;simp at g
 refine⟨_,t,fun j C=>?_⟩;rcases Nat.lt_or_ge j k with h|h
 ·obtain⟨x,A,b⟩:=r j h
  exact⟨x,by rw[List.getElem?_append_left (by omega)];exact A,p.owns b (ne b)⟩
 ·obtain rfl:j=k:=by omega
  exact⟨u,by rw[List.getElem?_append_right (by omega),z,Nat.sub_self];rfl,p.owns o (ne o)⟩
theorem SlR.rows(h:SlR w N0 v 4 f)(p:∀j,j<4->(f j).length=256):oR w v [f 0,f 1,f 2,f 3]:=by
 obtain⟨vs,g,l⟩:=h;refine⟨vs,Rd.of_owns g,fun i L e=>?_⟩;have b:i<4:=(List.getElem?_eq_some_iff.1 e).1
 have o:L=f i:=by
  match i,b with
  | 0,_=>exact(Option.some.inj e).symm
  | 1,_=>exact(Option.some.inj e).symm
  | 2,_=>exact(Option.some.inj e).symm
  | 3,_=>exact(Option.some.inj e).symm
 subst o;obtain⟨u,r,q⟩:=l i b;exact⟨u,r,by rw[p i b];exact Rd.of_owns q⟩
def Ds(w:World)(b:List (List UInt8))(e:Ending)(w':World):Prop:=∃v,e=.returned v/\oR w' v b/\aA aB w w'
theorem Jo{lv:Value}{t:Lst}(h:aT w c a m pid cp lv gv t)(V:bE w a B D Z Mm nw)(hd:d<D):Calls prog 135 #[.pointer c,.int .i64 (d:Int)] w (Ds w [Mm d 1,Mm d 2,Mm d 3,Mm d 4]):=by
 have qf:=V.bd;have r:=O h;have q:=O V;have HD:=O hd;have I:=O (fun j (hj:j<4)=>V.len hd (show j+1<Z by omega));have l:=lN w;clear h V;go_in;go_wp2_with fail;have qe:=O l.keep;clear l
 go_loopw [5,6,7,8] (fun v i _ _ wr=>∃(m k:Nat) (p:Option Addr) (N:Nat),m≤5/\i=.int .i64 (m:Int)/\v=.slice p k N/\Hid (k+1=m)/\Hid (aA aB w wr)/\Hid (SlR wr w.heap.size (.slice p k N) k (fun j=>Mm d (j+1)))) (fun _ i _ _ _=>5-(intOf i).toNat)
 case atStart=>exact⟨1,0,none,0,by omega,rfl,rfl,O rfl,O (aA.refl _ _),O ⟨[],World.ownsRow_nil _ _ _ _,fun j hj=>absurd hj (Nat.not_lt_zero _)⟩⟩
 case round =>
  obtain⟨m,k,p,N,hm,rfl,rfl,o,G,S⟩:=hrel
  by_cases qg:m<5
  ·have qc:(m:Int)<5:=by omega
   have hz:m<Z:=by omega
   have E:k≤5:=by have:=o.out;omega
   have HZ:=O hz;obtain⟨vs,R,Q⟩:=S.out;have A:=O R;have g:=O Q;have HW:=O G.size;have l:=lN wr;replace r:=O (r.keep0 G.out);replace q:=O (q.keep0 G.out);clear R Q hz S;have c1:wr.cell? ⟨c,0,none⟩=some (.pointer a):=(aT.c0 r.out)
   go_wp2_with fail;clear c1;refine((OC q.out HD.out HZ.out)).mono ?_;rintro e w1 ⟨u0,rfl,ho,b⟩;obtain⟨ua,uc,rfl,-,-⟩:=(Rd.of_owns ho).form;have U:=O (aQ ho (Nat.zero_le _));clear ho;replace l:=kL l b;replace r:=O (r.keep0 b);replace q:=O (q.keep0 b);replace A:=O (b.owns A.out fun _ _=>id);replace g:=O (g.keep0 b);clear b
   go_wp2_with ((with_reducible show WL _ _);refine bs1 173 22 (.tmp 24) (.slice ua 256 uc) (by kernel_rfl) (by kernel_rfl) underlying173 rfl ?_)
   intro M w2 P b hb;replace l:=lW l P b hb;replace r:=O (r.keep0 b);replace q:=O (q.keep0 b);replace A:=O (b.owns A.out fun _ _=>id);replace g:=O (g.keep0 b);replace U:=O (b.owns U.out fun _ _=>id);clear P b hb;have L:=U;have K:=g;have y:Rd w2 1 (.slice M 1 1) 1 [.slice ua 256 uc]:=eL (n:=1) (size:=1) (l.b 0) rfl (by unfold maxLen;omega);have x:=O y;have C:=A;have H:=O l.keep;clear y
   go_wp2_with (first
    | (at_builtin;refine aK rfl (.tmp 23) (.tmp 25) 173 rfl w.heap.size 22 (.slice none 0 0) 1 24 underlying173 PL rfl (by decide) (.slice p k N) k vs rfl A.out (.slice M 1 1) 1 [.slice ua 256 uc] rfl x.out (by intro u hu;rcases List.mem_singleton.1 hu with rfl;rfl) (by unfold maxLen;omega) (by omega) (Nat.le_trans HW.out H.size) ?_))
   intro v2 w8 F E qd Y;obtain⟨g2,c2,rfl⟩:=ownsRow_succ F;have J:=O F;have z:=O E;clear F E qd Y x l r q A g U;have W:Hid (aA aB w w8):=O (AM G.out C.out H.out z.out);have X:Hid (SlR w8 w.heap.size (.slice g2 (k+1) c2) (k+1) (fun j=>Mm d (j+1))):=O (SlR.more C.out K.out (by rw[o.out];exact L.out) J.out z.out);clear C K L J z;go_wp2
   go_roundw
   case rel=>exact⟨m+1,k+1,some ⟨g2,0,none⟩,c2,by omega,by go_num,rfl,O (by have:=o.out;omega),W,X⟩
   case measure=>simp[intOf];omega
  ·have qc:¬(m:Int)<5:=by omega
   have qa:k=4:=by have:=o.out;omega
   subst qa;have HP:Hid (Ds w [Mm d 1,Mm d 2,Mm d 3,Mm d 4] (.returned (.slice p 4 N)) wr):=O ⟨_,rfl,S.rows I.out,G.out⟩;clear S;go_wp2;go_ret;exact HP.out
def mE(w:World)(N0:Nat)(v:Value)(ps:List (Value×Ub)):Prop:=w.ownsRow N0 71 69 v ps.length (dS ps)/\fD w N0 ps
theorem mE.keep0(h:mE w N0 v ps)(k:aA aB w w'):mE w' N0 v ps:=⟨k.owns h.1 fun _ _=>id,h.2.keep k⟩
theorem mE.low{e:Nat}(h:mE w e v ps)(k:N0≤e):mE w N0 v ps:=⟨aQ h.1 k,fun q g=>by
 obtain⟨a,b,c,d⟩:=h.2 q g;exact⟨a,b,c,aQ d k⟩⟩
theorem mE.more{r:Value}{b:List (Value×Ub)}(g:mE we N0 v ps)(j:mE we N0 r b)(p:ps.length=n)(o:b.length=m)(l:w8.ownsRow N0 71 69 v8 (n+m) (dS ps++dS b))(h:aA (fun i=>v.ownBlock=some i) we w8):mE w8 N0 v8 (ps++b):=by
 refine⟨by rw[List.length_append,p,o,show dS (ps++b)=dS ps++dS b from List.flatMap_append ..];exact l,fun q e=>?_⟩;rcases List.mem_append.1 e with e|e
 ·exact fD.grow g.2 g.1 h q e
 ·exact fD.grow j.2 g.1 h q e
theorem Dt{b:Nat}(h:w.heap[b]?=some (.cells (aV v u).toArray T (0,0))):w.rangeAt b 1 (aL v u.root):=fun j x e=>by
 refine aC h ?_;rw[List.getElem?_toArray,Nat.add_comm];unfold aV;rw[List.getElem?_cons_succ,List.getElem?_append_left (List.getElem?_eq_some_iff.1 e).1];exact e
theorem LP{L out:List Ub}(b:∀x,x∈L↔x=u)(g:u.may=true)(h:rR L out):out=[u]:=
 h.unique ⟨List.pairwise_singleton _ _,fun x=>by rw[b x,List.mem_singleton];exact⟨fun e=>⟨e,e▸g⟩,fun e=>e.1⟩⟩
theorem DZ(h:yL w ps):∀x∈dS ps,x.oneCell'=true:=fun x b=>by
 obtain⟨p,e,b⟩:=List.mem_flatMap.1 b;exact jW (h p e) x b
structure Jp(u:Ub)(D Z d s:Nat)(Mm:Nat->Nat->List UInt8):Prop where
 may:u.may=true
 rmay:u.root.may=true
 hole:u.root.hole=false
 pl:∀x∈u.root.addrs,bW x D Z
 len:u.root.addrs.length≤65536
 pa:∃rest,u.root.addrs=⟨(d:Int),(s:Int)⟩::rest
 sum:u.root.sum=bU (Mm d s)
def Du(w:World)(c a m lb:Nat)(b:Value)(pid:List UInt8)(cp:Nat)(gv:Value)(B:Nat->Prop)(D Z:Nat)(Mm:Nat->Nat->List UInt8)(nw:Nat)(u:Ub)(e:Ending)(w':World):Prop:=
 e=.returned (.int .i64 0)/\∃rv,eJ w' c a m lb b pid cp gv ⟨rv,u,.slice none 0 0,[],.slice none 0 0,[]⟩ B D Z Mm nw/\(∀i,rv.ownBlock=some i->w.heap.size≤i)/\aA (fun i=>i=c) w w'
theorem Jq{lb:Nat}{yv:Value}(h:eJ w c a m lb yv pid cp gv lJ B D Z Mm nw)(hT:¬B c/\m≠c){aF aR:Addr}(hg:iK w aF aR)(hF:∀d,d<D->(lR [Mm d 1,Mm d 2,Mm d 3,Mm d 4] pid).1=[u])(hU:Jp u D Z d s Mm):Calls prog 73 #[.pointer c] w (Du w c a m lb yv pid cp gv B D Z Mm nw u):=by
 have xd:=h.arr.bd;have j:=O h;have I:=O hg;have HF:=O hF;have z:=O hU;have zf:=O hT;have F:=O h.cor.idl;have q1:=O (lt_of_block h.cor.top);have r:=lN w;have xg:=uB;clear h hg hF hU hT;go_in;go_wp2_with fail;refine(pJ j.cor j.arr).mono ?_;rintro e w1 ⟨v0,rfl,P,b⟩;obtain⟨g,o,dc,rfl,-⟩:=nD (Rd.of_owns P) (jL (show 0<D by omega))
 have q3:=O (fun(k:Nat) (b:k<D)=>show World.cell? w1 ⟨g,o+k,none⟩=some (.int .i64 (k:Int)) from by
  obtain⟨g',o',z7,he,hc⟩:=nD (Rd.of_owns P) (jL b);cases he
  exact hc)
 clear P;replace r:=kL r b;replace j:=O (j.keep0 b);replace I:=O (I.keep b);clear b;go_wp2_with fail;have zp:=O r.keep;have qo:=j;have q4:=I;clear r j I
 go_loopw [3,5,6,7,15] (fun v _ _ _ i wr=>∃(k:Nat) (pa:Option Addr) (ac:Nat) (ps:List (Value×Ub)),k≤D/\i=.int .i64 (k:Int)/\v=.slice pa k ac/\Hid (ps.length=k/\∀p∈ps,p.2=u)/\Hid (aA aB w1 wr)/\Hid (mE wr w1.heap.size (.slice pa k ac) ps)) (fun _ _ _ _ i _=>D-(intOf i).toNat)
 case atStart=>exact⟨0,none,0,[],by omega,rfl,rfl,O ⟨rfl,fun p G=>by cases G⟩,O (aA.refl _ _),O ⟨World.ownsRow_nil _ _ _ _,fun p G=>by cases G⟩⟩
 case round =>
  obtain⟨k,pa,ac,ps,b,rfl,rfl,A,HK,K⟩:=hrel
  by_cases U:k<D
  ·have qw:(0:Int)≤(k:Int):=by omega
   have xe:(k:Int)<(D:Int):=by omega
   have W:Hid (World.cell? wr ⟨g,o+k,none⟩=some (.int .i64 (k:Int))):=O (HK.cell (q3 k U) id);have r:=lN wr;have j:=O (qo.keep0 HK.out);have I:=O (q4.keep HK.out);have zg:=O HK.size;have c1:wr.cell? ⟨g,o+k,none⟩=some (.int .i64 (k:Int)):=W.out;go_wp2_with fail;clear c1;refine(nC j.arr j.cor j.liv U j.cpb (j.lab _ U)).mono ?_;rintro e w2 ⟨rfl,b⟩;replace r:=kL r b;replace j:=O (j.keep0 b);replace I:=O (I.keep b);replace W:=O (b.cell W.out id);replace K:=O (K.keep0 b);clear b;go_wp2_with fail;refine dwA aB (by kernel_rfl) ?_;intro w3 S qg qt hS V;replace r:=kL r V;replace j:=O (j.keep0 V);replace I:=O (I.keep V);replace W:=O (V.cell W.out id);replace K:=O (K.keep0 V);clear V;have zu:=r;have q0:=j;have zo:=I;have zw:=W;have zn:=K;refine tna 0 (.pointer c) rfl hS ?_;refine tna 1 (.int .i64 (k:Int)) rfl hS ?_;refine tna 3 (.pointer c) rfl hS ?_;refine tnb 4 (.pointer c) rfl hS ?_;refine tnb 5 (.pointer (some ⟨c,2,none⟩)) rfl hS ?_;refine tnd 6 (.agg (pid.map vb).toArray) rfl (yieldsIf_load_mid (by rfl) 31 (.tmp 28) rfl c 2 rfl (pid.map vb) _ (fun w' h=>(qg w' h).rangeAt (aT.id_ q0.cor)) underlying31 rfl (by rw[List.length_map,F.out];exact oA)) hS ?_;refine wA9 2 ?_;go_wp2_with fail;refine(Jo j.cor j.arr U).mono ?_;rintro e w4 ⟨v1,rfl,hr,b⟩;obtain⟨xa,xc,hv,-⟩:=hr.form;have z2:v1=.slice xa 4 xc:=hv;clear hv;subst z2;have HR:=O hr;clear hr;have qu:=qt.out _ ((qg _ hS).trans b);replace r:=kL r b;replace j:=O (j.keep0 b);replace I:=O (I.keep b);replace W:=O (b.cell W.out id);replace K:=O (K.keep0 b);clear hS b;go_wp2_with fail;refine⟨qu,?_⟩;refine wA9 7 ?_;go_wp2_with fail;have zt:=O r.keep.size;refine((LO w4 aF aR I.out (.slice xa 4 xc) _ HR.out pid F.out (fun L hL=>by have h9:=j.arr;simp only[List.mem_cons,List.not_mem_nil,or_false] at hL;rcases hL with rfl|rfl|rfl|rfl<;>(rw[h9.len U (by omega)];decide)))).mono ?_;rintro e w5 ⟨v2,qs,rfl,P,qd,Y,b⟩;rw[HF.out k U] at qd
   obtain⟨⟨qe,E⟩,rfl⟩:∃q,qs=[q]:=by
    rcases qs with _|⟨q,_|⟨q2,l⟩⟩
    ·cases qd
    ·exact⟨q,rfl⟩
    ·simp at qd
   obtain rfl:E=u:=by simpa using qd
   obtain⟨er,zj⟩:=zX9 ((lR [Mm k 1,Mm k 2,Mm k 3,Mm k 4] pid).2)
   rw[zj];obtain⟨qa,qc,rfl,-,-⟩:=(Rd.of_owns P).form;have HQ:Hid (mE w5 w4.heap.size (.slice qa 1 qc) [(qe,E)]):=O ⟨P,Y⟩;clear P Y qd zj;have M:=qt.out _ ((qg _ qu).trans b);replace r:=kL r b;replace j:=O (j.keep0 b);replace I:=O (I.keep b);replace W:=O (b.cell W.out id);replace K:=O (K.keep0 b);replace HR:=O (HR.keep b);clear qu b;go_wp2_with fail;refine⟨M,?_⟩;refine tna 8 (.tuple #[.slice qa 1 qc,.int .i64 er]) rfl M ?_;refine tnb 9 (.slice qa 1 qc) rfl M ?_;refine tnb 10 (.int .i64 er) rfl M ?_;refine tna 11 (.slice qa 1 qc) rfl M ?_;refine tna 12 (.int .i64 er) rfl M ?_;refine wpAnyH_done (by kernel_rfl) ?_ _;clear M qg qt zu q0 zo zw zn;have zd:Hid (mE w5 w1.heap.size (.slice qa 1 qc) [(qe,E)]):=O (HQ.low (by have h1:=zg.out;have h2:=zt.out;omega));have q5:=O r.keep;have qn:=K;have qp:=O K.1;have q9:=O (Rd.of_owns HQ.1);have zb:=O (DZ HQ.2.V);have zv:=O r.keep.size;rw[A.1] at qp;clear K HQ j I W r
   go_wp2_with (first
    | (at_builtin;refine aK rfl (.tmp 33) (.tmp 34) 214 rfl w1.heap.size 71 (.agg (aV (.slice none 0 0) ⟨0,⟨[],0,0,dM⟩,0,dM⟩).toArray) 69 120 underlying214 uB rfl (by decide) (.slice pa k ac) k (dS ps) rfl qp.out (.slice qa 1 qc) 1 (dS [(qe,E)]) rfl q9.out zb.out (by unfold maxLen;omega) (by omega) (Nat.le_trans zg.out zv.out) ?_))
   intro v2 w8 qy qx zz zy;obtain⟨g2,c2,rfl⟩:=ownsRow_succ qy;have zr:Hid (aA aB w1 w8):=O (Dr HK.out qn.1 q5.out qx);have zm:Hid (mE w8 w1.heap.size (.slice g2 (k+1) c2) (ps++[(qe,E)])):=O (mE.more qn.out zd.out A.1 rfl qy qx);clear qy qx zz zy qp q9 zb qn zd q5;go_wp2
   go_roundw
   case rel=>exact⟨k+1,some ⟨g2,0,none⟩,c2,ps++[(qe,E)],by omega,by go_num,rfl,O ⟨by rw[List.length_append,A.1];rfl,fun p G=>by
    rcases List.mem_append.1 G with G|G
    ·exact A.2 p G
    ·rw[List.mem_singleton] at G;rw[G]⟩,zr,zm⟩
   case measure=>simp[intOf];omega
  ·obtain rfl:k=D:=by omega
   have j:=O (qo.keep0 HK.out);have r:=lN wr;have q7:Hid (aA aB w wr):=O (zp.trans HK.out);clear qo q4 q3;go_wp2_with fail;refine((N9 wr (.slice pa k ac) ps (Rd.of_owns K.1) K.2.V (by rw[A.1];omega) (fun p G=>by rw[A.2 p G];exact z.len))).mono ?_;rintro e w7 ⟨v3,qs,rfl,P,qm,Y,b,-⟩
   have qi:=LP (u:=u) (fun x=>⟨fun h=>by obtain⟨p,G,rfl⟩:=List.mem_map.1 h;exact A.2 p G,fun e=>by
    rcases ps with _|⟨p,l⟩
    ·have h1:=A.1;simp at h1;omega
    ·exact List.mem_map.2 ⟨p,List.mem_cons_self ..,by rw[e];exact A.2 p (List.mem_cons_self ..)⟩⟩) z.may qm
   obtain⟨⟨rv,E⟩,rfl⟩:∃q,qs=[q]:=by
    rcases qs with _|⟨q,_|⟨q2,l⟩⟩
    ·cases qi
    ·exact⟨q,rfl⟩
    ·simp at qi
   obtain rfl:E=u:=by simpa using qi
   have C:=O (Y _ (List.mem_cons_self ..))
   have ze:=O (show ∃gg cc,v3=.slice (some ⟨gg,0,none⟩) 1 cc/\World.rangeAt w7 gg 0 (aV rv E) from by
    obtain⟨gg,cc,rfl⟩:=ownsRow_succ (k:=0) P;refine⟨gg,cc,rfl,?_⟩;obtain⟨g9,o9,c9,he,hr⟩:=OE (ps:=[(rv,E)]) (fun p G=>by rw[List.mem_singleton] at G;subst G;exact⟨C.2.1,C.1⟩) (Rd.of_owns P) (k:=0) rfl;cases he
    exact hr)
   obtain⟨gg,cc,rfl,zl⟩:=ze.out;have qq:=O zl;have t:Hid (UbV w7 rv E):=O ⟨⟨Rd.of_owns C.2.2.2,C.2.2.1,C.2.1⟩,C.1⟩
   have qr:=O (fun i (J:rv.ownBlock=some i)=>show w.heap.size≤i/\i<w7.heap.size/\∃cs T,w7.heap[i]?=some (.cells cs T (0,0)) from by
    obtain⟨cur,hc⟩:=aH C.2.2.2 J;exact⟨Nat.le_trans q7.size (bG C.2.2.2 J),lt_of_block hc,_,_,hc⟩)
   clear zl ze P qm Y qi C;replace r:=kL r b;replace j:=O (j.keep0 b);clear b;clear K;go_wp2_with fail;have zq:Hid (aA aB w w7):=O (q7.trans r.keep);clear r
   go_loopw [8,10,11,40] (fun v _ _ i wq=>v=.int .i64 0/\i=.int .i64 0/\wq=w7) (fun _ _ _ _ _=>0)
   case atStart=>exact⟨rfl,rfl,rfl⟩
   case round =>
    obtain⟨rfl,rfl,z6⟩:=hrel;obtain rfl:=z6.symm;have r:=lN w7;obtain⟨uc,R⟩:=zX9 (aV rv E)
    have qh:=O R;have H:=bZ (v:=rv) t.root.sum t.pool;have qk:=jW t.out;have za:Hid (∀y∈uc,y.oneCell'=true):=O (by rw[←R];exact qk);obtain⟨pc,Q⟩:=zX9 (aL rv E.root)
    have qf:=O Q;have qz:=bB (v:=rv) t.root.sum;have qj:=fE t.root;have xb:Hid (∀y∈pc,y.oneCell'=true):=O (by rw[←Q];exact qj);rw[R] at qq H;rw[Q] at qz;clear R Q qk qj
    go_wp2_with (first
     | refine ldM gg 0 uc qq.out cP (by rw[H];exact gB) ?_
     | refine alA I3 ?_)
    intro zh w9 zi qw ql
    go_wp2_with ((with_reducible show WL _ _);refine stW ql H vL (by rw[H];exact gB) za.out ?_)
    intro wa b hb;replace b:=tX qw b (fun i J e=>by omega);replace r:=lW r zi b hb;replace j:=O (j.keep0 b);replace t:=O (t.keep b fun _ _=>id);clear zi b hb qw ql
    go_wp2_with ((with_reducible show WL _ _);refine ldP zh 1 pc (by have X:=(r.b 0);rw[←qh.out] at X;rw[←qf.out];exact Dt X) qz ?_)
    refine((by rw[←qf.out];exact rE wa rv E.root t.root:Ka wa (bM wa E.root.hole))).mono ?_;rintro e wb ⟨rfl,b⟩;rw[z.hole];replace r:=kL r b;replace j:=O (j.keep0 b);replace t:=O (t.keep b fun _ _=>id);clear b
    go_wp2_with ((with_reducible show WL _ _);refine ldP zh 1 pc (by have X:=(r.b 0);rw[←qh.out] at X;rw[←qf.out];exact Dt X) qz ?_)
    refine((by obtain⟨rest,z1⟩:=z.pa;rw[←qf.out];exact AP j.out rv E.root t.root z.rmay z.hole z.pl z.len z1 z.sum:Ka wb (mC wb (Mm d s)))).mono ?_;rintro e wc ⟨v4,rfl,P,b⟩;obtain⟨ya,yc,rfl,-,-⟩:=(Rd.of_owns P).form;clear P;replace r:=kL r b;replace j:=O (j.keep0 b);replace t:=O (t.keep b fun _ _=>id);clear b
    go_wp2_with ((with_reducible show WL _ _);first
     | refine ldR (r.b 0) cP (by rw[H];exact gB) ?_
     | refine sta 71 (.tmp 60) (.tmp 58) c 39 uc j.cor.top (by rw[List.size_toArray,gL F.out (gT j.cor.lst),H];decide) (by rw[H];exact gB) za.out ?_)
    intro w9 N qv;rw[←qh.out,Ln a m pid F.out cp _ _ lJ rv E (bZ j.cor.lst.ub.root.sum j.cor.lst.ub.pool) (by rw[qh.out,H])] at qv
    have HP:Hid (Du w c a m lb yv pid cp gv B k Z Mm nw E (.returned (.int .i64 0)) w9):=O (by
     have xf:=q1.out;have kq:aA aB w7 wc:=r.keep;have zk:∀i,rv.ownBlock=some i->i≠c:=fun i J e=>by have h1:=(qr i J).1;omega
     have zx:kN w9 ⟨rv,E,.slice none 0 0,[],.slice none 0 0,[]⟩:=⟨t.keep N zk,Rd.nil _ _,Rd.nil _ _,(fun x hx=>by cases hx),(fun x hx=>by cases hx),(fun i J=>by
      rcases J with J|J|J
      ·obtain⟨-,-,cs,T,h1⟩:=qr.out i J
       exact⟨cs,T,N.blk (kq.blk h1 id) (zk i J)⟩
      ·cases J
      ·cases J),z.len,Nat.zero_le _,Nat.zero_le _⟩
     exact⟨rfl,rv,⟨⟨qv,F.out,zx⟩,j.arr.keep N fun i e=>e▸zf.1,N.blk j.mir zf.2,j.liv.keep N (j.liv.ne j.cor.top),j.cpb,j.lab⟩,fun i J=>(qr i J).1,(zq.trans kq).any.trans N⟩)
    clear N qv j r t qq;go_wp2;go_ret;exact HP.out
end
end Go.Proofs.YtoeinblfcbpcmaaGreatDoor
