import Derived.Test.YtoeinblfcbpcmaaGreatDoorC1
import Derived.Test.YtoeinblfcbpcmaaGreatDoorC38
import Derived.Test.YtoeinblfcbpcmaaGreatDoorC40
import Derived.Test.YtoeinblfcbpcmaaGreatDoorC41
import Derived.Lib.Strings
namespace Go.Proofs.YtoeinblfcbpcmaaGreatDoor
open Tryz
set_option maxHeartbeats 0
set_option maxRecDepth 100000
set_option linter.unusedVariables false
section
open Go.RowKit Go.Sort Go.Maps
instance:Inhabited Id:=⟨⟨List.replicate 32 0,by simp⟩⟩
def oT(x:Id):List Value:=x.1.map vb
theorem yQ(x:Id):(oT x).length=32:=by unfold oT;rw[List.length_map];exact x.2
theorem LZ(x:Id):∀v∈oT x,v.oneCell'=true:=bA _
def A3(x y:Id):Int:=BS x.1 y.1
theorem FO(x y:Id):ltOf A3 x y=dP x.1 y.1:=by
 unfold ltOf A3 BS;cases h:dP x.1 y.1
 ·cases dP y.1 x.1<;>simp
 ·simp
theorem QX:SWO (ltOf A3) where
 irrefl x:=by rw[FO];exact Ak _
 trans x y z h k:=by rw[FO] at *;exact vV h k
 ntrans x y z h k:=by
  rw[FO] at *;cases a:dP x.1 z.1
  ·rfl
  ·cases b:dP y.1 x.1
   ·rw[qN h b,k] at a;cases a
   ·rw[vV b a] at k;cases k
theorem PP(w:World):(isAgg 31).run prog w=.ok true w:=by kernel_rfl
theorem Oe(w:World):(Go.sizeOf 31).run prog w=.ok 32 w:=by kernel_rfl
theorem L0(blk off size:Nat)(w:World):CmpLays prog 132 #[] oT 32 A3 blk off size w:=
 fun m os a b x y=>by
  have:=Jt x.1 y.1 x.2 y.2 (sortWorldK oT 32 w blk off m a os);exact this.mono fun e c h=>h
theorem L3(ys:List Id):(ys.mergeSort fun x y=>!(ltOf A3) y x).map (·.1)=oS (ys.map (·.1)):=
 List.map_mergeSort fun a _ b _=>by rw[FO]
theorem yR(ys:List Id):ys.flatMap oT=eH (ys.map (·.1)):=by
 unfold eH oT;rw[List.flatMap_map]
theorem Jz(w:World)(base:Nat)(v:Value)(ys:List Id)(f:w.ownsRow base 31 32 v ys.length (eH (ys.map (·.1))))(A:ys.length≤65536) :
 Calls prog 196 #[v,.func (.func 132) #[] #[]] w fun e c=>e=.returned (.tuple #[])/\c.ownsRow base 31 32 v ys.length (eH (oS (ys.map (·.1))))/\aA (fun k=>v.ownBlock=some k) w c:=by
 rcases f.2 with⟨rfl,h0⟩|⟨g,d,cur,rfl,z,i,s,t,u,q⟩
 ·have b:ys=[]:=List.eq_nil_of_length_eq_zero h0
  subst b;have a:=AnyF.slices_SortFunc_none LQ none 0 (.func (.func 132) #[] #[]) w;change Calls prog 196 _ _ _ at a;refine a.mono ?_;rintro e c ⟨rfl,rfl⟩;exact⟨rfl,by simpa [oS] using f,aA.refl _ _⟩
 ·have o:∀args w,(callFunc 132 args).run prog w=.ok (.enter 132 args) w:=enters_of func132 (by kernel_rfl) rfl
  have r:HoldsK oT 32 w g 0 ys.toArray:=CL yQ (by decide) i (by rw[q,yR])
  have a:=AnyQ.slices_SortFunc_total LQ 32 PP Oe oT yQ LZ A3 QX 132 #[] g 0 d ys.toArray w o (L0 g 0 _ w) r (Array.getElem?_eq_some_iff.1 i).1 (by simp;omega)
   (fun x y j b=>by rw[FO] at j b;exact Subtype.ext (qN j b))
  change Calls prog 196 _ _ _ at a;rw[List.size_toArray] at a;refine a.mono ?_;rintro e c ⟨rfl,n,os,rfl⟩;refine⟨rfl,?_,?_⟩
  ·have:=zP (m:=n) (os:=os) yQ (by decide) f (dk:=(ys.mergeSort fun x y=>!(ltOf A3) y x).toArray) (by simp)
   rw[List.toList_toArray,yR,L3] at this;exact this
  ·exact(zO oT 32 w g n _ os).mono fun k _ h=>by rw[h];rfl
theorem L4(w:World)(lst:List (List UInt8×Int))(f b:Nat)(h:w.heap[f]?=some (.cells #[.map (some b)] 205 (0,0)))(i:bI lL idV iL w b lst)(d:lst.length≤65536) :
 Calls prog 195 #[.func (.func 197) #[] #[.pointer f]] w (A2 w (lst.map (·.1))):=by
 have C:=O (GA w lst f b h i d);clear h i;go_in;go_wp2_with fail;refine C.out.mono ?_;rintro e r ⟨v,ys,rfl,m,g,j⟩;obtain⟨a,c,rfl,-,-⟩:=(Rd.of_owns g).form;have q:=O m;have o:=O g;have n:=O j;clear m g j;go_wp2;go_ret;exact⟨_,ys,rfl,q.out,o.out,n.out⟩
def GB(w:World)(l:List (List UInt8))(e:Ending)(a:World):Prop:=
 ∃v,e=.returned v/\a.ownsRow w.heap.size 31 32 v l.length (eH (oS l))/\aA aB w a
theorem Of(w:World)(lst:List (List UInt8×Int))(s b:Nat)(F:w.heap[s]?=some (.cells #[.map (some b)] 205 (0,0)))(A:bI lL idV iL w b lst)(m:lst.length≤65536) :
 Calls prog 130 #[.func (.func 197) #[] #[.pointer s],.func (.func 132) #[] #[]] w (GB w (lst.map (·.1))):=by
 have C:=O (L4 w lst s b F A m)
 have r:∀y∈lst.map (·.1),y.length=32:=by
  obtain⟨M,clock,-,J⟩:=A;intro y K;obtain⟨p,g,rfl⟩:=List.mem_map.1 K;exact J.2.2.2.2 p g
 have z:=O r;clear F A r;go_in;go_wp2_with fail;refine C.out.mono ?_;rintro e L ⟨v,ys,rfl,g,n,G⟩;obtain⟨a,c,rfl,-,-⟩:=(Rd.of_owns n).form;obtain⟨d,rfl⟩:∃d:List Id,d.map (·.1)=ys:=⟨ys.attach.map fun y=>⟨y.1,z _ (g.subset y.2)⟩,by simp⟩
 have f:(d.map (·.1)).length=d.length:=List.length_map _;have B:d.length≤65536:=by have:=g.length_eq;simp only[List.length_map] at this;omega
 rw[f] at n;have D:=O (Jz L w.heap.size _ d n B);have E:=O g;have H:=O G
 have q:∀k,w.heap.size≤k\/¬(Value.slice a d.length c).ownBlock=some k:=fun k=>by
  by_cases e:(Value.slice a d.length c).ownBlock=some k
  ·exact .inl (aX n e)
  ·exact .inr e
 have x:=O q;clear g n G q;rw[f];go_wp2_with fail;refine D.out.mono ?_;rintro e P ⟨rfl,o,j⟩;have u:=O o;have t:=O j;clear o j;go_wp2;go_ret;refine⟨_,rfl,?_,H.tT t.out fun i N e=>?_⟩
 ·have I:=E.length_eq
  rw[←Ju E.out,←I,f];exact u.out
 ·rcases x.out i with h|h
  ·omega
  ·exact h e
end
section
open Go.RowKit Go.Maps Go.ChangeMaps
def eU(l:List Lab):List Value:=l.flatMap Lab.cells
def pO(l:List Lab):Prop:=∀x∈l,x.pool.length=32
variable{w:World}{v:Value}{l:List Lab}{k:Nat}{p:List UInt8}
theorem rW:∀{l:List Lab},pO l->(eU l).length=l.length*37
 | [],_=>rfl
 | x::l,h=>by
   have b:=x.cells_length (h x (by simp));have a:=rW (l:=l) fun y c=>h y (by simp[c])
   unfold eU at a ⊢;rw[List.flatMap_cons,List.length_append,b,a,List.length_cons];omega
theorem Am:∀{l:List Lab},pO l->∀{k:Nat}{x:Lab},l[k]?=some x->∀{j:Nat},j<37->(eU l)[k*37+j]?=x.cells[j]?
 | [],_,k,x,h,_,_=>by simp at h
 | y::l,a,0,x,h,j,b=>by
   simp only[List.getElem?_cons_zero,Option.some.injEq] at h;subst h;unfold eU;rw[List.flatMap_cons,Nat.zero_mul,Nat.zero_add,List.getElem?_append_left (by rw[y.cells_length (a y (by simp))];exact b)]
 | y::l,a,k+1,x,h,j,b=>by
   have c:=y.cells_length (a y (by simp));have:=Am (l:=l) (fun z d=>a z (by simp[d])) (k:=k) (x:=x) (by simpa using h) b;unfold eU at this ⊢;rw[List.flatMap_cons,List.getElem?_append_right (by rw[c];omega),c,show (k+1)*37+j-37=k*37+j by omega,this]
theorem FP(e:pO l)(h:Rd w 37 v l.length (eU l)){x:Lab}(d:l[k]?=some x) :
 ∃g o b,v=.slice (some ⟨g,o,none⟩) l.length b/\w.rangeAt g (o+k*37) x.cells:=by
 obtain⟨h0,a,b,rfl,q,r,s,i⟩:=h;have n:=(List.getElem?_eq_some_iff.1 d).1;obtain⟨g,o,rfl,m⟩:=i (by rw[rW e];omega);refine⟨g,o,b,rfl,fun j u f=>?_⟩;have c:j<37:=by have:=(List.getElem?_eq_some_iff.1 f).1;rw[x.cells_length (e x (List.mem_of_getElem? d))] at this;exact this
 have:=m (k*37+j) u (by rw[Am e d c];exact f)
 rwa [←Nat.add_assoc] at this
theorem A4:(prog.info? 112).map (·.size)=some 37:=by kernel_rfl
theorem FQ(x:Lab):∀u∈x.cells,u.oneCell'=true:=by
 intro u a;rcases List.mem_append.1 a with h|h
 ·exact bA _ u h
 ·simp[Lab.nums] at h
  rcases h with rfl|rfl|rfl|rfl|rfl<;>rfl
theorem qV(w:World):(zeroValue 3).run prog w=.ok (iL 0) w:=by kernel_rfl
def Og(w:World)(l:List Lab)(e:Ending)(a:World):Prop:=
 e=.returned (.tuple #[.agg ((kF l).1.map vb).toArray,.bool (decide (0<(kF l).2))])/\aA aB w a
def gY(l:List Lab)(j:Nat):List UInt8×Nat:=((dF l).take j).foldl (wA l) (vZ,0)
theorem BX(l:List Lab){j:Nat}(h:(dF l)[j]?=some p):gY l (j+1)=wA l (gY l j) p:=by
 unfold gY;have a:=(List.getElem?_eq_some_iff.1 h).1;rw[List.take_succ_eq_append_getElem a,List.foldl_append];rw[List.getElem?_eq_getElem a] at h;cases h
 rfl
theorem tE(a:pO l)(h:p∈dF l):p.length=32:=by
 rw[rV] at h;obtain⟨x,b,-,rfl⟩:=Oc h;exact a x b
theorem FR(b:pO l)(j:Nat):(gY l j).1.length=32:=by
 induction j with
 | zero=>simp[gY,vZ]
 | succ j a =>
   rcases h:(dF l)[j]? with _|p
   ·have:gY l (j+1)=gY l j:=by
     unfold gY;rw[List.take_of_length_le (by have:=List.getElem?_eq_none_iff.1 h;omega),List.take_of_length_le (List.getElem?_eq_none_iff.1 h)]
    rw[this];exact a
   ·rw[BX l h]
    unfold wA;split
    ·exact tE b (List.mem_of_getElem? h)
    ·exact a
theorem Ap:∀{l:List (List UInt8)},(∀y∈l,y.length=32)->(eH l).length=l.length*32
 | [],_=>rfl
 | x::l,h=>by
   have a:=Ap (l:=l) fun y b=>h y (by simp[b])
   unfold eH at a ⊢;rw[List.flatMap_cons,List.length_append,List.length_map,h x (by simp),a,List.length_cons];omega
theorem BY:∀{l:List (List UInt8)},(∀y∈l,y.length=32)->∀{k:Nat}{x:List UInt8},l[k]?=some x->∀{j:Nat},j<32->(eH l)[k*32+j]?=(x.map vb)[j]?
 | [],_,k,x,h,_,_=>by simp at h
 | y::l,a,0,x,h,j,b=>by
   simp only[List.getElem?_cons_zero,Option.some.injEq] at h;subst h;unfold eH;rw[List.flatMap_cons,Nat.zero_mul,Nat.zero_add,List.getElem?_append_left (by rw[List.length_map,a y (by simp)];exact b)]
 | y::l,a,k+1,x,h,j,b=>by
   have c:=a y (by simp);have:=BY (l:=l) (fun z d=>a z (by simp[d])) (k:=k) (x:=x) (by simpa using h) b;unfold eH at this ⊢;rw[List.flatMap_cons,List.getElem?_append_right (by rw[List.length_map,c];omega),List.length_map,c,show (k+1)*32+j-32=k*32+j by omega,this]
theorem QY{l:List (List UInt8)}(e:∀y∈l,y.length=32)(h:Rd w 32 v l.length (eH l)){x:List UInt8}(d:l[k]?=some x) :
 ∃g o b,v=.slice (some ⟨g,o,none⟩) l.length b/\w.rangeAt g (o+k*32) (x.map vb):=by
 obtain⟨h0,a,b,rfl,q,r,s,i⟩:=h;have n:=(List.getElem?_eq_some_iff.1 d).1;obtain⟨g,o,rfl,m⟩:=i (by rw[Ap e];omega);refine⟨g,o,b,rfl,fun j u f=>?_⟩;have c:j<32:=by have:=(List.getElem?_eq_some_iff.1 f).1;rw[List.length_map,e x (List.mem_of_getElem? d)] at this;exact this
 have:=m (k*32+j) u (by rw[BY e d c];exact f)
 rwa [←Nat.add_assoc] at this
theorem QZ(w:World)(v:Value)(l:List Lab)(ho:pO l)(hr:Rd w 37 v l.length (eU l))(hl:l.length≤65536):Calls prog 69 #[v] w (Og w l):=by
 have x5:=@run_makeMap prog;obtain⟨av,cv,rfl,-,-⟩:=hr.form;have HR:=O hr;clear hr;go_in
 go_wp2_with (first
  | (refine aG rfl 31 rfl jP mX (Array.replicate 32 (.int .u8 0)) rfl ?_))
 obtain⟨w2,qa⟩:=zX9 ((w.alloc (.cells (Array.replicate 32 (.int .u8 0)) 31)).alloc (.map #[] 0))
 have z6:aA aB w w2:=by rw[←qa];exact((aA.refl _ _).alloc _).alloc _
 have vc:w2.heap.size=w.heap.size+2:=by rw[←qa,World.size_alloc,World.size_alloc]
 have Z:bI lL idV iL w2 (w.heap.size+1) (dQ []):=by
  rw[←qa];have:=bI.made (ok:=lL) (enc:=idV) (ev:=iL) (w.alloc (.cells (Array.replicate 32 (.int .u8 0)) 31))
  rwa [World.size_alloc] at this
 rw[qa];have xh:w2.heap[w.heap.size]?=some (.cells (Array.replicate 32 (.int .u8 0)) 31 (0,0)):=by rw[←qa];exact((aA.refl aB _).alloc _).blk (heap_alloc_new _ _) id
 have xy:=O xh;have zi:=O z6;have zk:=O Z;clear qa z6 Z x5 xh
 go_loopw [14] (fun i wr=>∃k:Nat,k≤l.length/\i=.int .i64 k/\Hid (bI lL idV iL wr (w.heap.size+1) (dQ (l.take k)))/\Hid (aA (fun j=>j=w.heap.size+1) w2 wr)) (fun i _=>l.length-(intOf i).toNat)
 case atStart=>exact⟨0,Nat.zero_le _,rfl,zk,O (aA.refl _ _)⟩
 case round =>
  obtain⟨k,hk,rfl,HM,HK⟩:=hrel
  by_cases q9:k<l.length
  ·obtain⟨x,hx⟩:∃x,l[k]?=some x:=⟨l[k],by simp[q9]⟩
   have zg:x.pool.length=32:=ho x (List.mem_of_getElem? hx);have qj:aA (fun j=>j=w.heap.size+1) w wr:=zi.trans' HK.out (fun _ _ h=>h.elim) (fun _ _ h=>h)
   have xk:=HR.keep qj (fun b hb e=>by
    have:=HR.lt (by rw[rW ho];omega);obtain⟨b',zy,x8⟩:=this;rw[hb] at zy;cases zy;omega)
   obtain⟨g,o,x3,hv,c⟩:=FP ho xk hx;cases hv
   have xm:x.cells.length=37:=x.cells_length zg;have HX:=O hx;have HC:=O c;have qe:=O xm;have B:=O zg;clear hx c xk xm qj zg;obtain⟨zc,xn,xo⟩:∃zc,iY.cells=zc/\zc.length=37:=⟨_,rfl,rfl⟩
   have xp:∀w,(zeroValue 112).run prog w=.ok (.agg zc.toArray) w:=fun w=>by rw[←xn];exact kZ w
   have x2:=O xp;have zw:=O xo;clear xp xo xn
   go_wp2_with (first
    | ((with_reducible show WL (some 17) (.load 112 (.tmp 16)));refine wpList_load_mid rfl 112 (.tmp 16) rfl g (o+k*37) rfl x.cells _ HC.out underlying112 rfl (by rw[qe.out];exact A4) ?_)
    | ((with_reducible show WL (some 6) (.alloc 112));refine aG rfl 112 rfl _ x2.out zc.toArray rfl ?_)
    | ((with_reducible show WL none (.store 112 (.tmp 6) (.tmp 17)));refine aE rfl 112 (.tmp 6) (.tmp 17) rfl wr.heap.size 0 x.cells rfl rfl zc.toArray 112 (heap_alloc_new _ _) (by rw[qe.out,List.size_toArray,zw.out];exact Nat.le_refl _) (by rw[qe.out];exact A4) (FQ x) ?_
       intro w3 q1 z7;rw[aI _ _ (by rw[qe.out,List.size_toArray,zw.out])] at q1;have xb:aA aB wr w3:=((aA.refl aB wr).alloc _).tT z7 (fun i hi e=>by omega);have qu:=O q1;have J:=O xb;clear q1 z7 xb)
    | ((with_reducible show WL (some 18) (.load 112 (.tmp 6)));refine wpList_load_mid rfl 112 (.tmp 6) rfl wr.heap.size 0 rfl x.cells _ (aD qu.out) underlying112 rfl (by rw[qe.out];exact A4) ?_))
   refine(sE x B.out _).mono ?_;rintro e G ⟨rfl,F⟩;have Y:aA aB w3 G:=by rw[←F];exact(aA.refl _ _).alloc _
   have Q:aA aB wr G:=J.trans Y;have qv:=O (Y.blk qu.out id);have zm:=O (HM.keep Q id);have qd:=O (HK.tT Q (fun _ _ h=>h.elim));have zf:=Q.size;have x7:=HK.size;clear F Y Q qu J HM HK;have xl:l.take (k+1)=l.take k++[x]:=by rw[List.take_succ_eq_append_getElem q9];have:=HX.out;rw[List.getElem?_eq_getElem q9] at this;cases this;rfl
   have qz:Hid (dQ (l.take (k+1))=vX (dQ (l.take k)) x):=O (by rw[xl,vY]);clear xl;cases hm:x.may
   ·have zv:Hid (dQ (l.take (k+1))=dQ (l.take k)):=O (by rw[qz.out];unfold vX;rw[hm];rfl)
    clear hm
    go_wp2
    go_roundw
    case rel=>exact⟨k+1,by omega,by go_num,by rw[zv.out];exact zm,qd⟩
    case measure=>simp[intOf];omega
   ·have hn:(eE (dQ (l.take k)) x.pool).getD 0=(dG (l.take k) x.pool:Int):=BV _ _
    have hc:dG (l.take k) x.pool≤65536:=by
     have h1:dG (l.take k) x.pool≤(l.take k).length:=List.length_filter_le _ _;have h2:=List.length_take_le k l;omega
    generalize hz:dG (l.take k) x.pool=z at *;have HN:=O hn;have hT:dQ (l.take (k+1))=cJ (dQ (l.take k)) x.pool ((z:Int)+1):=by rw[qz.out];unfold vX;rw[hm,if_pos rfl,hn]
    have HT:=O hT;clear hm hz hn hT;generalize x6:dQ (l.take k)=m0 at *;clear x6 qz
    go_wp2
    have L:(x.pool.map vb).length=32:=by rw[List.length_map];exact B.out
    obtain⟨S,d⟩:∃S:World->Prop,S=fun a=>a.heap[wr.heap.size]?=some (.cells x.cells.toArray 112 (0,0))/\aA (fun j=>j=w.heap.size+1) G a:=⟨_,rfl⟩
    have H:S G.drew:=by rw[d];exact⟨(aA.refl aB G).drew.blk qv.out id,(aA.refl _ _).drew⟩
    have qi:∀a,S a->a.rangeAt wr.heap.size 0 (x.pool.map vb):=fun a h=>by
     rw[d] at h;intro j u hj;have z2:j<32:=by rw[←L];exact(List.getElem?_eq_some_iff.1 hj).1
     refine aD h.1 j u ?_;rw[x.cells_pool B.out j z2];exact hj
    have qh:∀a M,S a->aA (fun j=>j=w.heap.size+1) a M->S M:=fun a M h hk=>by
     rw[d] at h ⊢;exact⟨hk.blk h.1 (fun e=>by omega),h.2.trans hk⟩
    have qg:∀a,S a->aA (fun j=>j=w.heap.size+1) w2 a:=fun a h=>by rw[d] at h;exact qd.trans h.2
    have xd:bI lL idV iL G.drew (w.heap.size+1) m0:=zm.keep (aA.refl aB G).drew id;have qx:=O xd;have qp:=O qi;have W:=O qh;have qo:=O qg;have V:=O L;clear d qi qh qg xd L;refine wp_region_held (S:=S) (by kernel_rfl) ?_;change wpAnyH _ _ _ _ _ _ _ _ G.drew;generalize G.drew=w5 at *;refine tka 0 (.map (some (w.heap.size+1))) rfl H ?_;simp only[Act.put,List.setIfInBounds_toArray,List.set_cons_zero,List.set_cons_succ,List.getElem_toArray,List.getElem_cons_zero];refine tkd 1 (.pointer (wr.heap.size)) rfl (.inl ⟨by rfl,fun _ _=>?_⟩) H ?_
    ·go_simp
    refine nrm ?_;refine tnd 2 (.agg (x.pool.map vb).toArray) rfl (yieldsIf_load_mid (by rfl) 31 (.tmp 22) rfl wr.heap.size 0 rfl (x.pool.map vb) _ qp.out underlying31 rfl (by rw[V.out];exact fZ)) H ?_;refine kT (k:=3) (l:=5) rfl rfl (by kernel_rfl) ?_ ?_
    ·refine lV rfl (.tmp 21) (.tmp 23) 205 rfl sP underlying205 (qV _) x.pool B.out rfl rfl qx.out ?_
     rw[HN.out];refine wpList_nil ⟨H,?_⟩;unfold iL;refine nrm ?_;refine tkd 4 (.int .i64 ((z:Int)+1)) rfl (.inl ⟨by rfl,fun _ _=>?_⟩) H ?_
     ·go_simp
      exact IntWalk.i64_in _ (by omega)
     refine nrm ?_;refine wA9 5 ?_;refine oV rfl (.tmp 21) (.tmp 23) 205 rfl sP underlying205 (qV _) x.pool B.out rfl rfl qx.out ?_;intro st w6 D s ql;rw[HN.out] at D ⊢;have f:=W.out _ _ H s;have R:=O D;have qy:=O ql;clear D s ql H;refine wpList_nil ⟨f,?_⟩;unfold iL;refine nrm ?_;refine tkd 6 (goInt st) rfl (.inl ⟨by rfl,fun _ _=>?_⟩) f ?_
     ·go_simp
     refine nrm ?_;refine wA9 7 ?_;refine mT rfl rfl (.tmp 21) (.tmp 27) (.tmp 25) 205 rfl sP x.pool B.out ((z:Int)+1) rfl rfl rfl R.out qy.out ?_;intro w7 K n;have qf:=W.out _ _ f n;rw[wJ,←HT.out] at K;have T:=O K;clear K n f;refine wpList_nil ⟨qf,?_⟩;refine wpAnyH_done (by kernel_rfl) ?_ _;go_wp2
     go_roundw
     case rel=>exact⟨k+1,by omega,by go_num,T,O (qo _ qf)⟩
     case measure=>simp[intOf];omega
    ·refine oV rfl (.tmp 21) (.tmp 23) 205 rfl sP underlying205 (qV _) x.pool B.out rfl rfl qx.out ?_
     intro st w6 D s ql;rw[HN.out] at D ⊢;have f:=W.out _ _ H s;have R:=O D;have qy:=O ql;clear D s ql H;refine wpList_nil ⟨f,?_⟩;unfold iL;refine nrm ?_;refine tkd 6 (goInt st) rfl (.inl ⟨by rfl,fun _ _=>?_⟩) f ?_
     ·go_simp
     refine nrm ?_;refine wA9 3 ?_;refine lV rfl (.tmp 21) (.tmp 23) 205 rfl sP underlying205 (qV _) x.pool B.out rfl rfl R.out ?_;rw[tD,if_pos rfl,Option.getD_some];refine wpList_nil ⟨f,?_⟩;unfold iL;refine nrm ?_;refine tkd 4 (.int .i64 ((z:Int)+1)) rfl (.inl ⟨by rfl,fun _ _=>?_⟩) f ?_
     ·go_simp
      exact IntWalk.i64_in _ (by omega)
     refine nrm ?_;refine wA9 7 ?_;refine mT rfl rfl (.tmp 21) (.tmp 27) (.tmp 25) 205 rfl sP x.pool B.out ((z:Int)+1) rfl rfl rfl R.out qy.out ?_;intro w7 K n;have qf:=W.out _ _ f n;rw[wJ,←HT.out] at K;have T:=O K;clear K n f;refine wpList_nil ⟨qf,?_⟩;refine wpAnyH_done (by kernel_rfl) ?_ _;go_wp2
     go_roundw
     case rel=>exact⟨k+1,by omega,by go_num,T,O (qo _ qf)⟩
     case measure=>simp[intOf];omega
  ·obtain rfl:k=l.length:=by omega
   obtain⟨A,rfl⟩:∃A:World,A=wr:=⟨_,rfl⟩
   have hm:=HM.out;rw[List.take_length] at hm;have xw:=O hm;have qj:aA (fun j=>j=w.heap.size+1) w A:=zi.trans' HK.out (fun _ _ h=>h.elim) (fun _ _ h=>h);have xv:=O qj;have xi:A.heap[w.heap.size]?=some (.cells (Array.replicate 32 (.int .u8 0)) 31 (0,0)):=HK.blk xy.out (fun e=>by omega);have xz:=O xi;have x7:=HK.size;clear hm qj xi HM HK zk;obtain⟨G,F⟩:=zX9 (A.alloc (.cells (Array.replicate 32 (.int .u8 0)) 31))
   have Y:aA aB A G:=by rw[←F];exact(aA.refl _ _).alloc _
   have zf:G.heap.size=A.heap.size+1:=by rw[←F,World.size_alloc]
   have zz:G.heap[A.heap.size]?=some (.cells (vZ.map vb).toArray 31 (0,0)):=by rw[←F];exact heap_alloc_new _ _
   have qv:=O zz;have qd:=O Y;clear zz Y
   go_wp2_with (first
    | ((with_reducible show WL (some 7) (.alloc 31));refine aG rfl 31 rfl jP mX (Array.replicate 32 (.int .u8 0)) rfl ?_;rw[F];clear F))
   refine(Gz _ _).mono ?_;rintro e w5 ⟨rfl,qr⟩;have vd:w5.heap.size=A.heap.size+2:=by rw[qr,World.size_alloc,zf]
   have q5:aA aB G w5:=by rw[qr];exact(aA.refl _ _).alloc _
   have q4:w5.heap[G.heap.size]?=some (.cells #[.map (some (w.heap.size+1))] 205 (0,0)):=by rw[qr];exact heap_alloc_new _ _
   have za:bI lL idV iL w5 (w.heap.size+1) (dQ l):=xw.keep (qd.trans q5) id;rw[zf] at q4;have C:=O (Of w5 (dQ l) (A.heap.size+1) (w.heap.size+1) q4 za (Nat.le_trans (Dy l) hl));have qw:=O q5;have zn:=O za;clear qr q5 q4 za;go_wp2_with fail;refine C.out.mono ?_;rintro e w6 ⟨kv,rfl,qk,s⟩;have q7:(dF l).length=(dQ l).length:=by unfold dF oS;simp
   have xf:(dQ l).length≤65536:=Nat.le_trans (Dy l) hl;have e1:((dQ l).map (·.1)).length=(dQ l).length:=List.length_map _;rw[e1] at qk;have e2:oS ((dQ l).map (·.1))=dF l:=rfl;rw[e2,←q7] at qk;have ze:=Rd.of_owns qk;obtain⟨ka,kc,rfl,-,-⟩:=ze.form;have P:aA aB A w6:=(qd.trans qw.out).trans s;have x0:=O ze;have R:=O (zn.keep s id);have zh:=O ((qw.trans s).blk qv.out id);have zq:=O (P.blk xz.out id);have zj:=O (xv.tT P (fun _ _ h=>h.elim));have ve:=P.size
   have xg:∀b,(Value.slice ka (dF l).length kc).ownBlock=some b->A.heap.size+2≤b:=fun b hb=>by
    have:=aX qk hb;omega
   have xx:=O xg;clear qk s P ze C qw zn xg e1 e2;rw[←q7] at xf;clear q7;have va:(dF l).length≤65536:=xf;go_wp2_with fail
   go_loopw [8,33] (fun t i wr=>∃j m:Nat,j≤(dF l).length/\i=.int .i64 j/\t=.int .i64 m/\m=(gY l j).2/\m≤65536/\Hid (wr.heap[A.heap.size]?=some (.cells ((gY l j).1.map vb).toArray 31 (0,0)))/\Hid (aA (fun b=>b=A.heap.size) w6 wr)) (fun _ i _=>(dF l).length-(intOf i).toNat)
   case atStart=>exact⟨0,0,Nat.zero_le _,rfl,rfl,rfl,Nat.zero_le _,zh,O (aA.refl _ _)⟩
   case round =>
    obtain⟨j,m,hj,rfl,rfl,hm,D,HB,I⟩:=hrel;have qn:=O hm;clear hm;have vg:=I.size;have x9:=lt_of_block zh.out
    by_cases xc:j<(dF l).length
    ·obtain⟨p,hp⟩:∃p,(dF l)[j]?=some p:=⟨(dF l)[j],by simp[xc]⟩
     have zd:p.length=32:=tE ho (List.mem_of_getElem? hp);have xj:=x0.keep I.out (fun b hb e=>by have:=xx.out b hb;omega);obtain⟨g,o,x3,hv,c⟩:=QY (fun y hy=>tE ho hy) xj hp;cases hv
     have L:(p.map vb).length=32:=by rw[List.length_map];exact zd
     have xe:bI lL idV iL wr (w.heap.size+1) (dQ l):=R.keep I.out (by omega);have z1:dG l p≤65536:=Nat.le_trans (List.length_filter_le _ _) hl;have HP:=O hp;have zp:=O zd;have HC:=O c;have V:=O L;have zo:=O xe;have zu:=O (BV l p);have q:Hid ((prog.info? 31).map (·.size)=some (p.map vb).length):=O (by rw[L];exact fZ);have zt:=O (BX l hp);clear hp zd xj c L xe;generalize hz:dG l p=z at *;have HZ:=O hz;clear hz
     go_wp2_with (first
      | ((with_reducible show WL (some 36) (.load 31 (.tmp 35)));refine wpList_load_mid rfl 31 (.tmp 35) rfl g (o+j*32) rfl (p.map vb) _ HC.out underlying31 rfl q.out ?_)
      | ((with_reducible show WL (some 10) (.alloc 31));refine aG rfl 31 rfl jP mX (Array.replicate 32 (.int .u8 0)) rfl ?_)
      | ((with_reducible show WL none (.store 31 (.tmp 10) (.tmp 36)));refine aE rfl 31 (.tmp 10) (.tmp 36) rfl wr.heap.size 0 (p.map vb) rfl rfl (Array.replicate 32 (.int .u8 0)) 31 (heap_alloc_new _ _) (by rw[V.out,Array.size_replicate];exact Nat.le_refl _) q.out (bA _) ?_
         intro w7 r n;rw[aI _ _ (by rw[V.out,Array.size_replicate])] at r;have qq:aA aB wr w7:=((aA.refl aB wr).alloc _).tT n (fun i hi e=>by omega);have qm:=O r;have J:=O qq;have T:=O (zo.keep qq id);have vf:=qq.size;clear r n qq)
      | ((with_reducible show WL (some 38) (.load 31 (.tmp 10)));refine wpList_load_mid rfl 31 (.tmp 10) rfl wr.heap.size 0 rfl (p.map vb) _ (aD qm.out) underlying31 rfl q.out ?_)
      | ((with_reducible show WL (some 39) (.lookup _ _ _ _));refine lV rfl (.tmp 37) (.tmp 38) 205 rfl sP underlying205 (qV _) p zp.out rfl rfl T.out ?_;rw[zu.out];unfold iL))
     ·have zb:m<z:=by omega
      have E:gY l (j+1)=(p,z):=by rw[zt.out];unfold wA;rw[←qn.out,HZ.out,if_pos zb]
      have qt:=O E;clear E;obtain⟨S,d⟩:∃S:World->Prop,S=fun a=>a.heap[wr.heap.size]?=some (.cells (p.map vb).toArray 31 (0,0))/\bI lL idV iL a (w.heap.size+1) (dQ l)/\aA (fun b=>b=A.heap.size) w7 a:=⟨_,rfl⟩
      have H:S w7.drew:=by rw[d];exact⟨(aA.refl aB w7).drew.blk qm.out id,T.keep (aA.refl aB w7).drew id,(aA.refl _ _).drew⟩
      have qi:∀a,S a->a.rangeAt wr.heap.size 0 (p.map vb):=fun a h=>by rw[d] at h;exact aD h.1
      have zx:∀a,S a->(Instr.lookup 205 (.map (some (w.heap.size+1))) (.agg (p.map vb).toArray) false).run prog a=.ok (.int .i64 z) a:=fun a h=>by
       rw[d] at h;have:=h.2.1.lookup sP underlying205 (qV a) p zp.out false;rw[zu.out] at this;exact this
      have qh:∀a M,S a->aA (fun b=>b=A.heap.size) a M->S M:=fun a M h hk=>by
       rw[d] at h ⊢;exact⟨hk.blk h.1 (by omega),h.2.1.keep hk (by omega),h.2.2.trans hk⟩
      have x4:∀a,S a->a.heap[A.heap.size]?=some (.cells ((gY l j).1.map vb).toArray 31 (0,0))\/True:=fun _ _=>.inr trivial
      have r:w7.drew.heap[A.heap.size]?=some (.cells ((gY l j).1.map vb).toArray 31 (0,0)):=(J.drew).blk HB.out id;have qg:∀a,S a->aA (fun b=>b=A.heap.size) w6 a:=fun a h=>by rw[d] at h;exact(I.tT J.out (fun _ _ h=>h.elim)).trans h.2.2
      have qp:=O qi;have x1:=O zx;have W:=O qh;have qo:=O qg;have xr:=O r;have X:((gY l j).1.map vb).length=32:=by rw[List.length_map];exact FR ho j
      have qc:=O X;clear d qi zx qh qg x4 r X;refine wp_region_held (S:=S) (by kernel_rfl) ?_;change wpAnyH _ _ _ _ _ _ _ _ w7.drew;generalize w7.drew=w8 at *;refine tkd 0 (.agg (p.map vb).toArray) rfl (yieldsIf_load_mid (by rfl) 31 (.tmp 10) rfl wr.heap.size 0 rfl (p.map vb) _ qp.out underlying31 rfl q.out) H ?_;simp only[Act.put,List.setIfInBounds_toArray,List.set_cons_zero,List.set_cons_succ,List.getElem_toArray,List.getElem_cons_zero];refine tna 1 (.map (some (w.heap.size+1))) rfl H ?_;refine tnd 2 (.agg (p.map vb).toArray) rfl (yieldsIf_load_mid (by rfl) 31 (.tmp 10) rfl wr.heap.size 0 rfl (p.map vb) _ qp.out underlying31 rfl q.out) H ?_;refine tnd 3 (.int .i64 z) rfl (A9 (by rfl) (.tmp 43) (.tmp 44) 205 rfl x1.out) H ?_;refine wA9 4 ?_;refine aE rfl 31 (.tmp 7) (.tmp 42) rfl A.heap.size 0 (p.map vb) rfl rfl _ 31 xr.out (by rw[V.out,List.size_toArray,qc.out];exact Nat.le_refl _) q.out (bA _) ?_;intro w9 q3 xa;rw[aI _ _ (by rw[V.out,List.size_toArray,qc.out])] at q3;have q0:=W.out _ _ H xa;have xq:=O q3;clear q3 xa H;refine wpList_nil ⟨q0,?_⟩;simp only[Act.put,List.getElem_toArray,List.getElem_cons_succ,List.getElem_cons_zero];refine tna 5 (.int .i64 z) rfl q0 ?_;refine wpAnyH_done (by kernel_rfl) ?_ _;go_wp2
      go_roundw
      case rel=>exact⟨j+1,z,by omega,by go_num,rfl,by rw[qt.out],z1,by rw[qt.out];exact xq,O (qo _ q0)⟩
      case measure=>simp[intOf];omega
     ·have zb:¬m<z:=by omega
      have E:gY l (j+1)=gY l j:=by rw[zt.out];unfold wA;rw[←qn.out,HZ.out,if_neg zb]
      refine⟨⟨j+1,m,by omega,by go_num,rfl,by rw[E];exact qn.out,D,O (by rw[E];exact J.blk HB.out id),O (I.tT J.out (fun _ _ h=>h.elim))⟩,by simp[intOf];omega⟩
    ·obtain rfl:j=(dF l).length:=by omega
     have N:gY l (dF l).length=kF l:=by unfold gY kF;rw[List.take_length]
     have hb:=HB.out;rw[N] at hb;have Z:=qn.out;rw[N] at Z;have X:((kF l).1.map vb).length=32:=by rw[List.length_map,←N];exact FR ho _
     have xt:=O hb;have zl:=O Z;have qc:=O X;have q:Hid ((prog.info? 31).map (·.size)=some ((kF l).1.map vb).length):=O (by rw[X];exact fZ);have zr:=O (I.blk zq.out (by omega));clear hb Z X N
     go_wp2_with (first
      | ((with_reducible show WL (some 47) (.load 31 (.tmp 7)));refine wpList_load_mid rfl 31 (.tmp 7) rfl A.heap.size 0 rfl ((kF l).1.map vb) _ (aD xt.out) underlying31 rfl q.out ?_)
      | ((with_reducible show WL none (.store 31 (.tmp 2) (.tmp 47)));refine aE rfl 31 (.tmp 2) (.tmp 47) rfl w.heap.size 0 ((kF l).1.map vb) rfl rfl (Array.replicate 32 (.int .u8 0)) 31 zr.out (by rw[qc.out,Array.size_replicate];exact Nat.le_refl _) q.out (bA _) ?_
         intro w7 r n;rw[aI _ _ (by rw[qc.out,Array.size_replicate])] at r;have qm:=O r;have xu:=O n;clear r n))
     refine bodyPost_ret (bO rfl _ _ w.heap.size _ _ _ _ rfl qm.out underlying31 rfl (by rw[List.size_toArray];exact q.out)) rfl ⟨?_,?_⟩
     ·rw[←zl.out];rfl
     ·exact(zj.trans' I.out (U:=fun b=>w.heap.size≤b) (fun i _ h=>by omega) (fun i _ h=>by omega)).trans' xu.out (U:=aB) (fun i hi h=>by omega) (fun i hi h=>by omega)
end
end Go.Proofs.YtoeinblfcbpcmaaGreatDoor
