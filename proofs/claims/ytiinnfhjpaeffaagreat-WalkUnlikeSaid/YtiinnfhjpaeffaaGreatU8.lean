import Derived.Test.YtiinnfhjpaeffaaGreatU7
import Derived.Test.YtiinnfhjpaeffaaGreatLaySort
namespace Go.Proofs.YtiinnfhjpaeffaaGreat
open Tryz
set_option maxHeartbeats 0
set_option maxRecDepth 100000
set_option linter.unusedVariables false
section
open Go.RowKit Go.Sort Go.Maps
instance:Inhabited Adr:=⟨⟨⟨0,0⟩,by unfold dS wO;exact⟨⟨by decide,by decide⟩,by decide,by decide⟩⟩⟩
def qD(x:Adr):List Value:=aO x.1
theorem wP(x:Adr):(qD x).length=2:=rfl
theorem Js(x:Adr):∀v∈qD x,v.oneCell'=true:=bN _
def BQ(x y:Adr):Int:=yL x.1 y.1
theorem D1(x y:Adr):ltOf BQ x y=gC x.1 y.1:=LI x.1 y.1
theorem zK(a:Ad):gC a a=false:=by rw[lC];omega
theorem Hj{a b c:Ad}(h:gC a b=true)(k:gC b c=true):gC a c=true:=by rw[qX] at *;omega
theorem uH{a b:Ad}(h:gC a b=false)(k:gC b a=false):a=b:=by
 rw[lC] at *;exact Ad.ext (by omega) (by omega)
theorem P7:SWO (ltOf BQ) where
 irrefl x:=by rw[D1];exact zK _
 trans x y z h k:=by rw[D1] at *;exact Hj h k
 ntrans x y z h k:=by
  rw[D1] at *;rw[lC] at *;omega
def iH(l:List Ad):List Ad:=l.mergeSort fun x y=>!gC y x
theorem Ae(x y z:Ad):(!gC y x)=true->(!gC z y)=true->(!gC z x)=true:=by
 simp only[Bool.not_eq_true',lC];omega
theorem wQ(x y:Ad):(!gC y x || !gC x y)=true:=by
 cases h:gC y x
 ·rfl
 ·have:gC x y=false:=by rw[qX] at h;rw[lC];omega
  rw[this];rfl
theorem Hk{a b:List Ad}(h:a.Perm b):iH a=iH b:=by
 refine List.Perm.eq_of_pairwise (le:=fun x y=>(!gC y x)=true) ?_ (List.pairwise_mergeSort Ae wQ a) (List.pairwise_mergeSort Ae wQ b) (((List.mergeSort_perm a _).trans h).trans (List.mergeSort_perm b _).symm);intro x y _ _ h k;simp only[Bool.not_eq_true'] at h k;exact uH k h
theorem CA{a:List Ad}{x:Ad}:x∈iH a↔x∈a:=(List.mergeSort_perm a _).mem_iff
theorem NP(w:World):(isAgg 82).run prog w=.ok true w:=by kernel_rfl
theorem LK(w:World):(Go.sizeOf 82).run prog w=.ok 2 w:=by kernel_rfl
theorem Jt(blk off size:Nat)(w:World):CmpLays prog 106 #[] qD 2 BQ blk off size w:=
 fun m os a f x y=>by
  have:=Jr x.1 y.1 (sortWorldK qD 2 w blk off m a os);exact this.mono fun e g h=>h
theorem Ju(ys:List Adr):(ys.mergeSort fun x y=>!(ltOf BQ) y x).map (·.1)=iH (ys.map (·.1)):=
 List.map_mergeSort fun a _ b _=>by rw[D1]
theorem wR(ys:List Adr):ys.flatMap qD=aR (ys.map (·.1)):=by
 unfold aR qD;rw[List.flatMap_map]
theorem Hl(w:World)(base:Nat)(v:Value)(ys:List Adr)(o:w.ownsRow base 82 2 v ys.length (aR (ys.map (·.1))))(E:ys.length≤65536) :
 Calls prog 151 #[v,.func (.func 106) #[] #[]] w fun e i=>e=.returned (.tuple #[])/\i.ownsRow base 82 2 v ys.length (aR (iH (ys.map (·.1))))/\aA (fun k=>v.ownBlock=some k) w i:=by
 rcases o.2 with⟨rfl,h0⟩|⟨g,j,cur,rfl,C,p,z,A,B,t⟩
 ·have f:ys=[]:=List.eq_nil_of_length_eq_zero h0
  subst f;have a:=AnyF.slices_SortFunc_none sortAddr none 0 (.func (.func 106) #[] #[]) w;change Calls prog 151 _ _ _ at a;refine a.mono ?_;rintro e i ⟨rfl,rfl⟩;exact⟨rfl,by simpa [iH] using o,aA.refl _ _⟩
 ·have r:∀args w,(callFunc 106 args).run prog w=.ok (.enter 106 args) w:=enters_of func106 (by kernel_rfl) rfl
  have u:HoldsK qD 2 w g 0 ys.toArray:=Jo wP (by decide) p (by rw[t,wR])
  have a:=AnyQ.slices_SortFunc_total sortAddr 2 NP LK qD wP Js BQ P7 106 #[] g 0 j ys.toArray w r (Jt g 0 _ w) u (Array.getElem?_eq_some_iff.1 p).1 (by simp;omega)
   (fun x y q f=>by rw[D1] at q f;exact Subtype.ext (uH q f))
  change Calls prog 151 _ _ _ at a;rw[List.size_toArray] at a;refine a.mono ?_;rintro e i ⟨rfl,n,os,rfl⟩;refine⟨rfl,?_,?_⟩
  ·have:=FK (m:=n) (os:=os) wP (by decide) o (dk:=(ys.mergeSort fun x y=>!(ltOf BQ) y x).toArray) (by simp)
   rw[List.toList_toArray,wR,Ju] at this;exact this
  ·exact(FJ qD 2 w g n _ os).mono fun k _ h=>by rw[h];rfl
theorem Jv(w:World)(lst:List (Ad×Nix))(g b:Nat)(i:w.heap[g]?=some (.cells #[.map (some b)] 122 (0,0)))(j:cG dS adV eA w b lst)(f:lst.length≤65536) :
 Calls prog 150 #[.func (.func 152) #[] #[.pointer g]] w (BO w (lst.map (·.1))):=by
 have C:=O (FM w lst g b i j f);clear i j;go_in;go_wp2_with fail;refine C.out.mono ?_;rintro e r ⟨v,ys,rfl,n,h,m⟩;obtain⟨a,c,rfl,-,-⟩:=(Rd.of_owns h).form;have q:=O n;have p:=O h;have o:=O m;clear n h m;go_wp2;go_ret;exact⟨_,ys,rfl,q.out,p.out,o.out⟩
def Ho(w:World)(l:List Ad)(e:Ending)(a:World):Prop:=
 ∃v,e=.returned v/\a.ownsRow w.heap.size 82 2 v l.length (aR (iH l))/\aA aB w a
theorem LL(w:World)(lst:List (Ad×Nix))(u b:Nat)(I:w.heap[u]?=some (.cells #[.map (some b)] 122 (0,0)))(F:cG dS adV eA w b lst)(n:lst.length≤65536) :
 Calls prog 104 #[.func (.func 152) #[] #[.pointer u],.func (.func 106) #[] #[]] w (Ho w (lst.map (·.1))):=by
 have C:=O (Jv w lst u b I F n)
 have t:∀y∈lst.map (·.1),dS y:=by
  obtain⟨T,clock,-,P⟩:=F;intro y Q;obtain⟨p,j,rfl⟩:=List.mem_map.1 Q;exact P.2.2.2.2 p j
 have E:=O t;clear I F t;go_in;go_wp2_with fail;refine C.out.mono ?_;rintro e R ⟨v,ys,rfl,j,o,J⟩;obtain⟨a,c,rfl,-,-⟩:=(Rd.of_owns o).form;obtain⟨f,rfl⟩:∃f:List Adr,f.map (·.1)=ys:=⟨ys.attach.map fun y=>⟨y.1,E _ (j.subset y.2)⟩,by simp⟩
 have g:(f.map (·.1)).length=f.length:=List.length_map _;have G:f.length≤65536:=by have:=j.length_eq;simp only[List.length_map] at this;omega
 rw[g] at o;have D:=O (Hl R w.heap.size _ f o G);have H:=O j;have K:=O J
 have r:∀k,w.heap.size≤k\/¬(Value.slice a f.length c).ownBlock=some k:=fun k=>by
  by_cases e:(Value.slice a f.length c).ownBlock=some k
  ·exact .inl (bM o e)
  ·exact .inr e
 have B:=O r;clear j o J r;rw[g];go_wp2_with fail;refine D.out.mono ?_;rintro e V ⟨rfl,q,m⟩;have A:=O q;have z:=O m;clear q m;go_wp2;go_ret;refine⟨_,rfl,?_,K.tT z.out fun i U e=>?_⟩
 ·have N:=H.length_eq
  rw[←Hk H.out,←N,g];exact A.out
 ·rcases B.out i with h|h
  ·omega
  ·exact h e
end
section
open Go.RowKit Go.Maps Go.ChangeMaps
def jE(l:List Ad):Prop:=∀x∈l,dS x
variable{l:List Ad}{k:Nat}{x y:Ad}{w:World}{v:Value}
theorem sP(l:List Ad):(aR l).length=l.length*2:=qW bG l
theorem Hp(h:l[k]?=some x){j:Nat}(a:j<2):(aR l)[k*2+j]?=(aO x)[j]?:=by
 unfold aR;rw[Ac bG (by decide),show (k*2+j) / 2=k by omega,show (k*2+j) % 2=j by omega,h,Option.bind_some]
theorem kF(h:Rd w 2 v l.length (aR l))(m:l[k]?=some x) :
 ∃g o e,v=.slice (some ⟨g,o,none⟩) l.length e/\w.rangeAt g (o+k*2) (aO x):=by
 obtain⟨h0,a,e,rfl,r,t,z,n⟩:=h;have q:=(List.getElem?_eq_some_iff.1 m).1;obtain⟨g,o,rfl,p⟩:=n (by rw[sP];omega);refine⟨g,o,e,rfl,fun j u i=>?_⟩;have f:j<2:=(List.getElem?_eq_some_iff.1 i).1;have:=p (k*2+j) u (by rw[Hp m f];exact i)
 rwa [←Nat.add_assoc] at this
theorem nT(a b:List Ad):aR (a++b)=aR a++aR b:=by simp[aR]
theorem zL(x:Ad):aR [x]=aO x:=by simp[aR]
theorem zM(l:List Ad):∀u∈aR l,u.oneCell'=true:=by
 intro u a;obtain⟨x,_,e⟩:=List.mem_flatMap.1 a;exact bN x u e
def fJ(l:List Ad):List (Ad×Nix):=l.foldl (fun s a=>eI s a .nix) []
theorem Hq(l:List Ad)(x:Ad):fJ (l++[x])=eI (fJ l) x .nix:=by simp[fJ]
theorem Hr(s:List (Ad×Nix))(a:Ad):(eI s a .nix).length≤s.length+1:=by
 unfold eI;split<;>simp
theorem CB(l:List Ad):(fJ l).length≤l.length:=by
 suffices h:∀(l:List Ad) (s:List (Ad×Nix)),(l.foldl (fun s a=>eI s a .nix) s).length≤s.length+l.length by simpa [fJ] using h l []
 intro l
 induction l with
 | nil=>intro s;simp
 | cons x l e=>intro s;have f:=e (eI s x .nix);have g:=Hr s x;simp only[List.foldl_cons,List.length_cons];omega
theorem Pd{n:Nat}(h:Rd w 2 v n (aR l))(j:n=l.length){b:Nat}(i:w.heap.size≤b):¬(0<n/\v.ownBlock=some b):=fun ⟨h0,e⟩=>by
 have:=h.lt (by rw[sP];omega);obtain⟨g,a,f⟩:=this;rw[e] at a;cases a;omega
def Pe(w:World)(l:List Ad)(e:Ending)(a:World):Prop:=∃b,e=.returned (.map (some b))/\cG dS adV eA a b (fJ l)/\w.heap.size≤b/\aA aB w a
theorem wS(w:World)(v:Value)(l:List Ad)(ho:jE l)(hr:Rd w 2 v l.length (aR l)):Calls prog 57 #[v] w (Pe w l):=by
 have ql:=@run_makeMap prog;obtain⟨av,cv,rfl,qi,qj⟩:=hr.form;have q:l.length≤maxLen:=by omega
 unfold maxLen at q;clear qi qj;obtain⟨n,hn⟩:=zX9 l.length
 have HR:=O hr;have X:=O hn;clear hr;rw[hn] at HR q ⊢;clear hn;go_in;go_wp2_with fail;obtain⟨B,m⟩:=zX9 (w.alloc (.map #[] 0))
 have N:aA aB w B:=by rw[←m];exact(aA.refl _ _).alloc _
 have qq:B.heap.size=w.heap.size+1:=by rw[←m,World.size_alloc]
 have T:cG dS adV eA B w.heap.size (fJ []):=by rw[←m];exact cG.made _
 rw[m];have F:=O N;have qb:=O T;clear m N T ql
 go_loopw [9] (fun i wr=>∃k:Nat,k≤n/\i=.int .i64 k/\Hid (cG dS adV eA wr w.heap.size (fJ (l.take k)))/\Hid (aA (fun j=>j=w.heap.size) B wr)) (fun i _=>n-(intOf i).toNat)
 case atStart=>exact⟨0,Nat.zero_le _,rfl,qb,O (aA.refl _ _)⟩
 case round =>
  obtain⟨k,hk,rfl,HM,E⟩:=hrel
  by_cases qk:k<n
  ·obtain⟨x,Y⟩:∃x,l[k]?=some x:=⟨l[k]'(by rw[X.out];exact qk),List.getElem?_eq_getElem _⟩
   have W:dS x:=ho x (List.mem_of_getElem? Y);have R:aA (fun j=>j=w.heap.size) w wr:=F.trans' E.out (fun _ _ h=>h.elim) (fun _ _ h=>h);have A:=HR.keep R (fun b hb e=>Pd HR.out X.symm (Nat.le_of_eq e.symm) ⟨by omega,hb⟩);rw[←X.out] at A;obtain⟨g,o,qp,hv,f⟩:=kF A Y;have qm:av=some ⟨g,o,none⟩:=by cases hv;rfl
   subst qm;have Z:=O f;have qg:=O W;have qe:Hid (fJ (l.take (k+1))=eI (fJ (l.take k)) x .nix):=O (by rw[List.take_add_one,Y,←Hq];rfl);have qn:adV x=.agg (aO x).toArray:=rfl;obtain⟨p,a⟩:=zX9 (aO x)
   have qo:=O a;have r:Hid ((prog.info? 82).map (·.size)=some p.length):=O (by rw[←a];exact bV);have K:Hid (p.length=2):=O (by rw[←a];rfl);have qf:Hid (∀u∈p,u.oneCell'=true):=O (by rw[←a];exact bN x);have qh:Hid (adV x=.agg p.toArray):=O (by rw[←a];rfl);rw[a] at Z;have qr:=E.size;clear Y W R A hv f qn a
   go_wp2_with (first
    | ((with_reducible show WL (some 12) (.load 82 (.tmp 11)));refine wpList_load_mid rfl 82 (.tmp 11) rfl g (o+k*2) rfl p _ Z.out bQ rfl r.out ?_)
    | ((with_reducible show WL (some 5) (.alloc 82));refine aS rfl 82 rfl eR eJ #[.int .i64 0,.int .i64 0] rfl ?_)
    | ((with_reducible show WL none (.store 82 (.tmp 5) (.tmp 12)));refine aQ rfl 82 (.tmp 5) (.tmp 12) rfl wr.heap.size 0 p rfl rfl #[.int .i64 0,.int .i64 0] 82 (heap_alloc_new _ _) (by rw[K.out];exact Nat.le_refl _) r.out qf.out ?_
       intro w3 t P;rw[aI _ _ (by rw[K.out];rfl)] at t;have z:aA aB wr w3:=((aA.refl aB wr).alloc _).tT P (fun i hi e=>by omega);have C:=O t;have H:=O z;have I:=O (HM.keep z id);clear t P z)
    | ((with_reducible show WL (some 14) (.load 82 (.tmp 5)));refine wpList_load_mid rfl 82 (.tmp 5) rfl wr.heap.size 0 rfl p _ (aC C.out) bQ rfl r.out ?_)
    | ((with_reducible show WL none (.mapUpdate 122 (.tmp 13) (.tmp 14) (.tmp 15)));refine nL rfl rfl (.tmp 13) (.tmp 14) (.tmp 15) 122 rfl DJ underlying122 x qg.out Nix.nix rfl qh.symm rfl I.out ?_
       intro w4 V Q;have J:=O V;have G:=O Q;clear V Q))
   have qc:=O (show cG dS adV eA w4 w.heap.size (fJ (l.take (k+1))) by rw[qe.out];exact J.out);have qa:=O ((E.tT H.out (fun _ _ h=>h.elim)).trans' G.out (U:=fun j=>j=w.heap.size) (fun _ _ h=>h) (fun _ _ h=>h));clear J G I H E HM C Z
   go_roundw
   case rel=>exact⟨k+1,by omega,by go_num,qc,qa⟩
   case measure=>simp[intOf];omega
  ·obtain rfl:k=n:=by omega
   have qd:Hid (cG dS adV eA wr w.heap.size (fJ l)):=O (by have:=HM.out;rwa [List.take_of_length_le (by rw[X.out];exact Nat.le_refl _)] at this);go_wp2;go_ret;exact⟨_,rfl,qd.out,Nat.le_refl _,F.tT E.out (fun i hi e=>by omega)⟩
def bE(s:List (Ad×Nix)):List Ad:=s.map (·.1)
def jF(w:World)(l:List Ad)(e:Ending)(a:World):Prop:=∃v,e=.returned v/\a.ownsRow w.heap.size 82 2 v l.length (aR l)/\aA aB w a
theorem rV(l:List Ad):(iH l).length=l.length:=List.length_mergeSort _
theorem Af(w:World)(b:Nat)(s:List (Ad×Nix))(h:cG dS adV eA w b s)(u:s.length≤65536):Calls prog 61 #[.map (some b)] w (jF w (iH (bE s))):=by
 obtain⟨j,g⟩:=zX9 (w.alloc (.cells #[.map (some b)] 122))
 have f:aA aB w j:=by rw[←g];exact(aA.refl _ _).alloc _
 have i:j.heap[w.heap.size]?=some (.cells #[.map (some b)] 122 (0,0)):=by rw[←g];exact heap_alloc_new _ _
 have C:=O (LL j s w.heap.size b i (h.keep f id) u);have n:=O f;have o:=O g;have p:=f.size;have K:=O (FL (some b) w);clear h f i g;go_in;go_wp2_with fail;refine K.out.mono ?_;rintro e z ⟨rfl,rfl⟩;rw[o.out];go_wp2_with fail;refine C.out.mono ?_;rintro e A ⟨v,rfl,m,q⟩;rw[List.length_map] at m;obtain⟨a,c,rfl,-,-⟩:=(Rd.of_owns m).form;have t:=O m;have r:=O (n.trans q);clear m q;go_wp2;go_ret;refine⟨_,rfl,?_,r.out⟩;rw[rV,show (bE s).length=s.length from List.length_map _];exact aW t.out p
theorem LM(w:World)(v:Value)(l:List Ad)(A:jE l)(m:Rd w 2 v l.length (aR l))(q:l.length≤65536):Calls prog 31 #[v] w (jF w (iH (bE (fJ l)))):=by
 have p:=O (wS w v l A m);obtain⟨E,F,rfl,-,h⟩:=m.form;have o:(fJ l).length≤65536:=Nat.le_trans (CB l) q;obtain⟨n,t⟩:=zX9 l.length
 rw[t] at p ⊢;clear m h t q;go_in;go_wp2_with fail;refine p.out.mono ?_;rintro e C ⟨b,rfl,r,G,j⟩;have L:=O (Af C b _ r o);have u:=O j;have B:=j.size;clear r j;go_wp2_with fail;refine L.out.mono ?_;rintro e I ⟨H,rfl,f,g⟩;obtain⟨a,c,rfl,-,-⟩:=(Rd.of_owns f).form;have z:=O f;have i:=O (u.trans g);clear f g;go_wp2;go_ret;exact⟨_,rfl,aW z.out B,i.out⟩
def yM(l:List Ad):Prop:=l.Pairwise fun x y=>gC x y=true
theorem Hs(h:gC x y=true):gC y x=false:=by rw[qX] at h;rw[lC];omega
theorem Gv(h:gC x y=true):x≠y:=by
 intro e;subst e;rw[zK] at h;cases h
theorem CD:∀{l m:List Ad},yM l->yM m->(∀x,x∈l↔x∈m)->l=m
 | [],[],_,_,_=>rfl
 | [],y::m,_,_,h=>absurd ((h y).2 (by simp)) (by simp)
 | x::l,[],_,_,h=>absurd ((h x).1 (by simp)) (by simp)
 | x::l,y::m,i,j,h=>by
   unfold yM at i j;rw[List.pairwise_cons] at i j
   have o:x=y:=by
    have f:x=y\/x∈m:=by simpa using (h x).1 (by simp)
    have g:y=x\/y∈l:=by simpa using (h y).2 (by simp)
    rcases f with f|f
    ·exact f
    ·rcases g with g|g
     ·exact g.symm
     ·have a:=j.1 x f
      rw[Hs (i.1 y g)] at a;cases a
   subst o
   have:l=m:=CD i.2 j.2 fun z=>by
    constructor
    ·intro n
     have:z=x\/z∈m:=by simpa using (h z).1 (by simp[n])
     exact this.resolve_left fun e=>Gv (i.1 z n) e.symm
    ·intro n
     have:z=x\/z∈l:=by simpa using (h z).2 (by simp[n])
     exact this.resolve_left fun e=>Gv (j.1 z n) e.symm
   rw[this]
theorem rW(l:List (Ad×Nix))(a x:Ad)(v:Nix):x∈bE (eI l a v)↔x∈bE l\/x=a:=by
 unfold eI bE;split
 ·rename_i h
  have i:(l.map fun p=>if p.1=a then (a,v) else p).map (·.1)=l.map (·.1):=by
   rw[List.map_map];apply List.map_congr_left;intro p _;simp only[Function.comp];split
   ·rename_i e;exact e.symm
   ·rfl
  rw[i];constructor
  ·exact fun h=>.inl h
  ·rintro (f|rfl)
   ·exact f
   ·obtain⟨p,j,g⟩:=List.any_eq_true.1 h
    exact List.mem_map.2 ⟨p,j,of_decide_eq_true g⟩
 ·simp
theorem D2{l:List (Ad×Nix)}(h:(bE l).Nodup)(a:Ad)(v:Nix):(bE (eI l a v)).Nodup:=by
 unfold eI bE at *;split
 ·have i:(l.map fun p=>if p.1=a then (a,v) else p).map (·.1)=l.map (·.1):=by
   rw[List.map_map];apply List.map_congr_left;intro p _;simp only[Function.comp];split
   ·rename_i e;exact e.symm
   ·rfl
  rw[i];exact h
 ·rename_i j
  rw[List.map_append,List.nodup_append];refine⟨h,by simp,?_⟩;intro x n y f e;simp only[List.map_cons,List.map_nil,List.mem_singleton] at f;subst f;subst e;obtain⟨p,m,g⟩:=List.mem_map.1 n;exact j (List.any_eq_true.2 ⟨p,m,decide_eq_true g⟩)
theorem jG(l:List Ad):(bE (fJ l)).Nodup/\∀x,x∈bE (fJ l)↔x∈l:=by
 suffices h:∀(l:List Ad) (s:List (Ad×Nix)),(bE s).Nodup->(bE (l.foldl (fun s a=>eI s a .nix) s)).Nodup/\∀x,x∈bE (l.foldl (fun s a=>eI s a .nix) s)↔x∈bE s\/x∈l by
  have:=h l [] (by simp[bE]);exact⟨this.1,fun x=>by rw[show fJ l=l.foldl (fun s a=>eI s a .nix) [] from rfl,this.2 x];simp[bE]⟩
 intro l
 induction l with
 | nil=>intro s e;exact⟨e,fun x=>by simp⟩
 | cons a l f =>
   intro s e;have:=f (eI s a .nix) (D2 e a .nix);refine⟨this.1,fun x=>?_⟩;rw[List.foldl_cons,this.2 x,rW,List.mem_cons];constructor
   ·rintro ((h|h)|h)<;>simp[h]
   ·rintro (h|h|h)<;>simp[h]
theorem zN(h:l.Nodup):yM (iH l):=by
 have a:(iH l).Pairwise fun x y=>(!gC y x)=true:=List.pairwise_mergeSort Ae wQ l
 have f:(iH l).Nodup:=(List.mergeSort_perm l _).nodup_iff.2 h;refine(List.Pairwise.and a f).imp fun {x y} ⟨p,q⟩=>?_
 simp only[Bool.not_eq_true'] at p;cases e:gC x y
 ·exact absurd (uH e p) q
 ·rfl
def dO(l:List Ad):List Ad:=iH (bE (fJ l))
theorem FN(l:List Ad):yM (dO l):=zN (jG l).1
theorem jC:x∈dO l↔x∈l:=by unfold dO;rw[CA];exact(jG l).2 x
theorem LN{m:List Ad}(h:yM l)(a:∀x,x∈l↔x∈m):l=dO m:=CD h (FN m) fun x=>by rw[jC];exact a x
theorem rX(l:List Ad):(dO l).length≤l.length:=by
 unfold dO;rw[rV];unfold bE;rw[List.length_map];exact CB l
theorem qE{s:List (Ad×Nix)}(h:(bE s).Nodup)(a:∀x,x∈bE s↔x∈l):iH (bE s)=dO l:=LN (zN h) fun x=>by rw[CA];exact a x
end
section
def eB(L:List Ad)(d s:Nat):Bool:=decide ((⟨(d:Int),(s:Int)⟩:Ad)∈L)
def gX(L:List Ad)(d s:Nat):Bool:=decide (5≤s) && !eB L d s
def bD(L:List Ad)(d k:Nat):List Int:=((List.range k).filter (gX L d)).map fun(s:Nat)=>(s:Int)
variable{L M:List Ad}{d k S:Nat}{x:Int}
theorem sQ(L:List Ad)(d k:Nat):bD L d (k+1)=bD L d k++if gX L d k then [(k:Int)] else []:=by
 unfold bD;rw[List.range_succ,List.filter_append,List.map_append]
 congr 1
 cases h:gX L d k<;>simp[h]
theorem FO(L:List Ad)(d:Nat):bD L d 5=[]:=by
 unfold bD
 have:(List.range 5).filter (gX L d)=[]:=by
  rw[List.filter_eq_nil_iff];intro s a;have:=List.mem_range.1 a;unfold gX;rw[decide_eq_false (by omega:¬5≤s)];simp
 rw[this];rfl
theorem uI:x∈bD L d k↔∃s:Nat,x=(s:Int)/\s<k/\5≤s/\eB L d s=false:=by
 unfold bD;rw[List.mem_map];constructor
 ·rintro⟨s,g,rfl⟩
  obtain⟨e,a⟩:=List.mem_filter.1 g;unfold gX at a;rw[Bool.and_eq_true] at a;exact⟨s,rfl,List.mem_range.1 e,of_decide_eq_true a.1,by simpa using a.2⟩
 ·rintro⟨s,rfl,e,a,f⟩
  refine⟨s,List.mem_filter.2 ⟨List.mem_range.2 e,?_⟩,rfl⟩;unfold gX;rw[decide_eq_true a,f];rfl
theorem D3(L:List Ad)(d k:Nat):(bD L d k).Pairwise (·<·):=by
 unfold bD;rw[List.pairwise_map];refine(List.Pairwise.filter _ List.pairwise_lt_range).imp ?_;intro a b h;exact Int.ofNat_lt.2 h
theorem uJ(L:List Ad)(d k:Nat):(bD L d k).length≤k-5:=by
 induction k with
 | zero=>simp[bD]
 | succ k a =>
   rw[sQ,List.length_append];cases h:gX L d k
   ·simp only[Bool.false_eq_true,if_false,List.length_nil];omega
   ·unfold gX at h
    rw[Bool.and_eq_true] at h;have:=of_decide_eq_true h.1;simp only[if_true,List.length_singleton];omega
theorem qY(h:∀s,s<k->5≤s->eB L d s=eB M d s):bD L d k=bD M d k:=by
 unfold bD;rw[List.filter_congr];intro s e;unfold gX
 by_cases a:5≤s
 ·rw[h s (List.mem_range.1 e) a]
 ·rw[decide_eq_false a];rfl
theorem FP(h:∀x,x∈L↔x∈M)(d s:Nat):eB L d s=eB M d s:=by
 unfold eB;rw[decide_eq_decide];exact h _
theorem qF(L:List Ad)(e t d s:Nat):eB (L++[⟨(e:Int),(t:Int)⟩]) d s=(eB L d s || (decide (d=e) && decide (s=t))):=by
 unfold eB;rw[Bool.eq_iff_iff];simp only[List.mem_append,List.mem_singleton,decide_eq_true_eq,Bool.or_eq_true,Bool.and_eq_true,Ad.mk.injEq];constructor
 ·rintro (h|⟨a,f⟩)
  ·exact .inl h
  ·exact .inr ⟨by omega,by omega⟩
 ·rintro (h|⟨a,f⟩)
  ·exact .inl h
  ·exact .inr ⟨by omega,by omega⟩
theorem oS{r:List Int}(h:bD L d S=x::r):∃t:Nat,x=(t:Int)/\t<S/\5≤t/\eB L d t=false/\(∀s,5≤s->s<t->eB L d s=true)/\bD (L++[⟨(d:Int),x⟩]) d S=r:=by
 have n:x∈bD L d S:=by rw[h];exact List.mem_cons_self ..
 obtain⟨t,rfl,i,j,m⟩:=uI.1 n;have f:=D3 L d S;rw[h,List.pairwise_cons] at f;refine⟨t,rfl,i,j,m,fun s g o=>?_,?_⟩
 ·cases p:eB L d s with
  | true=>rfl
  | false =>
    have:(s:Int)∈bD L d S:=uI.2 ⟨s,rfl,by omega,g,p⟩;rw[h] at this;rcases List.mem_cons.1 this with e|e
    ·omega
    ·have:=f.1 _ e
     omega
 ·have e:bD (L++[⟨(d:Int),(t:Int)⟩]) d S=(bD L d S).filter fun y=>!decide (y=(t:Int)):=by
   unfold bD;rw[List.filter_map,List.filter_filter]
   congr 1
   refine List.filter_congr fun s u=>?_
   unfold gX;rw[qF];simp only[Function.comp,decide_true,Bool.true_and]
   by_cases e:s=t
   ·subst e;simp
   ·have:¬(s:Int)=(t:Int):=by omega
    simp[e,this]
  rw[e,h,List.filter_cons];rw[if_neg (by simp)];refine List.filter_eq_self.2 fun y q=>?_
  have:=f.1 y q;have a:¬y=(t:Int):=by omega
  simp[a]
theorem D4{e t:Nat}(h:d≠e):bD (L++[⟨(e:Int),(t:Int)⟩]) d S=bD L d S:=qY fun s _ _=>by
 rw[qF,decide_eq_false h];simp
def eN(x:Ad)(D S:Nat):Prop:=0≤x.1/\x.1<(D:Int)/\5≤x.2/\x.2<(S:Int)
def cJ(L:List Ad)(D S:Nat):List Int:=(List.range D).map fun d=>((bD L d S).length:Int)
theorem kK(L:List Ad)(D S:Nat):(cJ L D S).length=D:=by simp[cJ]
theorem rY(L:List Ad){D:Nat}(h:d<D):(cJ L D S).getD d 0=((bD L d S).length:Int):=by
 unfold cJ;rw[List.getD_eq_getElem?_getD,List.getElem?_map,List.getElem?_range h];rfl
end
section
open Go.RowKit Go.Maps Go.ChangeMaps
def wv(x:BitVec 64):Value:=.int .u64 (x.toNat:Int)
variable{w:World}{b D d s:Nat}{c:Nat->Option Nat}{L M:List Ad}
theorem oT(x:BitVec 64):BitVec.ofInt 64 (x.toNat:Int)=x:=by simp
theorem Ag(n:Nat)(h:n<18446744073709551616):IntKind.u64.wrap (n:Int)=(n:Int):=by
 show ((n:Int) % 18446744073709551616)=n;omega
theorem Jw(x:BitVec 64):x.toNat<18446744073709551616:=x.isLt
theorem D5(x y:BitVec 64):bits .and .u64 (x.toNat:Int) (y.toNat:Int)=((x &&& y).toNat:Int):=by
 show IntKind.u64.wrap ((BitVec.ofInt 64 (x.toNat:Int) &&& BitVec.ofInt 64 (y.toNat:Int)).toNat:Int)=_;rw[oT,oT,Ag _ (Jw _)]
theorem NQ(i:Nat)(h:i<64):IntKind.u64.wrap ((2:Int) ^ i)=((BitVec.twoPow 64 i).toNat:Int):=by
 rw[BitVec.toNat_twoPow,Nat.mod_eq_of_lt (Nat.pow_lt_pow_right (by decide) h)];have:((2:Int) ^ i)=((2 ^ i:Nat):Int):=by simp
 rw[this,Ag _ (Nat.pow_lt_pow_right (by decide) h)]
theorem Gw(x:BitVec 64)(i:Nat):(x.toNat:Int) / 2 ^ i=((x >>> i).toNat:Int):=by
 rw[BitVec.toNat_ushiftRight,Nat.shiftRight_eq_div_pow];simp
theorem Gx(x:BitVec 64)(i:Nat):decide (((x >>> i &&& 1#64).toNat:Int)=1)=x.getLsbD i:=by
 have h:x >>> i &&& 1#64=if x.getLsbD i then 1#64 else 0#64:=by
  apply BitVec.eq_of_getLsbD_eq;intro j a;rw[BitVec.getLsbD_and,BitVec.getLsbD_ushiftRight]
  by_cases h0:j=0
  ·subst h0
   cases x.getLsbD i<;>simp
  ·have:(1#64).getLsbD j=false:=by simp[BitVec.getLsbD_one,h0]
   rw[this];cases x.getLsbD i<;>simp[BitVec.getLsbD_one,h0]
 rw[h];cases x.getLsbD i<;>rfl
theorem LO(x y:BitVec 64):bits .xor .u64 (x.toNat:Int) (y.toNat:Int)=((x ^^^ y).toNat:Int):=by
 show IntKind.u64.wrap ((BitVec.ofInt 64 (x.toNat:Int) ^^^ BitVec.ofInt 64 (y.toNat:Int)).toNat:Int)=_;rw[oT,oT,Ag _ (Jw _)]
theorem LP(x:BitVec 64)(i j:Nat)(a:i<64):(x ^^^ BitVec.twoPow 64 i).getLsbD j=(x.getLsbD j != decide (i=j)):=by
 rw[BitVec.getLsbD_xor,BitVec.getLsbD_twoPow];simp[a]
structure bO(w:World)(b:Nat)(c:Nat->Option Nat)(D:Nat)(L:List Ad):Prop where
 row:∃cs:Array Value,w.heap[b]?=some (.cells cs 253 (0,0))/\cs.size=D*65 /\
  (∀d,d<D->∀k,k<64->∃x:BitVec 64,cs[d*65+k]?=some (wv x)/\∀j,j<64->x.getLsbD j=eB L d (64*k+j)) /\
  ∀d,d<D->cs[d*65+64]?=some (.chan (c d))
theorem bO.keep{S:Nat->Prop}{a:World}(h:bO w b c D L)(k:aA S w a)(i:¬S b):bO a b c D L:=by
 obtain⟨e,f,g⟩:=h.row;exact⟨e,k.blk f i,g⟩
theorem bO.congr(h:bO w b c D L)(o:∀x,x∈L↔x∈M):bO w b c D M:=by
 obtain⟨a,e,f,g,i⟩:=h.row;refine⟨a,e,f,fun d n k q=>?_,i⟩;obtain⟨x,m,h6⟩:=g d n k q;exact⟨x,m,fun j p=>by rw[h6 j p,FP o]⟩
theorem bO.lt(h:bO w b c D L):b<w.heap.size:=by
 obtain⟨e,a,-⟩:=h.row;exact(Array.getElem?_eq_some_iff.1 a).1
theorem bO.word(h:bO w b c D L)(g:d<D)(n:s<4096):∃x:BitVec 64,w.cell? ⟨b,d*65+s / 64,none⟩=some (wv x)/\x.getLsbD (s % 64)=eB L d s:=by
 obtain⟨i,a,j,e,m⟩:=h.row;obtain⟨x,f,h6⟩:=e d g (s / 64) (by omega);refine⟨x,aD a f,?_⟩;rw[h6 _ (Nat.mod_lt _ (by decide)),Nat.div_add_mod]
theorem bO.chan(h:bO w b c D L)(f:d<D):w.cell? ⟨b,d*65+64,none⟩=some (.chan (c d)):=by
 obtain⟨g,a,i,j,e⟩:=h.row;exact aD a (e d f)
theorem bO.free(h:bO w b c D L)(i:Nat):w.frozen? ⟨b,i,none⟩=false:=by
 obtain⟨e,a,-⟩:=h.row;exact dF a i
theorem Qy{e k l:Nat}(a:k<65)(f:l<65)(h:d*65+k=e*65+l):d=e/\k=l:=by omega
theorem bO.flip(h:bO w b c D L)(C:d<D)(J:s<4096){x:BitVec 64}(I:w.cell? ⟨b,d*65+s / 64,none⟩=some (wv x))
 (B:∀e t,e<D->t<4096->eB M e t=(eB L e t != (decide (e=d) && decide (t=s)))) :
 bO (w.setCell ⟨b,d*65+s / 64,none⟩ (wv (x ^^^ BitVec.twoPow 64 (s % 64)))) b c D M/\aA (fun k=>k=b) w (w.setCell ⟨b,d*65+s / 64,none⟩ (wv (x ^^^ BitVec.twoPow 64 (s % 64)))):=by
 obtain⟨r,u,z,A,F⟩:=h.row;have G:=dX u (d*65+s / 64) (wv (x ^^^ BitVec.twoPow 64 (s % 64)))
 have n:d*65+s / 64<r.size:=by
  rw[z];have:d*65+65≤D*65:=by omega
  omega
 have o:r[d*65+s / 64]?=some (wv x):=by
  obtain⟨y,f,-⟩:=A d C (s / 64) (by omega);have:=aD u f;rw[I] at this;rw[f,←this]
 refine⟨⟨_,G,by rw[Array.size_setIfInBounds];exact z,fun e i k H=>?_,fun e i=>?_⟩,(aA.refl (fun k=>k=b) w).setCell (p:=⟨b,_,none⟩) (fun _=>rfl) _⟩
 ·obtain⟨y,f,h6⟩:=A e i k H
  by_cases a:d*65+s / 64=e*65+k
  ·obtain⟨rfl,rfl⟩:=Qy (by omega) (by omega) a
   refine⟨_,by rw[Array.getElem?_setIfInBounds_self_of_lt n],fun j m=>?_⟩;rw[o] at f
   have q:x=y:=by
    have g:wv x=wv y:=Option.some.inj f;unfold wv at g;injection g with _ E
    exact BitVec.eq_of_toNat_eq (by omega)
   subst q;rw[LP _ _ _ (Nat.mod_lt _ (by decide)),h6 j m,B _ _ C (by omega),decide_eq_true rfl,Bool.true_and]
   congr 1
   rw[decide_eq_decide];omega
  ·refine⟨y,by rw[Array.getElem?_setIfInBounds_ne a];exact f,fun j m=>?_⟩
   rw[h6 j m,B _ _ i (by omega)]
   have:(decide (e=d) && decide (64*k+j=s))=false:=by
    rw[Bool.and_eq_false_iff,decide_eq_false_iff_not,decide_eq_false_iff_not]
    by_cases g:e=d
    ·subst g
     refine .inr fun E=>a ?_
     omega
    ·exact .inl g
   rw[this];simp
 ·rw[Array.getElem?_setIfInBounds_ne (by omega)]
  exact F e i
theorem bO.lay(h:bO w b c D L)(u:d<D)(v:Option Nat) :
 bO (w.setCell ⟨b,d*65+64,none⟩ (.chan v)) b (fun e=>if e=d then v else c e) D L/\aA (fun k=>k=b) w (w.setCell ⟨b,d*65+64,none⟩ (.chan v)):=by
 obtain⟨j,m,i,n,o⟩:=h.row;have r:=dX m (d*65+64) (.chan v)
 have f:d*65+64<j.size:=by
  rw[i];have:d*65+65≤D*65:=by omega
  omega
 refine⟨⟨_,r,by rw[Array.size_setIfInBounds];exact i,fun e a k t=>?_,fun e a=>?_⟩,(aA.refl (fun k=>k=b) w).setCell (p:=⟨b,_,none⟩) (fun _=>rfl) _⟩
 ·obtain⟨y,q,h6⟩:=n e a k t
  exact⟨y,by rw[Array.getElem?_setIfInBounds_ne (by omega)];exact q,h6⟩
 ·by_cases g:e=d
  ·subst g
   rw[Array.getElem?_setIfInBounds_self_of_lt f,if_pos rfl]
  ·rw[Array.getElem?_setIfInBounds_ne (by omega),if_neg g]
   exact o e a
theorem LQ(w:World)(b D:Nat)(c:Nat->Option Nat)(L:List Ad)(h:bO w b c D L)(d s:Nat)(J:d<D)(R:s<4096) :
 Calls prog 178 #[.pointer (some ⟨b,d*65,none⟩),.int .i64 (s:Int)] w fun e W=>e=.returned (.bool (eB L d s))/\w=W:=by
 obtain⟨x,t,z⟩:=h.word J R;obtain⟨q,f⟩:=zX9 (s / 64)
 obtain⟨r,g⟩:=zX9 (s % 64)
 have F:q<64:=by omega
 have H:r<64:=by omega
 rw[f] at t;rw[g] at z;have B:=Gw x r;have u:=D5 (x >>> r) 1#64;have p:=Gx x r;rw[z] at p;obtain⟨Z,m⟩:∃n:Int,(x.toNat:Int)=n:=⟨_,rfl⟩
 obtain⟨sv,j⟩:∃n:Int,((x >>> r).toNat:Int)=n:=⟨_,rfl⟩
 obtain⟨rv,i⟩:∃n:Int,((x >>> r &&& 1#64).toNat:Int)=n:=⟨_,rfl⟩
 obtain⟨bb,a⟩:=zX9 (eB L d s)
 have A:(((1#64:BitVec 64).toNat:Nat):Int)=1:=rfl;unfold wv at t;rw[A] at u;rw[m] at t B;rw[j] at B u;rw[i] at u p;rw[a] at p ⊢;have I:(rv == 1)=bb:=p;obtain⟨o,E⟩:=zX9 (d*65)
 rw[E] at t ⊢;have Y:(s:Int) / 64=(q:Int):=by omega
 have X:(s:Int) % 64=(r:Int):=by omega
 have T:(0:Int)≤(s:Int):=by omega
 have G:(s:Int).tdiv 64=(q:Int):=by rw[Int.tdiv_eq_ediv_of_nonneg (by omega)];omega
 have C:(s:Int).tmod 64=(r:Int):=by rw[Int.tmod_eq_emod_of_nonneg (by omega)];omega
 have U:IntKind.i64.wrap (q:Int)=(q:Int):=by rw[IntWalk.i64_in _ (by omega)]
 have V:IntKind.i64.wrap (r:Int)=(r:Int):=by rw[IntWalk.i64_in _ (by omega)]
 have K:(0:Int)≤(q:Int):=by omega
 have N:(q:Int)<64:=by omega
 have P:(0:Int)≤(r:Int):=by omega
 have Q:(r:Int)<64:=by omega
 clear h z m j i a A E f g;go_in;go_wp2;go_ret;exact⟨rfl,rfl⟩
end
section
open Go.RowKit
theorem qZ{P:Program}{e:Array Oper}{S:World->Prop}{op:Oper}{a:Act}(j:Region.wanted op (yielded e a.tmps)=true)(t:TypeId)(x y:Operand)(o:TypeId)(i:op.op=.binOp .neq t x y o)
 (f ys:Array Value) (m:a.eval x=.agg f) (n:a.eval y=.agg ys) (g:P.eqGuardType P.depth t=false){b:Bool}(h:∀w,(binOp .neq t (.agg f) (.agg ys)).run P w=.ok (.bool b) w):YieldsIf P e S op (.bool b) a:=
 .inl ⟨j,fun w _=>by
  unfold execOp;simp only[i,m,n,Sem.run_bind,Sem.run_pure,Result.andThen_ok,run_eqGuard_agg w .neq t x y f ys g,h w]⟩
theorem NR:prog.eqGuardType prog.depth 82=false:=by kernel_rfl
theorem NS:prog.stoodInHeld 82=false:=by kernel_rfl
theorem Qz(a b:Ad)(w:World):Sem.run prog (binOp .eql 82 (.agg (aO a).toArray) (.agg (aO b).toArray)) w=.ok (.bool (decide (a=b))) w:=by
 have e:decide (a=b)=(decide (a.dev=b.dev) && decide (a.sec=b.sec)):=by rw[Bool.eq_iff_iff];simp[Ad.ext_iff]
 rw[e,run_eql_struct,run_equalIn_agg w 9999 82 _ _ bQ NS,wN,LH];have i:∀x y:Int,(Op.equalIn 9999 3 (.int .i64 x) (.int .i64 y)).run prog w=.ok (x == y) w:=fun x y=>run_equalIn_int w 9998 3 .i64 .i64 x y underlying3
 have h:∀x y:Int,(x == y)=decide (x=y):=fun x y=>by rw[Bool.eq_iff_iff];simp
 have f:(aO a).toArray[0]?=some (.int .i64 a.dev):=rfl;have g:(aO a).toArray[1]?=some (.int .i64 a.sec):=rfl;have b0:(aO b).toArray[0]?=some (.int .i64 b.dev):=rfl;have b1:(aO b).toArray[1]?=some (.int .i64 b.sec):=rfl;simp only[eqT,ne_eq,String.reduceEq,not_false_eq_true,if_true,Sem.run_bind,Sem.run_ite,Sem.run_pure,Result.andThen_ok,uG _ 0 _ f,uG _ 0 _ b0,uG _ 1 _ g,uG _ 1 _ b1,i,h];cases decide (a.dev=b.dev)<;>cases decide (a.sec=b.sec)<;>rfl
theorem P9(a b:Ad)(w:World):Sem.run prog (binOp .neq 82 (.agg (aO a).toArray) (.agg (aO b).toArray)) w=.ok (.bool (!decide (a=b))) w:=AX (Qz a b w)
def fQ(a:Ad)(devs sectors:Int):Bool:=decide (2≤devs) && decide (devs≤8) && decide (8≤sectors) && decide (sectors≤4096) && decide (0≤a.dev) && decide (a.dev<devs) && decide (5≤a.sec) && decide (a.sec<sectors)
theorem Gy(a:Ad)(devs sectors:Int)(w:World):Calls prog 207 #[adV a,.int .i64 devs,.int .i64 sectors] w fun e t=>e=.returned (.bool (fQ a devs sectors))/\aA aB w t:=by
 obtain⟨q,p,i,h,o⟩:=aV w (aO a).toArray 82;obtain⟨j,m⟩:=a;have c0:q.cell? ⟨w.heap.size,0,none⟩=some (.int .i64 j):=aD h rfl;have c1:q.cell? ⟨w.heap.size,1,none⟩=some (.int .i64 m):=aD h rfl;have f:=O i;obtain⟨r,n⟩:=zX9 (fQ ⟨j,m⟩ devs sectors)
 have g:=O n;rw[n];clear i h o n;unfold adV;unfold aO at p ⊢
 by_cases h0:2≤devs
 rotate_left
 ·have e:r=false:=by rw[←g.out];simp[fQ];omega
  subst e;go_in;go_wp2;go_ret;exact⟨rfl,f.out⟩
 by_cases u:devs≤8
 rotate_left
 ·have e:r=false:=by rw[←g.out];simp[fQ];omega
  subst e;go_in;go_wp2;go_ret;exact⟨rfl,f.out⟩
 by_cases z:8≤sectors
 rotate_left
 ·have e:r=false:=by rw[←g.out];simp[fQ];omega
  subst e;go_in;go_wp2;go_ret;exact⟨rfl,f.out⟩
 by_cases A:sectors≤4096
 rotate_left
 ·have e:r=false:=by rw[←g.out];simp[fQ];omega
  subst e;go_in;go_wp2;go_ret;exact⟨rfl,f.out⟩
 by_cases B:0≤j
 rotate_left
 ·have e:r=false:=by rw[←g.out];simp[fQ];omega
  subst e;go_in;go_wp2;go_ret;exact⟨rfl,f.out⟩
 by_cases C:j<devs
 rotate_left
 ·have e:r=false:=by rw[←g.out];simp[fQ];omega
  subst e;go_in;go_wp2;go_ret;exact⟨rfl,f.out⟩
 by_cases h6:5≤m
 rotate_left
 ·have e:r=false:=by rw[←g.out];simp[fQ];omega
  subst e;go_in;go_wp2;go_ret;exact⟨rfl,f.out⟩
 by_cases h7:m<sectors
 rotate_left
 ·have e:r=false:=by rw[←g.out];simp[fQ];omega
  subst e;go_in;go_wp2;go_ret;exact⟨rfl,f.out⟩
 have e:r=true:=by rw[←g.out];simp[fQ];omega
 subst e;go_in;go_wp2;go_ret;exact⟨rfl,f.out⟩
theorem NT(a b:Int)(w:World):(Instr.build 82 #[(0,.int .i64 a),(1,.int .i64 b)]).run prog w=.ok (.agg #[.int .i64 a,.int .i64 b]) w:=by kernel_rfl
end
section
open Go.RowKit Go.Maps Go.ChangeMaps
variable{w:World}{b:Nat}{l:List (Ad×Nix)}
theorem yS(w:World):(zeroValue 125).run prog w=.ok (.agg #[]) w:=by kernel_rfl
theorem GW:(prog.info? 125).map (·.size)=some ([]:List Value).length:=by kernel_rfl
theorem KU(l:List (Ad×Nix))(a:Ad):(mW l a).isSome=decide (a∈bE l):=by
 rw[Bool.eq_iff_iff,decide_eq_true_iff];unfold mW bE;rw[Option.isSome_map,List.find?_isSome,List.mem_map];simp only[decide_eq_true_eq]
theorem Bv(l:List (Ad×Nix))(x q:Ad):q∈bE (l.filter fun p=>!decide (p.1=x))↔q∈bE l/\q≠x:=by
 unfold bE;simp only[List.mem_map,List.mem_filter,Bool.not_eq_true',decide_eq_false_iff_not];constructor
 ·rintro⟨p,⟨a,e⟩,rfl⟩
  exact⟨⟨p,a,rfl⟩,e⟩
 ·rintro⟨⟨p,a,rfl⟩,e⟩
  exact⟨p,⟨a,e⟩,rfl⟩
theorem I1(w:World)(b:Nat)(lst:List (Ad×Nix))(a:Ad)(C:dS a)(r:cG dS adV eA w b lst):Calls prog 60 #[.map (some b),.agg (aO a).toArray] w fun e G=>e=.returned (.bool (decide (a∈bE lst)))/\aA aB w G:=by
 obtain⟨t,F,f,g,p⟩:=aV w (aO a).toArray 82;have u:=O g;have A:=O f;have B:=O (r.keep f id);obtain⟨bb,j⟩:=zX9 (decide (a∈bE lst))
 have q:=O (KU lst a);rw[j] at q ⊢;clear f g p r j;go_in
 go_wp2_with (first
  | ((with_reducible show WL _ (.load 82 (.tmp 3)));refine wpList_load_mid rfl 82 (.tmp 3) rfl w.heap.size 0 rfl (aO a) _ (aC u.out) bQ rfl bV ?_)
  | ((with_reducible show WL _ (.lookup _ _ _ true));refine wG rfl (.tmp 8) (.tmp 9) 122 rfl DJ underlying122 (z:=Nix.nix) (yS _) a C rfl rfl B.out ?_
     rw[q.out];have E:∀x:Nix,eA x=.agg #[]:=fun _=>rfl
     rw[E])
  | ((with_reducible show WL (some 5) (.alloc 125));refine aS rfl 125 rfl (.agg #[]) yS #[] rfl ?_)
  | ((with_reducible show WL none (.store 125 (.tmp 5) _));refine aQ rfl 125 (.tmp 5) _ rfl t.heap.size 0 [] rfl rfl #[] 125 (heap_alloc_new _ _) (Nat.le_refl _) GW (fun _ h=>by cases h) ?_
     intro I o m;have n:=O (A.trans (((aA.refl aB t).alloc _).tT m (fun i H e=>by omega)));clear o m))
 go_ret;exact⟨rfl,n.out⟩
theorem KV(w:World)(B b:Nat)(lst:List (Ad×Nix))(x:Ad)(p:dS x)(j:w.heap[B]?=some (.cells #[.map (some b)] 122 (0,0)))(n:cG dS adV eA w b lst) :
 Calls prog 59 #[.agg (aO x).toArray,.agg #[],.pointer B] w fun e q=>e=.returned (.bool (!decide (x∈bE lst)))/\aA aB w q:=by
 obtain⟨f,h⟩:=zX9 ((w.alloc (.cells (aO x).toArray 82)).alloc (.cells #[] 125))
 have a:aA aB w f:=by rw[←h];exact((aA.refl _ _).alloc _).alloc _
 have o:=O (show f.heap[w.heap.size]?=some (.cells (aO x).toArray 82 (0,0)) by rw[←h];exact heap_alloc2_old _ _ _);have i:=O a;have r:f.cell? ⟨B,0,none⟩=some (.map (some b)):=aD (a.blk j id) rfl;have C:=O (I1 f b lst x p (n.keep a id));obtain⟨bb,g⟩:=zX9 (decide (x∈bE lst))
 rw[g] at C ⊢;clear a j n g;go_in
 go_wp2_with (first
  | ((with_reducible show WL _ (.load 82 (.tmp 3)));refine wpList_load_mid rfl 82 (.tmp 3) rfl w.heap.size 0 rfl (aO x) _ (aC o.out) bQ rfl bV ?_))
 refine C.out.mono ?_;rintro e t ⟨rfl,m⟩;have i:=O (i.trans m);clear m;go_wp2;go_ret;exact⟨rfl,i.out⟩
def OS(w:World)(b:Nat)(lst:List (Ad×Nix))(p:Ad->Bool)(e:Ending)(a:World):Prop:=e=.returned (.tuple #[])/\∃s,cG dS adV eA a b s/\(∀q,q∈bE s↔q∈bE lst/\p q=false)/\aA (fun k=>k=b) w a
theorem Gf(w:World)(b:Nat)(lst:List (Ad×Nix))(p:Ad->Bool)(qd:Value)(hm:cG dS adV eA w b lst)(qx:b<w.heap.size)(qz:(bE lst).Nodup)
 (hC:∀w' x,dS x->aA (fun k=>k=b) w w'->Calls prog 59 #[.agg (aO x).toArray,.agg #[],qd] w' fun e q5=>e=.returned (.bool (p x))/\aA aB w' q5) :
 Calls prog 58 #[.map (some b),.func (.func 59) #[] #[qd]] w (OS w b lst p):=by
 have HM:=O hm;have HC:=O hC;clear hm hC;go_in
 go_wp2_with (first
  | ((with_reducible show WL _ (.range _ _));refine sH rfl (.tmp 6) 122 rfl underlying122 rfl HM.out ?_
     intro w1 qf qh q0;have HI:=O qf;have qt:=O qh;have q9:w.heap.size<w1.heap.size:=by omega
     clear qf qh q0))
 go_frame
 go_loopw [9] (fun _ wr=>∃(left cur:List (Ad×Nix)) (a:List Ad),Hid (cP dS adV eA wr b w.heap.size cur left)/\Hid ((a++bE left).Perm (bE lst))/\Hid (∀q,q∈bE cur↔(q∈a/\p q=false)\/q∈bE left)/\Hid (aA (fun k=>k=b) w wr)) (fun _ wr=>wr.rangeLeft b w.heap.size)
 case atStart=>exact⟨lst,lst,[],HI,O (by simp),O (fun q=>by simp),O (qt.any)⟩
 case round =>
 obtain⟨left,cur,a,C,HP,HQ,G⟩:=hrel;have t:=O C.count;have zg:=G.size;have zd:b<w.heap.size:=qx
 go_wp2_with (first
  | ((with_reducible show WL _ (.next _ _));refine tV rfl (.tmp 7) rfl rfl C.out ?_ ?_))
 ·intro hl
  go_wp2_with fail
  go_end0
  subst hl;exact⟨rfl,cur,C.map,fun q=>by rw[HQ.out q,←HP.mem_iff];simp[bE],G.out⟩
 ·intro i x v r o qo K N q1 qe
  have qn:x∈bE left:=List.mem_map.2 ⟨(x,v),List.mem_of_getElem? o,rfl⟩;have n:(bE left).Perm (x::bE (left.eraseIdx i)):=by have:=(lY o).map (fun p:Ad×Nix=>p.1);exact this
  have R:(a++bE left).Nodup:=HP.nodup_iff.2 qz;have qp:x ∉ a:=fun h=>(List.nodup_append.1 R).2.2 x h x qn rfl
  have qm:x ∉ bE (left.eraseIdx i):=(List.nodup_cons.1 (n.nodup_iff.1 (List.nodup_append.1 R).2.1)).1
  have Z:Hid (((a++[x])++bE (left.eraseIdx i)).Perm (bE lst)):=O (by
   refine List.Perm.trans ?_ HP.out;rw[List.append_assoc,List.singleton_append];exact(n.append_left a).symm)
  have qa:=O (fun q=>(show q∈bE left↔q=x\/q∈bE (left.eraseIdx i) by rw[n.mem_iff,List.mem_cons]));have qw:=O qp;have qb:=O qm;have qj:aA (fun k=>k=b) w r:=G.tT N (fun i hi e=>by omega);have V:=O K;have qr:=O qe;have X:=O qj;have qc:=O qo;have g:=O (List.getElem?_eq_some_iff.1 o).1;have zb:=O K.count;have za:wr.heap.size≤r.heap.size:=N.size;have hu:∀x:Nix,eA x=.agg #[]:=fun _=>rfl
  have HU:=O hu;clear o qo K N q1 qe qn n R qp qm qj hu;unfold adV;rw[HU.out]
  go_wp2_with (first
   | ((with_reducible show WL _ (.entry _));refine sI rfl (.tmp 7) rfl rfl qr.out ?_;show wpList _ _ _ _ (Act.put _ _ (Value.tuple #[.agg (aO x).toArray,.agg #[]])) _)
   | ((with_reducible show WL (some 4) (.alloc 82));refine aS rfl 82 rfl eR eJ #[.int .i64 0,.int .i64 0] rfl ?_)
   | ((with_reducible show WL (some 5) (.alloc 125));refine aS rfl 125 rfl (.agg #[]) yS #[] rfl ?_)
   | ((with_reducible show WL none (.store 82 (.tmp 4) (.tmp 11)));refine aQ rfl 82 (.tmp 4) (.tmp 11) rfl r.heap.size 0 (aO x) rfl rfl #[.int .i64 0,.int .i64 0] 82 (heap_alloc2_old _ _ _) (Nat.le_refl _) bV (bN _) ?_
      intro w3 I P;rw[aI _ _ (by rfl)] at I;have Q:aA aB r w3:=(((aA.refl aB r).alloc _).alloc _).tT P (fun i hi e=>by omega);have qk:=P.blk (heap_alloc2_new r (.cells #[.int .i64 0,.int .i64 0] 82) (.cells #[] 125)) (by omega);have B:=O I;have qu:=O qk;have F:=O Q;have ze:=Q.size;clear I P Q qk)
   | ((with_reducible show WL _ (.load 82 (.tmp 4)));refine wpList_load_mid rfl 82 (.tmp 4) rfl r.heap.size 0 rfl (aO x) _ (aC B.out) bQ rfl bV ?_)
   | ((with_reducible show WL _ (.load 125 (.tmp 5)));refine wpList_load_mid rfl 125 (.tmp 5) rfl (r.heap.size+1) 0 rfl ([]) _ (fun j u h=>by cases h) underlying125 rfl GW ?_))
  have f:=O (X.trans' F.out (U:=fun k=>k=b) (fun _ _ h=>h) (fun _ _ h=>h.elim));refine(HC w3 x qc.out f.out).mono ?_;rintro e w4 ⟨rfl,hk⟩;have E:=O ((V.keep F.out id id).keep hk id id);have qq:=O (hk.blk B.out id);have z:=O (f.trans' hk (U:=fun k=>k=b) (fun _ _ h=>h) (fun _ _ h=>h.elim));have zf:=hk.size;clear hk V B qu F f;obtain⟨bq,J⟩:=zX9 (p x)
  have T:=O J;rw[J];clear J;cases bq
  ·have H:Hid (∀q,q∈bE cur↔(q∈a++[x]/\p q=false)\/q∈bE (left.eraseIdx i)):=O (fun q=>by
    rw[HQ.out q,qa.out q,List.mem_append,List.mem_singleton];constructor
    ·rintro (⟨A,m⟩|rfl|h)
     ·exact .inl ⟨.inl A,m⟩
     ·exact .inl ⟨.inr rfl,T.out⟩
     ·exact .inr h
    ·rintro (⟨A|rfl,m⟩|h)
     ·exact .inl ⟨A,m⟩
     ·exact .inr (.inl rfl)
     ·exact .inr (.inr h))
   go_wp2
   go_roundw
   case rel=>exact⟨_,_,_,E,Z,H,z⟩
   case measure=>rw[E.count,t.out,List.length_eraseIdx_of_lt g.out];have:=g.out;omega
  ·have ql:∀p∈left.eraseIdx i,p.1≠x:=fun p hp e=>qb.out (List.mem_map.2 ⟨p,hp,e⟩)
   have qv:=O ql;clear ql
   go_wp2_with (first
    | ((with_reducible show WL _ (.load 82 (.tmp 4)));refine wpList_load_mid rfl 82 (.tmp 4) rfl r.heap.size 0 rfl (aO x) _ (aC qq.out) bQ rfl bV ?_)
    | ((with_reducible show WL _ (.call _));refine AF rfl (.tmp 17) (.tmp 18) rfl DJ underlying122 x qc.out rfl rfl E.out qv.out ?_
       intro w6 qg qi q3;have W:=O qg;have Y:=O (z.trans' qi (U:=fun k=>k=b) (fun _ _ h=>h) (fun _ _ h=>h));clear qg qi q3))
   have H:Hid (∀q,q∈bE (cur.filter fun p=>!decide (p.1=x))↔(q∈a++[x]/\p q=false)\/q∈bE (left.eraseIdx i)):=O (fun q=>by
    rw[Bv,HQ.out q,qa.out q,List.mem_append,List.mem_singleton];constructor
    ·rintro⟨⟨A,m⟩|rfl|h,qy⟩
     ·exact .inl ⟨.inl A,m⟩
     ·exact absurd rfl qy
     ·exact .inr h
    ·rintro (⟨A|rfl,m⟩|h)
     ·exact⟨.inl ⟨A,m⟩,fun e=>qw.out (e▸A)⟩
     ·rw[T.out] at m;cases m
     ·exact⟨.inr (.inr h),fun e=>qb.out (e▸h)⟩)
   go_wp2_with fail
   go_frame
   go_roundw
   case rel=>exact⟨_,_,_,W,Z,H,Y⟩
   case measure=>rw[W.count,t.out,List.length_eraseIdx_of_lt g.out];have:=g.out;omega
theorem cG.lt(h:cG dS adV eA w b l):b<w.heap.size:=by
 obtain⟨e,clock,a,-⟩:=h;exact lt_of_block a
theorem zV(h:cG dS adV eA w b l):(bE l).Nodup:=by
 obtain⟨e,clock,f,a⟩:=h;exact a.2.2.2.1
def Nb(w:World)(d:Nat)(a lst:List (Ad×Nix))(e:Ending)(f:World):Prop:=e=.returned (.tuple #[])/\∃s,cG dS adV eA f d s/\(∀q,q∈bE s↔q∈bE a\/q∈bE lst)/\aA (fun k=>k=d) w f
theorem Nc(w:World)(d b:Nat)(g lst:List (Ad×Nix))(hd:cG dS adV eA w d g)(hm:cG dS adV eA w b lst)(qg:d<w.heap.size)(qf:d≠b) :
 Calls prog 181 #[.map (some d),.map (some b)] w (Nb w d g lst):=by
 have HM:=O hm;have HD:=O hd;clear hm hd;go_in
 go_wp2_with (first
  | ((with_reducible show WL _ (.range _ _));refine sH rfl (.tmp 6) 122 rfl underlying122 rfl HM.out ?_
     intro w1 J r qi;have HI:=O J;have qb:=O r;have W:=O (HD.keep r id);have qk:w.heap.size<w1.heap.size:=by omega
     clear J r qi))
 go_frame
 go_loopw [9] (fun _ wr=>∃(left cur:List (Ad×Nix)) (f:List Ad),Hid (cP dS adV eA wr b w.heap.size lst left)/\Hid (cG dS adV eA wr d cur)/\Hid ((f++bE left).Perm (bE lst))/\Hid (∀q,q∈bE cur↔q∈bE g\/q∈f)/\Hid (aA (fun k=>k=d) w wr)) (fun _ wr=>wr.rangeLeft b w.heap.size)
 case atStart=>exact⟨lst,g,[],HI,W,O (by simp),O (fun q=>by simp),O (qb.any)⟩
 case round =>
 obtain⟨left,cur,f,C,B,HP,HQ,n⟩:=hrel;have A:=O C.count;have qp:=n.size;have qn:d<w.heap.size:=qg;have qh:d≠b:=qf
 go_wp2_with (first
  | ((with_reducible show WL _ (.next _ _));refine tV rfl (.tmp 7) rfl rfl C.out ?_ ?_))
 ·intro hl
  go_wp2_with fail
  go_end0
  subst hl;exact⟨rfl,cur,B.out,fun q=>by rw[HQ.out q,←HP.mem_iff];simp[bE],n.out⟩
 ·intro i x v z u T K j qj I
  have R:(bE left).Perm (x::bE (left.eraseIdx i)):=by have:=(lY u).map (fun p:Ad×Nix=>p.1);exact this
  have qc:Hid (((f++[x])++bE (left.eraseIdx i)).Perm (bE lst)):=O (by
   refine List.Perm.trans ?_ HP.out;rw[List.append_assoc,List.singleton_append];exact(R.append_left f).symm)
  have N:aA (fun k=>k=d) w z:=n.tT j (fun i hi e=>by omega);have qa:=O K;have Z:=O I;have F:=O N;have qe:=O T;have X:=O (B.keep j (by omega));have H:=O (List.getElem?_eq_some_iff.1 u).1;have ql:wr.heap.size≤z.heap.size:=j.size;have hu:∀x:Nix,eA x=.agg #[]:=fun _=>rfl
  have HU:=O hu;clear u T K j qj I R N hu;unfold adV;rw[HU.out]
  go_wp2_with (first
   | ((with_reducible show WL _ (.entry _));refine sI rfl (.tmp 7) rfl rfl Z.out ?_;show wpList _ _ _ _ (Act.put _ _ (Value.tuple #[.agg (aO x).toArray,.agg #[]])) _)
   | ((with_reducible show WL (some 4) (.alloc 82));refine aS rfl 82 rfl eR eJ #[.int .i64 0,.int .i64 0] rfl ?_)
   | ((with_reducible show WL (some 5) (.alloc 125));refine aS rfl 125 rfl (.agg #[]) yS #[] rfl ?_)
   | ((with_reducible show WL none (.store 82 (.tmp 4) (.tmp 11)));refine aQ rfl 82 (.tmp 4) (.tmp 11) rfl z.heap.size 0 (aO x) rfl rfl #[.int .i64 0,.int .i64 0] 82 (heap_alloc2_old _ _ _) (Nat.le_refl _) bV (bN _) ?_
      intro w3 o t;rw[aI _ _ (by rfl)] at o;have a:aA aB z w3:=(((aA.refl aB z).alloc _).alloc _).tT t (fun i hi e=>by omega);have Q:=t.blk (heap_alloc2_new z (.cells #[.int .i64 0,.int .i64 0] 82) (.cells #[] 125)) (by omega);have V:=O o;have qm:=O Q;have m:=O a;have qo:=a.size;clear o t a Q)
   | ((with_reducible show WL _ (.load 82 (.tmp 4)));refine wpList_load_mid rfl 82 (.tmp 4) rfl z.heap.size 0 rfl (aO x) _ (aC V.out) bQ rfl bV ?_)
   | ((with_reducible show WL none (.mapUpdate 122 (.tmp 13) (.tmp 14) (.tmp 15)));refine nL rfl rfl (.tmp 13) (.tmp 14) (.tmp 15) 122 rfl DJ underlying122 x qe.out Nix.nix rfl rfl rfl (X.keep m.out id) ?_
      intro w4 P a;have Y:=O P;have E:=O ((qa.keep m.out id id).keep a (fun e=>qh e.symm) (by omega));have G:=O ((F.trans' m.out (U:=fun k=>k=d) (fun _ _ h=>h) (fun _ _ h=>h.elim)).trans' a (U:=fun k=>k=d) (fun _ _ h=>h) (fun _ _ h=>h));clear P a))
  have qd:Hid (∀q,q∈bE (eI cur x Nix.nix)↔q∈bE g\/q∈f++[x]):=O (fun q=>by
   rw[rW,HQ.out q,List.mem_append,List.mem_singleton,or_assoc])
  go_roundw
  case rel=>exact⟨_,_,_,E,Y,qc,qd,G⟩
  case measure=>rw[E.count,A.out,List.length_eraseIdx_of_lt H.out];have:=H.out;omega
theorem KW(w:World)(v vb:Value)(f ys:List Ad)(ho:jE f)(qd:jE ys)(T:Rd w 2 v f.length (aR f))(r:Rd w 2 vb ys.length (aR ys))(hl:f.length+ys.length≤65536):Calls prog 122 #[v,vb] w (jF w (dO (f++ys))):=by
 have HO:=O (fun w v (h:Rd w 2 v f.length (aR f))=>wS w v f ho h);obtain⟨U,hU⟩:=zX9 (dO (f++ys))
 have qc:=O hU;rw[hU];clear hU;have qa:=O (fun w v (h:Rd w 2 v ys.length (aR ys))=>wS w v ys qd h);obtain⟨oa,ca,rfl,-,C⟩:=T.form;have p:f.length≤maxLen:=by have h:=T.2;obtain⟨a',K,h1,h2,h3,-⟩:=h;omega
 unfold maxLen at p;clear C;have HR:=O T;obtain⟨n,j⟩:=zX9 f.length
 have HN:=O j;rw[j] at HR p
 try rw[j]
 clear T j;obtain⟨ob,cb,rfl,-,C⟩:=r.form;have o:ys.length≤maxLen:=by have h:=r.2;obtain⟨a',K,h1,h2,h3,-⟩:=h;omega
 unfold maxLen at o;clear C;have I:=O r;obtain⟨m,g⟩:=zX9 ys.length
 have Z:=O g;rw[g] at I o
 try rw[g]
 clear r g;have qf:f.length+ys.length≤65536:=by exact hl
 go_in;go_wp2_with fail;refine(HO w _ (by rw[HN.out];exact HR.out)).mono ?_;rintro e w1 ⟨b1,rfl,A,qg,z⟩;have qi:=A.lt;have u:=O A;have V:=O z;have J:=O (I.keep z fun _ _=>id);clear A z;go_wp2_with fail;refine(qa w1 _ (by rw[Z.out];exact J.out)).mono ?_;rintro e w2 ⟨b2,rfl,B,qh,a⟩;have qj:=B.lt;have qk:=a.size;have Y:=O B;have u:=O (u.keep a id);have W:=O (V.trans a);clear B a;go_wp2_with fail;refine(Nc w2 b1 b2 (fJ f) (fJ ys) u.out Y.out (by omega) (by omega)).mono ?_;rintro e w4 ⟨rfl,s,Q,R,P⟩;have H:=O Q;have HQ:Hid (∀q,q∈bE s↔q∈f++ys):=O (fun q=>by rw[R q,(jG f).2 q,(jG ys).2 q,List.mem_append]);have G:=O (W.trans' P (U:=aB) (fun _ _ h=>h) (fun i hi e=>by omega));clear Q R P;go_wp2_with fail;have E:=zV H.out;have N:=(qE E HQ.out).trans qc.out
 have t:s.length≤65536:=by
  have h1:(iH (bE s)).length=s.length:=by rw[rV];exact List.length_map _
  rw[←h1,qE E HQ.out];exact Nat.le_trans (rX _) (by simp only[List.length_append];omega)
 have L:=Af w4 b1 s H.out t;rw[N] at L;have L:=O L;have qe:=G.size;clear E N t;go_wp2_with fail;refine L.out.mono ?_;rintro e wf ⟨v,rfl,F,a⟩;obtain⟨va,vc,rfl,-,-⟩:=(Rd.of_owns F).form;have qb:=O (aW F qe);have X:=O (G.trans a);clear F a;go_wp2;go_ret;exact⟨_,rfl,qb.out,X.out⟩
theorem Nd(w:World)(v vb:Value)(a ys:List Ad)(ho:jE a)(qj:jE ys)(Y:Rd w 2 v a.length (aR a))(t:Rd w 2 vb ys.length (aR ys))(hl:a.length≤65536):Calls prog 24 #[v,vb] w (jF w (dO (a.filter fun x=>decide (x∈ys)))):=by
 have HO:=O (fun w v (h:Rd w 2 v a.length (aR a))=>wS w v a ho h);obtain⟨U,hU⟩:=zX9 (dO (a.filter fun x=>decide (x∈ys)))
 have qi:=O hU;rw[hU];clear hU;have qg:=O (fun w v (h:Rd w 2 v ys.length (aR ys))=>wS w v ys qj h);obtain⟨oa,ca,rfl,-,E⟩:=Y.form;have r:a.length≤maxLen:=by have h:=Y.2;obtain⟨a',Q,h1,h2,h3,-⟩:=h;omega
 unfold maxLen at r;clear E;have HR:=O Y;obtain⟨n,j⟩:=zX9 a.length
 have HN:=O j;rw[j] at HR r
 try rw[j]
 clear Y j;obtain⟨ob,cb,rfl,-,E⟩:=t.form;have p:ys.length≤maxLen:=by have h:=t.2;obtain⟨a',Q,h1,h2,h3,-⟩:=h;omega
 unfold maxLen at p;clear E;have N:=O t;obtain⟨m,g⟩:=zX9 ys.length
 have qf:=O g;rw[g] at N p
 try rw[g]
 clear t g;have ql:a.length≤65536:=by exact hl
 go_in;go_wp2_with fail;refine(HO w _ (by rw[HN.out];exact HR.out)).mono ?_;rintro e w1 ⟨b1,rfl,B,qm,A⟩;have qo:=B.lt;have z:=O B;have qa:=O A;have P:=O (N.keep A fun _ _=>id);clear B A;go_wp2_with fail;refine(qg w1 _ (by rw[qf.out];exact P.out)).mono ?_;rintro e w2 ⟨b2,rfl,C,qn,f⟩;have qp:=C.lt;have qq:=f.size;have qe:=O C;have z:=O (z.keep f id);have qb:=O (qa.trans f);clear C f;go_wp2_with fail;have o:=(aA.refl aB w2).alloc (.cells #[.map (some b2)] 122);have R:=heap_alloc_new w2 (.cells #[.map (some b2)] 122);have I:=O (z.keep o id);have J:=O (qe.keep o id);have Z:=O R;have qc:=O (qb.trans o);have qr:=o.size;clear o R;refine(Gf _ b1 (fJ a) (fun x=>!decide (x∈bE (fJ ys))) _ I.out (by omega) (jG a).1 (fun w' x hx hk=>KV w' _ b2 (fJ ys) x hx (hk.blk Z.out (by omega)) (J.keep hk (by omega)))).mono ?_;rintro e w4 ⟨rfl,s,W,X,V⟩;have K:=O W
 have HQ:Hid (∀q,q∈bE s↔q∈a.filter fun x=>decide (x∈ys)):=O (fun q=>by
  rw[X q,(jG a).2 q,List.mem_filter];have:=(jG ys).2 q;simp only[this,Bool.not_eq_false',decide_eq_true_iff])
 have H:=O (qc.trans' V (U:=aB) (fun _ _ h=>h) (fun i hi e=>by omega));clear W X V;go_wp2_with fail;have F:=zV K.out;have T:=(qE F HQ.out).trans qi.out
 have u:s.length≤65536:=by
  have h1:(iH (bE s)).length=s.length:=by rw[rV];exact List.length_map _
  rw[←h1,qE F HQ.out];exact Nat.le_trans (rX _) (Nat.le_trans (List.length_filter_le _ _) (by omega))
 have L:=Af w4 b1 s K.out u;rw[T] at L;have L:=O L;have qk:=H.size;clear F T u;go_wp2_with fail;refine L.out.mono ?_;rintro e wf ⟨v,rfl,G,f⟩;obtain⟨va,vc,rfl,-,-⟩:=(Rd.of_owns G).form;have qh:=O (aW G qk);have qd:=O (H.trans f);clear G f;go_wp2;go_ret;exact⟨_,rfl,qh.out,qd.out⟩
end
end Go.Proofs.YtiinnfhjpaeffaaGreat
