import Derived.Test.YtiinnfhjpaeffaaGreatA1
import Derived.Test.YtiinnfhjpaeffaaGreatA7
import Derived.Test.YtiinnfhjpaeffaaGreatLaySort
namespace Go.Proofs.YtiinnfhjpaeffaaGreat
set_option maxHeartbeats 64000000
set_option maxRecDepth 100000
set_option linter.unusedVariables false
section
open Go.RowKit Go.Sort Go.Maps
instance:Inhabited Adr:=⟨⟨⟨0,0⟩,by unfold eL Aq;exact⟨⟨by decide,by decide⟩,by decide,by decide⟩⟩⟩
def oO(x:Adr):List Value:=aM x.1
theorem tW(x:Adr):(oO x).length=2:=rfl
theorem H6(x:Adr):∀v∈oO x,v.oneCell'=true:=bG _
def Av(x y:Adr):Int:=vP x.1 y.1
theorem Cz(x y:Adr):ltOf Av x y=cX x.1 y.1:=J0 x.1 y.1
theorem wM(a:Ad):cX a a=false:=by rw[jY];omega
theorem yT{a b c:Ad}(h:cX a b=true)(k:cX b c=true):cX a c=true:=by rw[pI] at *;omega
theorem oP{a b:Ad}(h:cX a b=false)(k:cX b a=false):a=b:=by
 rw[jY] at *;exact Ad.ext (by omega) (by omega)
theorem Od:SWO (ltOf Av) where
 irrefl x:=by rw[Cz];exact wM _
 trans x y z h k:=by rw[Cz] at *;exact yT h k
 ntrans x y z h k:=by
  rw[Cz] at *;rw[jY] at *;omega
def gN(l:List Ad):List Ad:=l.mergeSort fun x y=>!cX y x
theorem xG(x y z:Ad):(!cX y x)=true->(!cX z y)=true->(!cX z x)=true:=by
 simp only[Bool.not_eq_true',jY];omega
theorem tY(x y:Ad):(!cX y x || !cX x y)=true:=by
 cases h:cX y x
 ·rfl
 ·have:cX x y=false:=by rw[pI] at h;rw[jY];omega
  rw[this];rfl
theorem FM{a b:List Ad}(h:a.Perm b):gN a=gN b:=by
 refine List.Perm.eq_of_pairwise (le:=fun x y=>(!cX y x)=true) ?_ (List.pairwise_mergeSort xG tY a) (List.pairwise_mergeSort xG tY b) (((List.mergeSort_perm a _).trans h).trans (List.mergeSort_perm b _).symm);intro x y _ _ h k;simp only[Bool.not_eq_true'] at h k;exact oP k h
theorem A7{a:List Ad}{x:Ad}:x∈gN a↔x∈a:=(List.mergeSort_perm a _).mem_iff
theorem Mb(w:World):(isAgg 82).run Tryz.prog w=.ok true w:=by kernel_rfl
theorem pJ(w:World):(Go.sizeOf 82).run Tryz.prog w=.ok 2 w:=by kernel_rfl
theorem H7(blk off size:Nat)(w:World):CmpLays Tryz.prog 106 #[] oO 2 Av blk off size w:=
 fun m os f g x y=>by
  have:=Hz x.1 y.1 (sortWorldK oO 2 w blk off m f os);exact this.mono fun e i h=>h
theorem H9(ys:List Adr):(ys.mergeSort fun x y=>!(ltOf Av) y x).map (·.1)=gN (ys.map (·.1)):=
 List.map_mergeSort fun a _ b _=>by rw[Cz]
theorem tZ(ys:List Adr):ys.flatMap oO=aF (ys.map (·.1)):=by
 unfold aF oO;rw[List.flatMap_map]
theorem FN(w:World)(base:Nat)(v:Value)(ys:List Adr)(p:w.ownsRow base 82 2 v ys.length (aF (ys.map (·.1))))(F:ys.length≤65536) :
 Calls Tryz.prog 151 #[v,.func (.func 106) #[] #[]] w fun e j=>e=.returned (.tuple #[])/\j.ownsRow base 82 2 v ys.length (aF (gN (ys.map (·.1))))/\aA (fun k=>v.ownBlock=some k) w j:=by
 rcases p.2 with⟨rfl,h0⟩|⟨g,o,cur,rfl,E,q,A,B,C,u⟩
 ·have i:ys=[]:=List.eq_nil_of_length_eq_zero h0
  subst i;have f:=AnyF.slices_SortFunc_none sortAddr none 0 (.func (.func 106) #[] #[]) w;change Calls Tryz.prog 151 _ _ _ at f;refine f.mono ?_;rintro e j ⟨rfl,rfl⟩;exact⟨rfl,by simpa [gN] using p,aA.refl _ _⟩
 ·have t:∀args w,(callFunc 106 args).run Tryz.prog w=.ok (.enter 106 args) w:=enters_of Tryz.func106 (by kernel_rfl) rfl
  have z:HoldsK oO 2 w g 0 ys.toArray:=Hw tW (by decide) q (by rw[u,tZ])
  have f:=AnyQ.slices_SortFunc_total sortAddr 2 Mb pJ oO tW H6 Av Od 106 #[] g 0 o ys.toArray w t (H7 g 0 _ w) z (Array.getElem?_eq_some_iff.1 q).1 (by simp;omega)
   (fun x y r i=>by rw[Cz] at r i;exact Subtype.ext (oP r i))
  change Calls Tryz.prog 151 _ _ _ at f;rw[List.size_toArray] at f;refine f.mono ?_;rintro e j ⟨rfl,n,os,rfl⟩;refine⟨rfl,?_,?_⟩
  ·have:=Ek (m:=n) (os:=os) tW (by decide) p (dk:=(ys.mergeSort fun x y=>!(ltOf Av) y x).toArray) (by simp)
   rw[List.toList_toArray,tZ,H9] at this;exact this
  ·exact(Ej oO 2 w g n _ os).mono fun k _ h=>by rw[h];rfl
theorem Ia(w:World)(lst:List (Ad×Nix))(g b:Nat)(i:w.heap[g]?=some (.cells #[.map (some b)] 122 (0,0)))(j:cS eL adV eX w b lst)(f:lst.length≤65536) :
 Calls Tryz.prog 150 #[.func (.func 152) #[] #[.pointer g]] w (As w (lst.map (·.1))):=by
 have C:=O (Em w lst g b i j f);clear i j;go_in;go_wp2_with fail;refine C.out.mono ?_;rintro e r ⟨v,ys,rfl,n,h,m⟩;obtain⟨a,c,rfl,-,-⟩:=(Rd.of_owns h).form;have q:=O n;have p:=O h;have o:=O m;clear n h m;go_wp2;go_ret;exact⟨_,ys,rfl,q.out,p.out,o.out⟩
def FO(w:World)(l:List Ad)(e:Ending)(w':World):Prop:=
 ∃v,e=.returned v/\w'.ownsRow w.heap.size 82 2 v l.length (aF (gN l))/\aA aB w w'
theorem J2(w:World)(lst:List (Ad×Nix))(u b:Nat)(I:w.heap[u]?=some (.cells #[.map (some b)] 122 (0,0)))(F:cS eL adV eX w b lst)(n:lst.length≤65536) :
 Calls Tryz.prog 104 #[.func (.func 152) #[] #[.pointer u],.func (.func 106) #[] #[]] w (FO w (lst.map (·.1))):=by
 have C:=O (Ia w lst u b I F n)
 have t:∀y∈lst.map (·.1),eL y:=by
  obtain⟨T,clock,-,P⟩:=F;intro y Q;obtain⟨p,j,rfl⟩:=List.mem_map.1 Q;exact P.2.2.2.2 p j
 have E:=O t;clear I F t;go_in;go_wp2_with fail;refine C.out.mono ?_;rintro e R ⟨v,ys,rfl,j,o,J⟩;obtain⟨a,c,rfl,-,-⟩:=(Rd.of_owns o).form;obtain⟨f,rfl⟩:∃f:List Adr,f.map (·.1)=ys:=⟨ys.attach.map fun y=>⟨y.1,E.out _ (j.subset y.2)⟩,by simp⟩
 have g:(f.map (·.1)).length=f.length:=List.length_map _;have G:f.length≤65536:=by have:=j.length_eq;simp only[List.length_map] at this;omega
 rw[g] at o;have D:=O (FN R w.heap.size _ f o G);have H:=O j;have K:=O J
 have r:∀k,w.heap.size≤k\/¬(Value.slice a f.length c).ownBlock=some k:=fun k=>by
  by_cases e:(Value.slice a f.length c).ownBlock=some k
  ·exact .inl (aW o e)
  ·exact .inr e
 have B:=O r;clear j o J r;rw[g];go_wp2_with fail;refine D.out.mono ?_;rintro e V ⟨rfl,q,m⟩;have A:=O q;have z:=O m;clear q m;go_wp2;go_ret;refine⟨_,rfl,?_,K.trans' z.out (fun _ _ h=>h) fun i U e=>?_⟩
 ·have N:=H.length_eq
  rw[←FM H.out,←N,g];exact A.out
 ·rcases B.out i with h|h
  ·omega
  ·exact h e
end
section
open Go.RowKit Go.Maps Go.ChangeMaps
def iA(l:List Ad):Prop:=∀x∈l,eL x
variable{l:List Ad}{k:Nat}{x y:Ad}{w:World}{v:Value}
theorem fF(l:List Ad):(aF l).length=l.length*2:=pH bE l
theorem FP(h:l[k]?=some x){j:Nat}(e:j<2):(aF l)[k*2+j]?=(aM x)[j]?:=by
 unfold aF;rw[xE bE (by decide),show (k*2+j) / 2=k by omega,show (k*2+j) % 2=j by omega,h,Option.bind_some]
theorem fO(h:Rd w 2 v l.length (aF l))(m:l[k]?=some x) :
 ∃g o e,v=.slice (some ⟨g,o,none⟩) l.length e/\w.rangeAt g (o+k*2) (aM x):=by
 obtain⟨h0,a,e,rfl,r,t,z,n⟩:=h;have q:=(List.getElem?_eq_some_iff.1 m).1;obtain⟨g,o,rfl,p⟩:=n (by rw[fF];omega);refine⟨g,o,e,rfl,fun j u i=>?_⟩;have f:j<2:=(List.getElem?_eq_some_iff.1 i).1;have:=p (k*2+j) u (by rw[FP m f];exact i)
 rwa [←Nat.add_assoc] at this
theorem bO(a b:List Ad):aF (a++b)=aF a++aF b:=by simp[aF]
theorem fY(x:Ad):aF [x]=aM x:=by simp[aF]
theorem cQ(l:List Ad):∀u∈aF l,u.oneCell'=true:=by
 intro u e;obtain⟨x,_,f⟩:=List.mem_flatMap.1 e;exact bG x u f
def fG(l:List Ad):List (Ad×Nix):=l.foldl (fun s a=>eD s a .nix) []
theorem FQ(l:List Ad)(x:Ad):fG (l++[x])=eD (fG l) x .nix:=by simp[fG]
theorem FR(s:List (Ad×Nix))(a:Ad):(eD s a .nix).length≤s.length+1:=by
 unfold eD;split<;>simp
theorem A8(l:List Ad):(fG l).length≤l.length:=by
 suffices h:∀(l:List Ad) (s:List (Ad×Nix)),(l.foldl (fun s a=>eD s a .nix) s).length≤s.length+l.length by simpa [fG] using h l []
 intro l
 induction l with
 | nil=>intro s;simp
 | cons x l e=>intro s;have f:=e (eD s x .nix);have g:=FR s x;simp only[List.foldl_cons,List.length_cons];omega
theorem Nr{n:Nat}(h:Rd w 2 v n (aF l))(m:n=l.length){b:Nat}(j:w.heap.size≤b):¬(0<n/\v.ownBlock=some b):=fun ⟨h0,e⟩=>by
 have:=h.lt (by rw[fF];omega);obtain⟨i,f,g⟩:=this;rw[e] at f;cases f;omega
def Ns(w:World)(l:List Ad)(e:Ending)(w':World):Prop:=∃b,e=.returned (.map (some b))/\cS eL adV eX w' b (fG l)/\w.heap.size≤b/\aA aB w w'
theorem CA(w:World)(v:Value)(l:List Ad)(ho:iA l)(hr:Rd w 2 v l.length (aF l)):Calls Tryz.prog 57 #[v] w (Ns w l):=by
 have hmm:=@run_makeMap Tryz.prog;obtain⟨av,cv,rfl,hlc,hlm⟩:=hr.form;have r:l.length≤maxLen:=by omega
 unfold maxLen at r;clear hlc hlm;obtain⟨n,hn⟩:∃n,l.length=n:=⟨_,rfl⟩
 have HR:=O hr;have Y:=O hn;clear hr;rw[hn] at HR r ⊢;clear hn;go_in;go_wp2_with fail;obtain⟨C,p⟩:∃C,w.alloc (.map #[] 0)=C:=⟨_,rfl⟩
 have P:aA aB w C:=by rw[←p];exact(aA.refl _ _).alloc _
 have hs2:C.heap.size=w.heap.size+1:=by rw[←p,World.size_alloc]
 have V:cS eL adV eX C w.heap.size (fG []):=by rw[←p];exact cS.made _
 rw[p];have G:=O P;have HM2:=O V;clear p P V hmm
 go_loopw [9] (fun i wr=>∃k:Nat,k≤n/\i=.int .i64 k/\Hid (cS eL adV eX wr w.heap.size (fG (l.take k)))/\Hid (aA (fun j=>j=w.heap.size) C wr)) (fun i _=>n-(intOf i).toNat)
 case atStart=>exact⟨0,Nat.zero_le _,rfl,HM2,O (aA.refl _ _)⟩
 case round =>
  obtain⟨k,hk,rfl,HM,F⟩:=hrel
  by_cases hlt:k<n
  ·obtain⟨x,Z⟩:∃x,l[k]?=some x:=⟨l[k]'(by rw[Y.out];exact hlt),List.getElem?_eq_getElem _⟩
   have X:eL x:=ho x (List.mem_of_getElem? Z);have T:aA (fun j=>j=w.heap.size) w wr:=G.trans' F.out (fun _ _ h=>h.elim) (fun _ _ h=>h);have B:=HR.keep T (fun b hb e=>Nr HR.out Y.symm (Nat.le_of_eq e.symm) ⟨by omega,hb⟩);rw[←Y.out] at B;obtain⟨g,o,cap,hv,m⟩:=fO B Z;have hvv:av=some ⟨g,o,none⟩:=by cases hv;rfl
   subst hvv;have HC:=O m;have HXO:=O X;have HTK:Hid (fG (l.take (k+1))=eD (fG (l.take k)) x .nix):=O (by rw[List.take_add_one,Z,←FQ];rfl);have hxv:adV x=.agg (aM x).toArray:=rfl;obtain⟨q,f⟩:∃q,aM x=q:=⟨_,rfl⟩
   have HXC:=O f;have t:Hid ((Tryz.prog.info? 82).map (·.size)=some q.length):=O (by rw[←f];exact bH);have N:Hid (q.length=2):=O (by rw[←f];rfl);have HXE:Hid (∀u∈q,u.oneCell'=true):=O (by rw[←f];exact bG x);have HXV:Hid (adV x=.agg q.toArray):=O (by rw[←f];rfl);rw[f] at HC;have hwr:=F.size;clear Z X T B hv m hxv f
   go_wp2_with (first
    | ((with_reducible show WL (some 12) (.load 82 (.tmp 11)));refine wpList_load_mid rfl 82 (.tmp 11) rfl g (o+k*2) rfl q _ HC.out bB rfl t.out ?_)
    | ((with_reducible show WL (some 5) (.alloc 82));refine aV rfl 82 rfl bT eH #[.int .i64 0,.int .i64 0] rfl ?_)
    | ((with_reducible show WL none (.store 82 (.tmp 5) (.tmp 12)));refine aR rfl 82 (.tmp 5) (.tmp 12) rfl wr.heap.size 0 q rfl rfl #[.int .i64 0,.int .i64 0] 82 (heap_alloc_new _ _) (by rw[N.out];exact Nat.le_refl _) t.out HXE.out ?_
       intro w3 z Q;rw[aK _ _ (by rw[N.out];rfl)] at z;have A:aA aB wr w3:=((aA.refl aB wr).alloc _).trans' Q (fun _ _ h=>h) (fun i hi e=>by omega);have E:=O z;have I:=O A;have J:=O (HM.keep A id);clear z Q A)
    | ((with_reducible show WL (some 14) (.load 82 (.tmp 5)));refine wpList_load_mid rfl 82 (.tmp 5) rfl wr.heap.size 0 rfl q _ (aD E.out) bB rfl t.out ?_)
    | ((with_reducible show WL none (.mapUpdate 122 (.tmp 13) (.tmp 14) (.tmp 15)));refine mA rfl rfl (.tmp 13) (.tmp 14) (.tmp 15) 122 rfl LS Tryz.underlying122 x HXO.out Nix.nix rfl HXV.symm rfl J.out ?_
       intro w4 W R;have K:=O W;have H:=O R;clear W R))
   have HME:=O (show cS eL adV eX w4 w.heap.size (fG (l.take (k+1))) by rw[HTK.out];exact K.out);have HKE:=O ((F.trans' I.out (fun _ _ h=>h) (fun _ _ h=>h.elim)).trans' H.out (U:=fun j=>j=w.heap.size) (fun _ _ h=>h) (fun _ _ h=>h));clear K H J I F HM E HC
   go_roundw
   case rel=>exact⟨k+1,by omega,by go_num,HME,HKE⟩
   case measure=>simp[intOf];omega
  ·obtain rfl:k=n:=by omega
   have HMN:Hid (cS eL adV eX wr w.heap.size (fG l)):=O (by have:=HM.out;rwa [List.take_of_length_le (by rw[Y.out];exact Nat.le_refl _)] at this);go_wp2;go_ret;exact⟨_,rfl,HMN.out,Nat.le_refl _,G.trans' F.out (fun _ _ h=>h) (fun i hi e=>by omega)⟩
def cJ(s:List (Ad×Nix)):List Ad:=s.map (·.1)
def gU(w:World)(l:List Ad)(e:Ending)(w':World):Prop:=∃v,e=.returned v/\w'.ownsRow w.heap.size 82 2 v l.length (aF l)/\aA aB w w'
theorem uA(l:List Ad):(gN l).length=l.length:=List.length_mergeSort _
theorem CB(w:World)(b:Nat)(s:List (Ad×Nix))(h:cS eL adV eX w b s)(u:s.length≤65536):Calls Tryz.prog 61 #[.map (some b)] w (gU w (gN (cJ s))):=by
 obtain⟨j,g⟩:∃j,w.alloc (.cells #[.map (some b)] 122)=j:=⟨_,rfl⟩
 have f:aA aB w j:=by rw[←g];exact(aA.refl _ _).alloc _
 have i:j.heap[w.heap.size]?=some (.cells #[.map (some b)] 122 (0,0)):=by rw[←g];exact heap_alloc_new _ _
 have C:=O (J2 j s w.heap.size b i (h.keep f id) u);have n:=O f;have o:=O g;have p:=f.size;have K:=O (El (some b) w);clear h f i g;go_in;go_wp2_with fail;refine K.out.mono ?_;rintro e z ⟨rfl,rfl⟩;rw[o.out];go_wp2_with fail;refine C.out.mono ?_;rintro e A ⟨v,rfl,m,q⟩;rw[List.length_map] at m;obtain⟨a,c,rfl,-,-⟩:=(Rd.of_owns m).form;have t:=O m;have r:=O (n.trans q);clear m q;go_wp2;go_ret;refine⟨_,rfl,?_,r.out⟩;rw[uA,show (cJ s).length=s.length from List.length_map _];exact aQ t.out p
theorem J3(w:World)(v:Value)(l:List Ad)(A:iA l)(m:Rd w 2 v l.length (aF l))(q:l.length≤65536):Calls Tryz.prog 31 #[v] w (gU w (gN (cJ (fG l)))):=by
 have p:=O (CA w v l A m);obtain⟨E,F,rfl,-,h⟩:=m.form;have o:(fG l).length≤65536:=Nat.le_trans (A8 l) q;obtain⟨n,t⟩:∃n,l.length=n:=⟨_,rfl⟩
 rw[t] at p ⊢;clear m h t q;go_in;go_wp2_with fail;refine p.out.mono ?_;rintro e C ⟨b,rfl,r,G,j⟩;have L:=O (CB C b _ r o);have u:=O j;have B:=j.size;clear r j;go_wp2_with fail;refine L.out.mono ?_;rintro e I ⟨H,rfl,f,g⟩;obtain⟨a,c,rfl,-,-⟩:=(Rd.of_owns f).form;have z:=O f;have i:=O (u.trans g);clear f g;go_wp2;go_ret;exact⟨_,rfl,aQ z.out B,i.out⟩
def nC(l:List Ad):Prop:=l.Pairwise fun x y=>cX x y=true
theorem FS(h:cX x y=true):cX y x=false:=by rw[pI] at h;rw[jY];omega
theorem E1(h:cX x y=true):x≠y:=by
 intro e;subst e;rw[wM] at h;cases h
theorem A9:∀{l m:List Ad},nC l->nC m->(∀x,x∈l↔x∈m)->l=m
 | [],[],_,_,_=>rfl
 | [],y::m,_,_,h=>absurd ((h y).2 (by simp)) (by simp)
 | x::l,[],_,_,h=>absurd ((h x).1 (by simp)) (by simp)
 | x::l,y::m,i,j,h=>by
   unfold nC at i j;rw[List.pairwise_cons] at i j
   have o:x=y:=by
    have f:x=y\/x∈m:=by simpa using (h x).1 (by simp)
    have g:y=x\/y∈l:=by simpa using (h y).2 (by simp)
    rcases f with f|f
    ·exact f
    ·rcases g with g|g
     ·exact g.symm
     ·have a:=j.1 x f
      rw[FS (i.1 y g)] at a;cases a
   subst o
   have:l=m:=A9 i.2 j.2 fun z=>by
    constructor
    ·intro n
     have:z=x\/z∈m:=by simpa using (h z).1 (by simp[n])
     exact this.resolve_left fun e=>E1 (i.1 z n) e.symm
    ·intro n
     have:z=x\/z∈l:=by simpa using (h z).2 (by simp[n])
     exact this.resolve_left fun e=>E1 (j.1 z n) e.symm
   rw[this]
theorem qG(l:List (Ad×Nix))(a x:Ad)(v:Nix):x∈cJ (eD l a v)↔x∈cJ l\/x=a:=by
 unfold eD cJ;split
 ·rename_i h
  have i:(l.map fun p=>if p.1=a then (a,v) else p).map (·.1)=l.map (·.1):=by
   rw[List.map_map];apply List.map_congr_left;intro p _;simp only[Function.comp];split
   ·rename_i e;exact e.symm
   ·rfl
  rw[i];constructor
  ·exact fun h=>.inl h
  ·rintro (f|rfl)
   ·exact f
   ·obtain⟨p,j,g⟩:=List.any_eq_true.1 h
    exact List.mem_map.2 ⟨p,j,of_decide_eq_true g⟩
 ·simp
theorem CD{l:List (Ad×Nix)}(h:(cJ l).Nodup)(a:Ad)(v:Nix):(cJ (eD l a v)).Nodup:=by
 unfold eD cJ at *;split
 ·have i:(l.map fun p=>if p.1=a then (a,v) else p).map (·.1)=l.map (·.1):=by
   rw[List.map_map];apply List.map_congr_left;intro p _;simp only[Function.comp];split
   ·rename_i e;exact e.symm
   ·rfl
  rw[i];exact h
 ·rename_i j
  rw[List.map_append,List.nodup_append];refine⟨h,by simp,?_⟩;intro x n y f e;simp only[List.map_cons,List.map_nil,List.mem_singleton] at f;subst f;subst e;obtain⟨p,m,g⟩:=List.mem_map.1 n;exact j (List.any_eq_true.2 ⟨p,m,decide_eq_true g⟩)
theorem oQ(l:List Ad):(cJ (fG l)).Nodup/\∀x,x∈cJ (fG l)↔x∈l:=by
 suffices h:∀(l:List Ad) (s:List (Ad×Nix)),(cJ s).Nodup->(cJ (l.foldl (fun s a=>eD s a .nix) s)).Nodup/\∀x,x∈cJ (l.foldl (fun s a=>eD s a .nix) s)↔x∈cJ s\/x∈l by
  have:=h l [] (by simp[cJ]);exact⟨this.1,fun x=>by rw[show fG l=l.foldl (fun s a=>eD s a .nix) [] from rfl,this.2 x];simp[cJ]⟩
 intro l
 induction l with
 | nil=>intro s e;exact⟨e,fun x=>by simp⟩
 | cons a l f =>
   intro s e;have:=f (eD s a .nix) (CD e a .nix);refine⟨this.1,fun x=>?_⟩;rw[List.foldl_cons,this.2 x,qG,List.mem_cons];constructor
   ·rintro ((h|h)|h)<;>simp[h]
   ·rintro (h|h|h)<;>simp[h]
theorem wN(h:l.Nodup):nC (gN l):=by
 have f:(gN l).Pairwise fun x y=>(!cX y x)=true:=List.pairwise_mergeSort xG tY l
 have g:(gN l).Nodup:=(List.mergeSort_perm l _).nodup_iff.2 h;refine(List.Pairwise.and f g).imp fun {x y} ⟨p,q⟩=>?_
 simp only[Bool.not_eq_true'] at p;cases e:cX x y
 ·exact absurd (oP e p) q
 ·rfl
def cY(l:List Ad):List Ad:=gN (cJ (fG l))
theorem wO(l:List Ad):nC (cY l):=wN (oQ l).1
theorem qH:x∈cY l↔x∈l:=by unfold cY;rw[A7];exact(oQ l).2 x
theorem CE{m:List Ad}(h:nC l)(e:∀x,x∈l↔x∈m):l=cY m:=A9 h (wO m) fun x=>by rw[qH];exact e x
theorem Ba(l:List Ad):(cY l).length≤l.length:=by
 unfold cY;rw[uA];unfold cJ;rw[List.length_map];exact A8 l
theorem yU{s:List (Ad×Nix)}(h:(cJ s).Nodup)(e:∀x,x∈cJ s↔x∈l):gN (cJ s)=cY l:=CE (wN h) fun x=>by rw[A7];exact e x
def fT(x:Ad)(l:List Ad):Nat:=(l.takeWhile fun y=>cX y x).length
theorem J4(x:Ad)(l:List Ad):fT x l≤l.length:=(List.takeWhile_sublist _).length_le
theorem xH:∀{l:List Ad}{k:Nat},k<fT x l->∃y,l[k]?=some y/\cX y x=true
 | [],k,h=>by simp[fT] at h
 | y::l,k,h=>by
   unfold fT at h;rw[List.takeWhile_cons] at h;cases e:cX y x
   ·rw[e] at h;simp at h
   ·cases k with
    | zero=>exact⟨y,rfl,e⟩
    | succ k =>
      rw[e] at h;simp only[if_true,List.length_cons] at h;exact xH (l:=l) (k:=k) (by unfold fT;omega)
theorem xI:∀{l:List Ad}{y:Ad},l[fT x l]?=some y->cX y x=false
 | [],y,h=>by simp at h
 | z::l,y,h=>by
   unfold fT at h;rw[List.takeWhile_cons] at h;cases e:cX z x
   ·rw[e] at h
    simp only[Bool.false_eq_true,if_false,List.length_nil,List.getElem?_cons_zero,Option.some.injEq] at h;rw[←h];exact e
   ·rw[e] at h
    simp only[if_true,List.length_cons,List.getElem?_cons_succ] at h;exact xI (l:=l) h
def mG(x:Ad)(l:List Ad):List Ad:=if l[fT x l]?=some x then l else l.take (fT x l)++x::l.drop (fT x l)
theorem FT(x:Ad)(h:nC l):nC (mG x l):=by
 unfold mG;split
 ·exact h
 ·rename_i r
  have g:nC (l.take (fT x l)++l.drop (fT x l)):=by rw[List.take_append_drop];exact h
  unfold nC at g ⊢;rw[List.pairwise_append] at g
  have E:∀a∈l.take (fT x l),cX a x=true:=fun a o=>by
   obtain⟨i,j⟩:=List.getElem?_of_mem o;rw[List.getElem?_take] at j;split at j
   ·rename_i q
    obtain⟨y,u,z⟩:=xH q;rw[u] at j;cases j;exact z
   ·cases j
  have F:∀b∈l.drop (fT x l),cX x b=true:=fun b f=>by
   rcases p:l.drop (fT x l) with _|⟨y,m⟩
   ·rw[p] at f;simp at f
   ·have B:l[fT x l]?=some y:=by
     have:=congrArg (fun t=>t[0]?) p
     simpa [List.getElem?_drop] using this
    have C:=xI B
    have n:cX x y=true:=by
     cases e:cX x y
     ·exact absurd (by rw[B,oP C e]) r
     ·rfl
    rw[p] at f;rcases List.mem_cons.1 f with rfl|f
    ·exact n
    ·have A:=g.2.1
     rw[p,List.pairwise_cons] at A;exact yT n (A.1 b f)
  rw[List.pairwise_append];refine⟨g.1,List.pairwise_cons.2 ⟨F,g.2.1⟩,?_⟩;intro a o b f;rcases List.mem_cons.1 f with rfl|f
  ·exact E a o
  ·exact g.2.2 a o b f
theorem J5:y∈mG x l↔y∈l\/y=x:=by
 unfold mG;split
 ·rename_i h
  exact⟨.inl,fun f=>f.elim id fun e=>by rw[e];exact List.mem_of_getElem? h⟩
 ·have:y∈l↔y∈l.take (fT x l)\/y∈l.drop (fT x l):=by rw[←List.mem_append,List.take_append_drop]
  rw[this,List.mem_append,List.mem_cons];constructor
  ·rintro (h|h|h)<;>simp[h]
  ·rintro ((h|h)|h)<;>simp[h]
theorem FU(l:List Ad)(x:Ad):mG x (cY l)=cY (l++[x]):=
 CE (FT x (wO l)) fun y=>by rw[J5,qH,List.mem_append,List.mem_singleton]
theorem Bb:cY []=[]:=by simp[cY,fG,cJ,gN]
end
section
def dY(L:List Ad)(d s:Nat):Bool:=decide ((⟨(d:Int),(s:Int)⟩:Ad)∈L)
def gD(L:List Ad)(d s:Nat):Bool:=decide (5≤s) && !dY L d s
def aZ(L:List Ad)(d k:Nat):List Int:=((List.range k).filter (gD L d)).map fun(s:Nat)=>(s:Int)
variable{L M:List Ad}{d k S:Nat}{x:Int}
theorem qV(L:List Ad)(d k:Nat):aZ L d (k+1)=aZ L d k++if gD L d k then [(k:Int)] else []:=by
 unfold aZ;rw[List.range_succ,List.filter_append,List.map_append]
 congr 1
 cases h:gD L d k<;>simp[h]
theorem En(L:List Ad)(d:Nat):aZ L d 5=[]:=by
 unfold aZ
 have:(List.range 5).filter (gD L d)=[]:=by
  rw[List.filter_eq_nil_iff];intro s e;have:=List.mem_range.1 e;unfold gD;rw[decide_eq_false (by omega:¬5≤s)];simp
 rw[this];rfl
theorem sE:x∈aZ L d k↔∃s:Nat,x=(s:Int)/\s<k/\5≤s/\dY L d s=false:=by
 unfold aZ;rw[List.mem_map];constructor
 ·rintro⟨s,h,rfl⟩
  obtain⟨f,e⟩:=List.mem_filter.1 h;unfold gD at e;rw[Bool.and_eq_true] at e;exact⟨s,rfl,List.mem_range.1 f,of_decide_eq_true e.1,by simpa using e.2⟩
 ·rintro⟨s,rfl,f,e,g⟩
  refine⟨s,List.mem_filter.2 ⟨List.mem_range.2 f,?_⟩,rfl⟩;unfold gD;rw[decide_eq_true e,g];rfl
theorem CF(L:List Ad)(d k:Nat):(aZ L d k).Pairwise (·<·):=by
 unfold aZ;rw[List.pairwise_map];refine(List.Pairwise.filter _ List.pairwise_lt_range).imp ?_;intro a b h;exact Int.ofNat_lt.2 h
theorem sF(L:List Ad)(d k:Nat):(aZ L d k).length≤k-5:=by
 induction k with
 | zero=>simp[aZ]
 | succ k e =>
   rw[qV,List.length_append];cases h:gD L d k
   ·simp only[Bool.false_eq_true,if_false,List.length_nil];omega
   ·unfold gD at h
    rw[Bool.and_eq_true] at h;have:=of_decide_eq_true h.1;simp only[if_true,List.length_singleton];omega
theorem pL(h:∀s,s<k->5≤s->dY L d s=dY M d s):aZ L d k=aZ M d k:=by
 unfold aZ;rw[List.filter_congr];intro s f;unfold gD
 by_cases e:5≤s
 ·rw[h s (List.mem_range.1 f) e]
 ·rw[decide_eq_false e];rfl
theorem Eo(h:∀x,x∈L↔x∈M)(d s:Nat):dY L d s=dY M d s:=by
 unfold dY;rw[decide_eq_decide];exact h _
theorem oR(L:List Ad)(e t d s:Nat):dY (L++[⟨(e:Int),(t:Int)⟩]) d s=(dY L d s || (decide (d=e) && decide (s=t))):=by
 unfold dY;rw[Bool.eq_iff_iff];simp only[List.mem_append,List.mem_singleton,decide_eq_true_eq,Bool.or_eq_true,Bool.and_eq_true,Ad.mk.injEq];constructor
 ·rintro (h|⟨f,g⟩)
  ·exact .inl h
  ·exact .inr ⟨by omega,by omega⟩
 ·rintro (h|⟨f,g⟩)
  ·exact .inl h
  ·exact .inr ⟨by omega,by omega⟩
theorem nD{r:List Int}(h:aZ L d S=x::r):∃t:Nat,x=(t:Int)/\t<S/\5≤t/\dY L d t=false/\(∀s,5≤s->s<t->dY L d s=true)/\aZ (L++[⟨(d:Int),x⟩]) d S=r:=by
 have o:x∈aZ L d S:=by rw[h];exact List.mem_cons_self ..
 obtain⟨t,rfl,j,m,n⟩:=sE.1 o;have g:=CF L d S;rw[h,List.pairwise_cons] at g;refine⟨t,rfl,j,m,n,fun s i p=>?_,?_⟩
 ·cases q:dY L d s with
  | true=>rfl
  | false =>
    have:(s:Int)∈aZ L d S:=sE.2 ⟨s,rfl,by omega,i,q⟩;rw[h] at this;rcases List.mem_cons.1 this with e|e
    ·omega
    ·have:=g.1 _ e
     omega
 ·have e:aZ (L++[⟨(d:Int),(t:Int)⟩]) d S=(aZ L d S).filter fun y=>!decide (y=(t:Int)):=by
   unfold aZ;rw[List.filter_map,List.filter_filter]
   congr 1
   refine List.filter_congr fun s z=>?_
   unfold gD;rw[oR];simp only[Function.comp,decide_true,Bool.true_and]
   by_cases e:s=t
   ·subst e;simp
   ·have:¬(s:Int)=(t:Int):=by omega
    simp[e,this]
  rw[e,h,List.filter_cons];rw[if_neg (by simp)];refine List.filter_eq_self.2 fun y u=>?_
  have:=g.1 y u;have f:¬y=(t:Int):=by omega
  simp[f]
theorem CG{e t:Nat}(h:d≠e):aZ (L++[⟨(e:Int),(t:Int)⟩]) d S=aZ L d S:=pL fun s _ _=>by
 rw[oR,decide_eq_false h];simp
def eF(x:Ad)(D S:Nat):Prop:=0≤x.1/\x.1<(D:Int)/\5≤x.2/\x.2<(S:Int)
def cE(L:List Ad)(D S:Nat):List Int:=(List.range D).map fun d=>((aZ L d S).length:Int)
theorem jK(L:List Ad)(D S:Nat):(cE L D S).length=D:=by simp[cE]
theorem qI(L:List Ad){D:Nat}(h:d<D):(cE L D S).getD d 0=((aZ L d S).length:Int):=by
 unfold cE;rw[List.getD_eq_getElem?_getD,List.getElem?_map,List.getElem?_range h];rfl
end
section
open Go.RowKit Go.Maps Go.ChangeMaps
def wv(x:BitVec 64):Value:=.int .u64 (x.toNat:Int)
variable{w:World}{b D d s:Nat}{c:Nat->Option Nat}{L M:List Ad}
theorem nE(x:BitVec 64):BitVec.ofInt 64 (x.toNat:Int)=x:=by simp
theorem xJ(n:Nat)(h:n<18446744073709551616):IntKind.u64.wrap (n:Int)=(n:Int):=by
 show ((n:Int) % 18446744073709551616)=n;omega
theorem Ib(x:BitVec 64):x.toNat<18446744073709551616:=x.isLt
theorem CH(x y:BitVec 64):bits .and .u64 (x.toNat:Int) (y.toNat:Int)=((x &&& y).toNat:Int):=by
 show IntKind.u64.wrap ((BitVec.ofInt 64 (x.toNat:Int) &&& BitVec.ofInt 64 (y.toNat:Int)).toNat:Int)=_;rw[nE,nE,xJ _ (Ib _)]
theorem Mc(i:Nat)(h:i<64):IntKind.u64.wrap ((2:Int) ^ i)=((BitVec.twoPow 64 i).toNat:Int):=by
 rw[BitVec.toNat_twoPow,Nat.mod_eq_of_lt (Nat.pow_lt_pow_right (by decide) h)];have:((2:Int) ^ i)=((2 ^ i:Nat):Int):=by simp
 rw[this,xJ _ (Nat.pow_lt_pow_right (by decide) h)]
theorem E2(x:BitVec 64)(i:Nat):(x.toNat:Int) / 2 ^ i=((x >>> i).toNat:Int):=by
 rw[BitVec.toNat_ushiftRight,Nat.shiftRight_eq_div_pow];simp
theorem E3(x:BitVec 64)(i:Nat):decide (((x >>> i &&& 1#64).toNat:Int)=1)=x.getLsbD i:=by
 have h:x >>> i &&& 1#64=if x.getLsbD i then 1#64 else 0#64:=by
  apply BitVec.eq_of_getLsbD_eq;intro j e;rw[BitVec.getLsbD_and,BitVec.getLsbD_ushiftRight]
  by_cases h0:j=0
  ·subst h0
   cases x.getLsbD i<;>simp
  ·have:(1#64).getLsbD j=false:=by simp[BitVec.getLsbD_one,h0]
   rw[this];cases x.getLsbD i<;>simp[BitVec.getLsbD_one,h0]
 rw[h];cases x.getLsbD i<;>rfl
theorem J6(x y:BitVec 64):bits .xor .u64 (x.toNat:Int) (y.toNat:Int)=((x ^^^ y).toNat:Int):=by
 show IntKind.u64.wrap ((BitVec.ofInt 64 (x.toNat:Int) ^^^ BitVec.ofInt 64 (y.toNat:Int)).toNat:Int)=_;rw[nE,nE,xJ _ (Ib _)]
theorem J7(x:BitVec 64)(i j:Nat)(e:i<64):(x ^^^ BitVec.twoPow 64 i).getLsbD j=(x.getLsbD j != decide (i=j)):=by
 rw[BitVec.getLsbD_xor,BitVec.getLsbD_twoPow];simp[e]
structure bP(w:World)(b:Nat)(c:Nat->Option Nat)(D:Nat)(L:List Ad):Prop where
 row:∃cs:Array Value,w.heap[b]?=some (.cells cs 253 (0,0))/\cs.size=D*65 /\
  (∀d,d<D->∀k,k<64->∃x:BitVec 64,cs[d*65+k]?=some (wv x)/\∀j,j<64->x.getLsbD j=dY L d (64*k+j)) /\
  ∀d,d<D->cs[d*65+64]?=some (.chan (c d))
theorem bP.keep{S:Nat->Prop}{w':World}(h:bP w b c D L)(k:aA S w w')(i:¬S b):bP w' b c D L:=by
 obtain⟨e,f,g⟩:=h.row;exact⟨e,k.blk f i,g⟩
theorem bP.congr(h:bP w b c D L)(q:∀x,x∈L↔x∈M):bP w b c D M:=by
 obtain⟨e,f,g,i,m⟩:=h.row;refine⟨e,f,g,fun d p k t=>?_,m⟩;obtain⟨x,n,o⟩:=i d p k t;exact⟨x,n,fun j r=>by rw[o j r,Eo q]⟩
theorem bP.lt(h:bP w b c D L):b<w.heap.size:=by
 obtain⟨f,e,-⟩:=h.row;exact(Array.getElem?_eq_some_iff.1 e).1
theorem bP.word(h:bP w b c D L)(j:d<D)(p:s<4096):∃x:BitVec 64,w.cell? ⟨b,d*65+s / 64,none⟩=some (wv x)/\x.getLsbD (s % 64)=dY L d s:=by
 obtain⟨m,e,n,f,o⟩:=h.row;obtain⟨x,g,i⟩:=f d j (s / 64) (by omega);refine⟨x,aC e g,?_⟩;rw[i _ (Nat.mod_lt _ (by decide)),Nat.div_add_mod]
theorem bP.chan(h:bP w b c D L)(g:d<D):w.cell? ⟨b,d*65+64,none⟩=some (.chan (c d)):=by
 obtain⟨i,e,j,m,f⟩:=h.row;exact aC e (f d g)
theorem bP.free(h:bP w b c D L)(i:Nat):w.frozen? ⟨b,i,none⟩=false:=by
 obtain⟨f,e,-⟩:=h.row;exact dA e i
theorem OB{e k l:Nat}(f:k<65)(g:l<65)(h:d*65+k=e*65+l):d=e/\k=l:=by omega
theorem bP.flip(h:bP w b c D L)(F:d<D)(N:s<4096){x:BitVec 64}(K:w.cell? ⟨b,d*65+s / 64,none⟩=some (wv x))
 (E:∀e t,e<D->t<4096->dY M e t=(dY L e t != (decide (e=d) && decide (t=s)))) :
 bP (w.setCell ⟨b,d*65+s / 64,none⟩ (wv (x ^^^ BitVec.twoPow 64 (s % 64)))) b c D M/\aA (fun k=>k=b) w (w.setCell ⟨b,d*65+s / 64,none⟩ (wv (x ^^^ BitVec.twoPow 64 (s % 64)))):=by
 obtain⟨u,z,A,B,H⟩:=h.row;have I:=dO z (d*65+s / 64) (wv (x ^^^ BitVec.twoPow 64 (s % 64)))
 have o:d*65+s / 64<u.size:=by
  rw[A];have:d*65+65≤D*65:=by omega
  omega
 have q:u[d*65+s / 64]?=some (wv x):=by
  obtain⟨y,g,-⟩:=B d F (s / 64) (by omega);have:=aC z g;rw[K] at this;rw[g,←this]
 refine⟨⟨_,I,by rw[Array.size_setIfInBounds];exact A,fun e m k J=>?_,fun e m=>?_⟩,(aA.refl (fun k=>k=b) w).setCell (p:=⟨b,_,none⟩) (fun _=>rfl) _⟩
 ·obtain⟨y,g,C⟩:=B e m k J
  by_cases f:d*65+s / 64=e*65+k
  ·obtain⟨rfl,rfl⟩:=OB (by omega) (by omega) f
   refine⟨_,by rw[Array.getElem?_setIfInBounds_self_of_lt o],fun j n=>?_⟩;rw[q] at g
   have r:x=y:=by
    have i:wv x=wv y:=Option.some.inj g;unfold wv at i;injection i with _ G
    exact BitVec.eq_of_toNat_eq (by omega)
   subst r;rw[J7 _ _ _ (Nat.mod_lt _ (by decide)),C j n,E _ _ F (by omega),decide_eq_true rfl,Bool.true_and]
   congr 1
   rw[decide_eq_decide];omega
  ·refine⟨y,by rw[Array.getElem?_setIfInBounds_ne f];exact g,fun j n=>?_⟩
   rw[C j n,E _ _ m (by omega)]
   have:(decide (e=d) && decide (64*k+j=s))=false:=by
    rw[Bool.and_eq_false_iff,decide_eq_false_iff_not,decide_eq_false_iff_not]
    by_cases i:e=d
    ·subst i
     refine .inr fun G=>f ?_
     omega
    ·exact .inl i
   rw[this];simp
 ·rw[Array.getElem?_setIfInBounds_ne (by omega)]
  exact H e m
theorem bP.lay(h:bP w b c D L)(A:d<D)(v:Option Nat) :
 bP (w.setCell ⟨b,d*65+64,none⟩ (.chan v)) b (fun e=>if e=d then v else c e) D L/\aA (fun k=>k=b) w (w.setCell ⟨b,d*65+64,none⟩ (.chan v)):=by
 obtain⟨m,n,j,o,q⟩:=h.row;have u:=dO n (d*65+64) (.chan v)
 have g:d*65+64<m.size:=by
  rw[j];have:d*65+65≤D*65:=by omega
  omega
 refine⟨⟨_,u,by rw[Array.size_setIfInBounds];exact j,fun e f k z=>?_,fun e f=>?_⟩,(aA.refl (fun k=>k=b) w).setCell (p:=⟨b,_,none⟩) (fun _=>rfl) _⟩
 ·obtain⟨y,r,t⟩:=o e f k z
  exact⟨y,by rw[Array.getElem?_setIfInBounds_ne (by omega)];exact r,t⟩
 ·by_cases i:e=d
  ·subst i
   rw[Array.getElem?_setIfInBounds_self_of_lt g,if_pos rfl]
  ·rw[Array.getElem?_setIfInBounds_ne (by omega),if_neg i]
   exact q e f
theorem J8(w:World)(b D:Nat)(c:Nat->Option Nat)(L:List Ad)(h:bP w b c D L)(d s:Nat)(K:d<D)(T:s<4096) :
 Calls Tryz.prog 178 #[.pointer (some ⟨b,d*65,none⟩),.int .i64 (s:Int)] w fun e X=>e=.returned (.bool (dY L d s))/\w=X:=by
 obtain⟨x,u,A⟩:=h.word K T;obtain⟨q,g⟩:∃q,s / 64=q:=⟨_,rfl⟩
 obtain⟨r,i⟩:∃q,s % 64=q:=⟨_,rfl⟩
 have G:q<64:=by omega
 have I:r<64:=by omega
 rw[g] at u;rw[i] at A;have C:=E2 x r;have z:=CH (x >>> r) 1#64;have t:=E3 x r;rw[A] at t;obtain⟨xv,p⟩:∃n:Int,(x.toNat:Int)=n:=⟨_,rfl⟩
 obtain⟨sv,m⟩:∃n:Int,((x >>> r).toNat:Int)=n:=⟨_,rfl⟩
 obtain⟨rv,j⟩:∃n:Int,((x >>> r &&& 1#64).toNat:Int)=n:=⟨_,rfl⟩
 obtain⟨bb,f⟩:∃b,dY L d s=b:=⟨_,rfl⟩
 have B:(((1#64:BitVec 64).toNat:Nat):Int)=1:=rfl;unfold wv at u;rw[B] at z;rw[p] at u C;rw[m] at C z;rw[j] at z t;rw[f] at t ⊢;have J:(rv == 1)=bb:=t;obtain⟨o,F⟩:∃o,d*65=o:=⟨_,rfl⟩
 rw[F] at u ⊢;have Z:(s:Int) / 64=(q:Int):=by omega
 have Y:(s:Int) % 64=(r:Int):=by omega
 have U:(0:Int)≤(s:Int):=by omega
 have H:(s:Int).tdiv 64=(q:Int):=by rw[Int.tdiv_eq_ediv_of_nonneg (by omega)];omega
 have E:(s:Int).tmod 64=(r:Int):=by rw[Int.tmod_eq_emod_of_nonneg (by omega)];omega
 have V:IntKind.i64.wrap (q:Int)=(q:Int):=by rw[IntWalk.i64_in _ (by omega)]
 have W:IntKind.i64.wrap (r:Int)=(r:Int):=by rw[IntWalk.i64_in _ (by omega)]
 have N:(0:Int)≤(q:Int):=by omega
 have P:(q:Int)<64:=by omega
 have Q:(0:Int)≤(r:Int):=by omega
 have R:(r:Int)<64:=by omega
 clear h A p m j f B F g i;go_in;go_wp2;go_ret;exact⟨rfl,rfl⟩
end
section
open Go.RowKit
theorem gE{P:Program}{ops:Array Oper}{S:World->Prop}{op:Oper}{a:Act}(i:Region.wanted op (yielded ops a.tmps)=true)(t:TypeId)(x y:Operand)(m:TypeId)(g:op.op=.binOp .neq t x y m)
 (e ys:Array Value) (j:a.eval x=.agg e) (hy:a.eval y=.agg ys) (f:P.eqGuardType P.depth t=false){b:Bool}(h:∀w,(binOp .neq t (.agg e) (.agg ys)).run P w=.ok (.bool b) w):YieldsIf P ops S op (.bool b) a:=
 .inl ⟨i,fun w _=>by
  unfold execOp;simp only[g,j,hy,Sem.run_bind,Sem.run_pure,Result.andThen_ok,run_eqGuard_agg w .neq t x y e ys f,h w]⟩
theorem vQ:Tryz.prog.eqGuardType Tryz.prog.depth 82=false:=by kernel_rfl
theorem Md:Tryz.prog.stoodInHeld 82=false:=by kernel_rfl
theorem OC(a b:Ad)(w:World):Sem.run Tryz.prog (binOp .eql 82 (.agg (aM a).toArray) (.agg (aM b).toArray)) w=.ok (.bool (decide (a=b))) w:=by
 have e:decide (a=b)=(decide (a.dev=b.dev) && decide (a.sec=b.sec)):=by rw[Bool.eq_iff_iff];simp[Ad.ext_iff]
 rw[e,run_eql_struct,run_equalIn_agg w 9999 82 _ _ bB Md,tU,xF];have i:∀x y:Int,(Op.equalIn 9999 3 (.int .i64 x) (.int .i64 y)).run Tryz.prog w=.ok (x == y) w:=fun x y=>run_equalIn_int w 9998 3 .i64 .i64 x y Tryz.underlying3
 have h:∀x y:Int,(x == y)=decide (x=y):=fun x y=>by rw[Bool.eq_iff_iff];simp
 have f:(aM a).toArray[0]?=some (.int .i64 a.dev):=rfl;have g:(aM a).toArray[1]?=some (.int .i64 a.sec):=rfl;have b0:(aM b).toArray[0]?=some (.int .i64 b.dev):=rfl;have b1:(aM b).toArray[1]?=some (.int .i64 b.sec):=rfl;simp only[eqT,ne_eq,String.reduceEq,not_false_eq_true,if_true,Sem.run_bind,Sem.run_ite,Sem.run_pure,Result.andThen_ok,sD _ 0 _ f,sD _ 0 _ b0,sD _ 1 _ g,sD _ 1 _ b1,i,h];cases decide (a.dev=b.dev)<;>cases decide (a.sec=b.sec)<;>rfl
theorem Ci(a b:Ad)(w:World):Sem.run Tryz.prog (binOp .neq 82 (.agg (aM a).toArray) (.agg (aM b).toArray)) w=.ok (.bool (!decide (a=b))) w:=yQ (OC a b w)
def fA(a:Ad)(devs sectors:Int):Bool:=decide (2≤devs) && decide (devs≤8) && decide (8≤sectors) && decide (sectors≤4096) && decide (0≤a.dev) && decide (a.dev<devs) && decide (5≤a.sec) && decide (a.sec<sectors)
theorem E4(a:Ad)(devs sectors:Int)(w:World):Calls Tryz.prog 207 #[adV a,.int .i64 devs,.int .i64 sectors] w fun e t=>e=.returned (.bool (fA a devs sectors))/\aA aB w t:=by
 obtain⟨q,p,i,h,o⟩:=aS w (aM a).toArray 82;obtain⟨j,m⟩:=a;have c0:q.cell? ⟨w.heap.size,0,none⟩=some (.int .i64 j):=aC h rfl;have c1:q.cell? ⟨w.heap.size,1,none⟩=some (.int .i64 m):=aC h rfl;have f:=O i;obtain⟨r,n⟩:∃r,fA ⟨j,m⟩ devs sectors=r:=⟨_,rfl⟩
 have g:=O n;rw[n];clear i h o n;unfold adV;unfold aM at p ⊢
 by_cases h0:2≤devs
 rotate_left
 ·have e:r=false:=by rw[←g.out];simp[fA];omega
  subst e;go_in;go_wp2;go_ret;exact⟨rfl,f.out⟩
 by_cases u:devs≤8
 rotate_left
 ·have e:r=false:=by rw[←g.out];simp[fA];omega
  subst e;go_in;go_wp2;go_ret;exact⟨rfl,f.out⟩
 by_cases z:8≤sectors
 rotate_left
 ·have e:r=false:=by rw[←g.out];simp[fA];omega
  subst e;go_in;go_wp2;go_ret;exact⟨rfl,f.out⟩
 by_cases A:sectors≤4096
 rotate_left
 ·have e:r=false:=by rw[←g.out];simp[fA];omega
  subst e;go_in;go_wp2;go_ret;exact⟨rfl,f.out⟩
 by_cases B:0≤j
 rotate_left
 ·have e:r=false:=by rw[←g.out];simp[fA];omega
  subst e;go_in;go_wp2;go_ret;exact⟨rfl,f.out⟩
 by_cases C:j<devs
 rotate_left
 ·have e:r=false:=by rw[←g.out];simp[fA];omega
  subst e;go_in;go_wp2;go_ret;exact⟨rfl,f.out⟩
 by_cases E:5≤m
 rotate_left
 ·have e:r=false:=by rw[←g.out];simp[fA];omega
  subst e;go_in;go_wp2;go_ret;exact⟨rfl,f.out⟩
 by_cases h7:m<sectors
 rotate_left
 ·have e:r=false:=by rw[←g.out];simp[fA];omega
  subst e;go_in;go_wp2;go_ret;exact⟨rfl,f.out⟩
 have e:r=true:=by rw[←g.out];simp[fA];omega
 subst e;go_in;go_wp2;go_ret;exact⟨rfl,f.out⟩
theorem Ig(a b:Ad)(w:World):Calls Tryz.prog 66 #[adV a,adV b] w fun e t=>e=.returned (.bool (cX a b))/\aA aB w t:=by
 obtain⟨g,f⟩:∃g,(w.alloc (.cells (aM a).toArray 82)).alloc (.cells (aM b).toArray 82)=g:=⟨_,rfl⟩
 have h:g.heap[w.heap.size]?=some (.cells (aM a).toArray 82 (0,0)):=by rw[←f];exact heap_alloc2_old _ _ _
 have i:g.heap[w.heap.size+1]?=some (.cells (aM b).toArray 82 (0,0)):=by rw[←f];exact heap_alloc2_new _ _ _
 have j:=O (show aA aB w g by rw[←f];exact((aA.refl _ _).alloc _).alloc _);obtain⟨n,o⟩:=a;obtain⟨bd,bx⟩:=b;have c0:g.cell? ⟨w.heap.size,0,none⟩=some (.int .i64 n):=aC h rfl;have c1:g.cell? ⟨w.heap.size,1,none⟩=some (.int .i64 o):=aC h rfl;have c2:g.cell? ⟨w.heap.size+1,0,none⟩=some (.int .i64 bd):=aC i rfl;have c3:g.cell? ⟨w.heap.size+1,1,none⟩=some (.int .i64 bx):=aC i rfl;obtain⟨r,p⟩:∃r,cX ⟨n,o⟩ ⟨bd,bx⟩=r:=⟨_,rfl⟩
 have m:=O p;rw[p];clear h i p;unfold adV;unfold aM at f ⊢
 by_cases h0:n<bd
 ·have e:r=true:=by rw[←m.out];simp[cX];omega
  subst e;go_in;go_wp2;go_ret;exact⟨rfl,j.out⟩
 ·by_cases q:n=bd
  ·subst q
   by_cases u:o<bx
   ·have e:r=true:=by rw[←m.out];simp[cX];omega
    subst e;go_in;go_wp2;go_ret;exact⟨rfl,j.out⟩
   ·have e:r=false:=by rw[←m.out];simp[cX];omega
    subst e;go_in;go_wp2;go_ret;exact⟨rfl,j.out⟩
  ·have e:r=false:=by rw[←m.out];simp[cX];omega
   subst e;go_in;go_wp2;go_ret;exact⟨rfl,j.out⟩
theorem E5(a b:Int)(w:World):(Instr.build 82 #[(0,.int .i64 a),(1,.int .i64 b)]).run Tryz.prog w=.ok (.agg #[.int .i64 a,.int .i64 b]) w:=by kernel_rfl
end
section
open Go.RowKit Go.Maps Go.ChangeMaps
variable{w:World}{base c b:Nat}{a:Option Addr}{l:List (Ad×Nix)}
theorem uE(a b:Ad)(w:World):Calls Tryz.prog 66 #[.agg (aM a).toArray,.agg (aM b).toArray] w fun e f=>e=.returned (.bool (cX a b))/\aA aB w f:=Ig a b w
theorem pM{m:Nat}{U:List Ad}(h:w.ownsRow base 82 2 (.slice a m c) m (aF U))(u:U.length=m){q:Nat}{y:Ad}(hy:U[q]?=some y):∃g,a=some ⟨g,0,none⟩/\w.rangeAt g (0+q*2) (aM y):=by
 have p:=Rd.of_owns h;rw[←u] at p;obtain⟨g,o,r,z,j⟩:=fO p hy;have f:a=some ⟨g,o,none⟩:=by injection z
 rcases h.2 with⟨i,-⟩|⟨t,n,cur,i,-⟩
 ·have e:a=none:=by injection i
  rw[e] at f;cases f
 ·have e:a=some ⟨t,0,none⟩:=by injection i
  rw[e] at f;cases f
  exact⟨_,e,j⟩
theorem uF(U:List Ad)(q:Nat):(aF U).take (q*2)=aF (U.take q):=by
 rcases Nat.le_total q U.length with h|h
 ·have:aF U=aF (U.take q)++aF (U.drop q):=by rw[←bO,List.take_append_drop]
  rw[this,List.take_append_of_le_length (by rw[fF,List.length_take];omega),List.take_of_length_le (by rw[fF,List.length_take];omega)]
 ·rw[List.take_of_length_le h,List.take_of_length_le (by rw[fF];omega)]
theorem uG(U:List Ad)(q:Nat):(aF U).drop (q*2)=aF (U.drop q):=by
 rcases Nat.le_total q U.length with h|h
 ·have:aF U=aF (U.take q)++aF (U.drop q):=by rw[←bO,List.take_append_drop]
  rw[this,List.drop_append_of_le_length (by rw[fF,List.length_take];omega),List.drop_of_length_le (by rw[fF,List.length_take];omega),List.nil_append]
 ·rw[List.drop_of_length_le h,List.drop_of_length_le (by rw[fF];omega)];rfl
theorem Im(w:World)(v:Value)(xs:List Ad)(hr:Rd w 2 v xs.length (aF xs))(hl:xs.length≤65536):Calls Tryz.prog 32 #[v] w (gU w (cY xs)):=by
 obtain⟨oa,ca,rfl,-,hmm⟩:=hr.form;have hmx_n:xs.length≤maxLen:=by have h:=hr.2;obtain⟨a',cap',h1,h2,h3,-⟩:=h;omega
 unfold maxLen at hmx_n;clear hmm;have HR:=O hr;obtain⟨n,hn_n⟩:∃n,xs.length=n:=⟨_,rfl⟩
 have HN:=O hn_n;rw[hn_n] at HR hmx_n
 try rw[hn_n]
 clear hr hn_n;have hn20:n≤65536:=by rw[←HN.out];exact hl
 go_in;go_wp2_with fail
 go_loopw [3,4] (fun t i wr=>∃(k m:Nat) (pa:Option Addr) (pc:Nat),k≤n/\m≤k/\i=.int .i64 k/\t=.slice pa m pc/\Hid ((cY (xs.take k)).length=m)/\Hid (wr.ownsRow w.heap.size 82 2 (.slice pa m pc) m (aF (cY (xs.take k))))/\Hid (aA aB w wr)) (fun _ i _=>n-(intOf i).toNat)
 case atStart=>exact⟨0,0,none,0,Nat.zero_le _,Nat.le_refl _,rfl,rfl,O (by rw[List.take_zero,Bb];rfl),O (by rw[List.take_zero,Bb];exact World.ownsRow_nil _ _ _ _),O (aA.refl _ _)⟩
 case round =>
 obtain⟨k,m,pa,pc,hk,hmk,rfl,rfl,HM,HO,HKA⟩:=hrel
 by_cases hlt:k<n
 ·have G:=O (aA.refl aB w)
  have HR:=O (HR.keep HKA.out fun _ _=>id);have G:=O (G.trans HKA.out);obtain⟨x,h_x⟩:∃x,xs[k]?=some x:=⟨xs[k]'(by rw[HN.out];exact hlt),List.getElem?_eq_getElem _⟩
  have h_r:=HR.out;rw[←HN.out] at h_r;obtain⟨g,o,cap',h_v,Y⟩:=fO h_r h_x;have e1:oa=some ⟨g,o,none⟩:=by cases h_v;rfl
  subst e1;have HX:=O Y;have HE:=O h_x;clear h_x h_r h_v Y;obtain⟨U,hU⟩:∃U,cY (xs.take k)=U:=⟨_,rfl⟩
  have HTX:Hid (cY (xs.take (k+1))=mG x U):=O (by rw[List.take_add_one,HE.out,←hU];exact(FU _ _).symm);rw[hU] at HM HO;clear hU;obtain⟨p,hp⟩:∃p,fT x U=p:=⟨_,rfl⟩
  have hpm:p≤m:=by rw[←hp,←HM.out];exact J4 x U
  have HLT:Hid (∀q,q<p->∃y,U[q]?=some y/\cX y x=true):=O (fun q h=>xH (by rw[hp];exact h));have HAT:Hid (∀y,U[p]?=some y->cX y x=false):=O (fun y h=>xI (by rw[hp];exact h));have HINS:Hid (U[p]?=some x->mG x U=U):=O (fun h=>by unfold mG;rw[hp,if_pos h]);have HINN:Hid (U[p]?≠some x->mG x U=U.take p++x::U.drop p):=O (fun h=>by unfold mG;rw[hp,if_neg h]);clear hp;have HU:=O (Rd.of_owns HO.out);have hki:(k:Int)<(n:Int):=by omega
  have hk0:(0:Int)≤(k:Int):=by omega
  obtain⟨wo,rfl⟩:∃wo:World,wo=wr:=⟨_,rfl⟩
  have hpc:m≤pc:=by obtain⟨_,a',c',hv,h1,h2,-⟩:=HU.out;cases hv;exact h1
  have hpmx:pc≤9223372036854775807:=by obtain⟨_,a',c',hv,h1,h2,-⟩:=HU.out;cases hv;exact h2
  have hsz:=HKA.size;go_wp2_with fail
  by_cases hpl:p<m
  ·by_cases hsame:U[p]?=some x
   ·go_loopw [5] (fun j V=>∃q,q≤p/\j=.int .i64 q/\Hid (aA aB wo V)) (fun j _=>p-(intOf j).toNat)
    case atStart=>exact⟨0,Nat.zero_le _,rfl,O (aA.refl _ _)⟩
    case round =>
    obtain⟨q,hq,rfl,N⟩:=hrel;have J:=O (aA.refl aB wo)
    by_cases hlt2:q<p
    ·have HR:=O (HR.keep N.out fun _ _=>id)
     have G:=O (G.trans N.out);have HX:=O (N.rangeAt HX.out);have HU:=O (HU.keep N.out fun _ _=>id);have J:=O (J.trans N.out);obtain⟨y,hy,hyx⟩:=HLT.out q hlt2;obtain⟨gu,rfl,Y⟩:=pM HO.out HM.out hy;have HY:=O (N.rangeAt Y);have hC:=fun w=>uE y x w
     rw[hyx] at hC;have HC:=O hC;have hq0:(0:Int)≤(q:Int):=by omega
     have hqm:(q:Int)<(m:Int):=by omega
     have hqn:q<m:=by omega
     clear hy hyx Y hC;go_wp2_with fail;obtain⟨S,F⟩:∃S:World->Prop,S=fun A=>aA aB wr A:=⟨_,rfl⟩
     have f:=O (show ∀A,S A->aA aB wr A from fun A h=>by rw[F] at h;exact h);have C:=O (show ∀A,aA aB wr A->S A from fun A h=>by rw[F];exact h);have r:S wr.drew:=by rw[F];exact(aA.refl _ _).drew
     clear F;refine wp_region_held (S:=S) (by kernel_rfl) ?_;change wpAnyH _ _ _ _ _ _ _ _ wr.drew;generalize wr.drew=w1 at r ⊢;refine tka 0 (.int .i64 q) rfl r ?_;simp only[Act.put,List.setIfInBounds_toArray,List.set_cons_zero,List.set_cons_succ,List.getElem_toArray,List.getElem_cons_zero];refine tna 1 (.slice gu m pc) rfl r ?_;refine tnb 2 (.int .i64 m) rfl r ?_;refine tnb 3 (.bool true) rfl r ?_;refine tna 4 (.bool true) rfl r ?_;refine tna 5 (.slice gu m pc) rfl r ?_;refine tna 6 (.int .i64 q) rfl r ?_;refine tnb 7 (.pointer (some ⟨gu,0+q*2,none⟩)) rfl r ?_;refine tnd 8 (.agg (aM y).toArray) rfl (yieldsIf_load_mid (by rfl) 82 (.tmp 19) rfl (gu) (0+q*2) rfl (aM y) _ (fun A h=>(f.out A h).rangeAt HY.out) bB rfl bH) r ?_;refine tna 9 (.slice (some ⟨g,o,none⟩) n ca) rfl r ?_;refine tna 10 (.int .i64 k) rfl r ?_;refine tnb 11 (.pointer (some ⟨g,o+k*2,none⟩)) rfl r ?_;refine tnd 12 (.agg (aM x).toArray) rfl (yieldsIf_load_mid (by rfl) 82 (.tmp 23) rfl (g) (o+k*2) rfl (aM x) _ (fun A h=>(f.out A h).rangeAt HX.out) bB rfl bH) r ?_;refine wA9 13 ?_;go_wp2_with fail;refine(HC.out _).mono ?_;rintro e V ⟨rfl,hk⟩;have I:=C.out _ ((f.out _ r).trans hk);clear r hk;go_wp2_with fail;refine⟨I,?_⟩;refine tna 14 (.bool true) rfl I ?_;refine wpAnyH_done (by kernel_rfl) ?_ _;have u:=O (f.out _ I);clear I f C;have HR:=O (HR.keep u.out fun _ _=>id);have G:=O (G.trans u.out);have HX:=O (u.rangeAt HX.out);have HU:=O (HU.keep u.out fun _ _=>id);have J:=O (J.trans u.out);go_wp2
     go_roundw
     case rel=>exact⟨q+1,by omega,by go_num,J⟩
     case measure=>simp[intOf];omega
    ·obtain rfl:q=p:=by omega
     have HR:=O (HR.keep N.out fun _ _=>id);have G:=O (G.trans N.out);have HX:=O (N.rangeAt HX.out);have HU:=O (HU.keep N.out fun _ _=>id);have J:=O (J.trans N.out);have hq0:(0:Int)≤(q:Int):=by omega
     obtain⟨y,hy⟩:∃y,U[q]?=some y:=⟨U[q]'(by rw[HM.out];exact hpl),List.getElem?_eq_getElem _⟩
     have hyx:=HAT.out y hy;obtain⟨gu,rfl,Y⟩:=pM HO.out HM.out hy;have HY:=O (N.rangeAt Y);have hC:=fun w=>uE y x w
     rw[hyx] at hC;have HC:=O hC;have hqm:(q:Int)<(m:Int):=by omega
     have hqn:q<m:=by omega
     have hqe:¬(q:Int)=(m:Int):=by omega
     have hqd:decide ((q:Int)=(m:Int))=false:=decide_eq_false hqe;have HYE:=O hy;clear hy hyx Y hC;go_wp2_with fail;obtain⟨S,F⟩:∃S:World->Prop,S=fun A=>aA aB wr A:=⟨_,rfl⟩
     have f:=O (show ∀A,S A->aA aB wr A from fun A h=>by rw[F] at h;exact h);have C:=O (show ∀A,aA aB wr A->S A from fun A h=>by rw[F];exact h);have r:S wr.drew:=by rw[F];exact(aA.refl _ _).drew
     clear F;refine wp_region_held (S:=S) (by kernel_rfl) ?_;change wpAnyH _ _ _ _ _ _ _ _ wr.drew;generalize wr.drew=w1 at r ⊢;refine tka 0 (.int .i64 q) rfl r ?_;simp only[Act.put,List.setIfInBounds_toArray,List.set_cons_zero,List.set_cons_succ,List.getElem_toArray,List.getElem_cons_zero];refine tna 1 (.slice gu m pc) rfl r ?_;refine tnb 2 (.int .i64 m) rfl r ?_;refine tnb 3 (.bool true) rfl r ?_;refine tna 4 (.bool true) rfl r ?_;refine tna 5 (.slice gu m pc) rfl r ?_;refine tna 6 (.int .i64 q) rfl r ?_;refine tnb 7 (.pointer (some ⟨gu,0+q*2,none⟩)) rfl r ?_;refine tnd 8 (.agg (aM y).toArray) rfl (yieldsIf_load_mid (by rfl) 82 (.tmp 19) rfl (gu) (0+q*2) rfl (aM y) _ (fun A h=>(f.out A h).rangeAt HY.out) bB rfl bH) r ?_;refine tna 9 (.slice (some ⟨g,o,none⟩) n ca) rfl r ?_;refine tna 10 (.int .i64 k) rfl r ?_;refine tnb 11 (.pointer (some ⟨g,o+k*2,none⟩)) rfl r ?_;refine tnd 12 (.agg (aM x).toArray) rfl (yieldsIf_load_mid (by rfl) 82 (.tmp 23) rfl (g) (o+k*2) rfl (aM x) _ (fun A h=>(f.out A h).rangeAt HX.out) bB rfl bH) r ?_;refine wA9 13 ?_;go_wp2_with fail;refine(HC.out _).mono ?_;rintro e V ⟨rfl,hk⟩;have I:=C.out _ ((f.out _ r).trans hk);clear r hk;go_wp2_with fail;refine⟨I,?_⟩;refine tna 14 (.bool false) rfl I ?_;refine wpAnyH_done (by kernel_rfl) ?_ _;have u:=O (f.out _ I);clear I f C;have HR:=O (HR.keep u.out fun _ _=>id);have G:=O (G.trans u.out);have HX:=O (u.rangeAt HX.out);have HU:=O (HU.keep u.out fun _ _=>id);have J:=O (J.trans u.out);have HY:=O (u.rangeAt HY.out)
     have hne:decide (y=x)=true:=by
      have h:=hsame;rw[HYE.out] at h;exact decide_eq_true (Option.some.inj h)
     have HNE:Hid (∀A,Sem.run Tryz.prog (binOp .neq 82 (.agg (aM y).toArray) (.agg (aM x).toArray)) A=.ok (.bool false) A):=O (fun A=>by have:=Ci y x A;rwa [hne] at this);clear hne;go_wp2_with fail;obtain⟨S,F⟩:∃S:World->Prop,S=fun A=>aA aB V A:=⟨_,rfl⟩
     have f:=O (show ∀A,S A->aA aB V A from fun A h=>by rw[F] at h;exact h);have C:=O (show ∀A,aA aB V A->S A from fun A h=>by rw[F];exact h);have r:S V.drew:=by rw[F];exact(aA.refl _ _).drew
     clear F;refine wp_region_held (S:=S) (by kernel_rfl) ?_;change wpAnyH _ _ _ _ _ _ _ _ V.drew;generalize V.drew=Z at r ⊢;refine tka 0 (.int .i64 q) rfl r ?_;simp only[Act.put,List.setIfInBounds_toArray,List.set_cons_zero,List.set_cons_succ,List.getElem_toArray,List.getElem_cons_zero];refine tna 1 (.slice gu m pc) rfl r ?_;refine tnb 2 (.int .i64 m) rfl r ?_;refine tnb 3 (.bool false) rfl r ?_;refine tna 4 (.bool false) rfl r ?_;refine tna 5 (.slice gu m pc) rfl r ?_;refine tna 6 (.int .i64 q) rfl r ?_;refine tnb 7 (.pointer (some ⟨gu,0+q*2,none⟩)) rfl r ?_;refine tnd 8 (.agg (aM y).toArray) rfl (yieldsIf_load_mid (by rfl) 82 (.tmp 36) rfl (gu) (0+q*2) rfl (aM y) _ (fun A h=>(f.out A h).rangeAt HY.out) bB rfl bH) r ?_;refine tna 9 (.slice (some ⟨g,o,none⟩) n ca) rfl r ?_;refine tna 10 (.int .i64 k) rfl r ?_;refine tnb 11 (.pointer (some ⟨g,o+k*2,none⟩)) rfl r ?_;refine tnd 12 (.agg (aM x).toArray) rfl (yieldsIf_load_mid (by rfl) 82 (.tmp 40) rfl (g) (o+k*2) rfl (aM x) _ (fun A h=>(f.out A h).rangeAt HX.out) bB rfl bH) r ?_;refine tnd 13 (.bool false) rfl (gE (by rfl) 82 (.tmp 37) (.tmp 41) 82 rfl (aM y).toArray (aM x).toArray rfl rfl vQ HNE.out) r ?_;refine tna 14 (.bool false) rfl r ?_;refine wpAnyH_done (by kernel_rfl) ?_ _;have u:=O (f.out _ r);clear r f C;have HR:=O (HR.keep u.out fun _ _=>id);have G:=O (G.trans u.out);have HX:=O (u.rangeAt HX.out);have HU:=O (HU.keep u.out fun _ _=>id);have J:=O (J.trans u.out);have HY:=O (u.rangeAt HY.out);have HUE:Hid (mG x U=U):=O (HINS.out hsame);go_wp2
     go_roundw
     case rel=>exact⟨k+1,m,_,_,by omega,by omega,by go_num,rfl,O (by rw[HTX.out,HUE.out];exact HM.out),O (by rw[HTX.out,HUE.out];exact J.owns HO.out fun _ _=>id),G⟩
     case measure=>simp[intOf];omega
   ·have hput:U[p]?≠some x:=hsame
    go_loopw [5] (fun j V=>∃q,q≤p/\j=.int .i64 q/\Hid (aA aB wo V)) (fun j _=>p-(intOf j).toNat)
    case atStart=>exact⟨0,Nat.zero_le _,rfl,O (aA.refl _ _)⟩
    case round =>
    obtain⟨q,hq,rfl,N⟩:=hrel;have J:=O (aA.refl aB wo)
    by_cases hlt2:q<p
    ·have HR:=O (HR.keep N.out fun _ _=>id)
     have G:=O (G.trans N.out);have HX:=O (N.rangeAt HX.out);have HU:=O (HU.keep N.out fun _ _=>id);have J:=O (J.trans N.out);obtain⟨y,hy,hyx⟩:=HLT.out q hlt2;obtain⟨gu,rfl,Y⟩:=pM HO.out HM.out hy;have HY:=O (N.rangeAt Y);have hC:=fun w=>uE y x w
     rw[hyx] at hC;have HC:=O hC;have hq0:(0:Int)≤(q:Int):=by omega
     have hqm:(q:Int)<(m:Int):=by omega
     have hqn:q<m:=by omega
     clear hy hyx Y hC;go_wp2_with fail;obtain⟨S,F⟩:∃S:World->Prop,S=fun A=>aA aB wr A:=⟨_,rfl⟩
     have f:=O (show ∀A,S A->aA aB wr A from fun A h=>by rw[F] at h;exact h);have C:=O (show ∀A,aA aB wr A->S A from fun A h=>by rw[F];exact h);have r:S wr.drew:=by rw[F];exact(aA.refl _ _).drew
     clear F;refine wp_region_held (S:=S) (by kernel_rfl) ?_;change wpAnyH _ _ _ _ _ _ _ _ wr.drew;generalize wr.drew=w1 at r ⊢;refine tka 0 (.int .i64 q) rfl r ?_;simp only[Act.put,List.setIfInBounds_toArray,List.set_cons_zero,List.set_cons_succ,List.getElem_toArray,List.getElem_cons_zero];refine tna 1 (.slice gu m pc) rfl r ?_;refine tnb 2 (.int .i64 m) rfl r ?_;refine tnb 3 (.bool true) rfl r ?_;refine tna 4 (.bool true) rfl r ?_;refine tna 5 (.slice gu m pc) rfl r ?_;refine tna 6 (.int .i64 q) rfl r ?_;refine tnb 7 (.pointer (some ⟨gu,0+q*2,none⟩)) rfl r ?_;refine tnd 8 (.agg (aM y).toArray) rfl (yieldsIf_load_mid (by rfl) 82 (.tmp 19) rfl (gu) (0+q*2) rfl (aM y) _ (fun A h=>(f.out A h).rangeAt HY.out) bB rfl bH) r ?_;refine tna 9 (.slice (some ⟨g,o,none⟩) n ca) rfl r ?_;refine tna 10 (.int .i64 k) rfl r ?_;refine tnb 11 (.pointer (some ⟨g,o+k*2,none⟩)) rfl r ?_;refine tnd 12 (.agg (aM x).toArray) rfl (yieldsIf_load_mid (by rfl) 82 (.tmp 23) rfl (g) (o+k*2) rfl (aM x) _ (fun A h=>(f.out A h).rangeAt HX.out) bB rfl bH) r ?_;refine wA9 13 ?_;go_wp2_with fail;refine(HC.out _).mono ?_;rintro e V ⟨rfl,hk⟩;have I:=C.out _ ((f.out _ r).trans hk);clear r hk;go_wp2_with fail;refine⟨I,?_⟩;refine tna 14 (.bool true) rfl I ?_;refine wpAnyH_done (by kernel_rfl) ?_ _;have u:=O (f.out _ I);clear I f C;have HR:=O (HR.keep u.out fun _ _=>id);have G:=O (G.trans u.out);have HX:=O (u.rangeAt HX.out);have HU:=O (HU.keep u.out fun _ _=>id);have J:=O (J.trans u.out);go_wp2
     go_roundw
     case rel=>exact⟨q+1,by omega,by go_num,J⟩
     case measure=>simp[intOf];omega
    ·obtain rfl:q=p:=by omega
     have HR:=O (HR.keep N.out fun _ _=>id);have G:=O (G.trans N.out);have HX:=O (N.rangeAt HX.out);have HU:=O (HU.keep N.out fun _ _=>id);have J:=O (J.trans N.out);have hq0:(0:Int)≤(q:Int):=by omega
     obtain⟨y,hy⟩:∃y,U[q]?=some y:=⟨U[q]'(by rw[HM.out];exact hpl),List.getElem?_eq_getElem _⟩
     have hyx:=HAT.out y hy;obtain⟨gu,rfl,Y⟩:=pM HO.out HM.out hy;have HY:=O (N.rangeAt Y);have hC:=fun w=>uE y x w
     rw[hyx] at hC;have HC:=O hC;have hqm:(q:Int)<(m:Int):=by omega
     have hqn:q<m:=by omega
     have hqe:¬(q:Int)=(m:Int):=by omega
     have hqd:decide ((q:Int)=(m:Int))=false:=decide_eq_false hqe;have HYE:=O hy;clear hy hyx Y hC;go_wp2_with fail;obtain⟨S,F⟩:∃S:World->Prop,S=fun A=>aA aB wr A:=⟨_,rfl⟩
     have f:=O (show ∀A,S A->aA aB wr A from fun A h=>by rw[F] at h;exact h);have C:=O (show ∀A,aA aB wr A->S A from fun A h=>by rw[F];exact h);have r:S wr.drew:=by rw[F];exact(aA.refl _ _).drew
     clear F;refine wp_region_held (S:=S) (by kernel_rfl) ?_;change wpAnyH _ _ _ _ _ _ _ _ wr.drew;generalize wr.drew=w1 at r ⊢;refine tka 0 (.int .i64 q) rfl r ?_;simp only[Act.put,List.setIfInBounds_toArray,List.set_cons_zero,List.set_cons_succ,List.getElem_toArray,List.getElem_cons_zero];refine tna 1 (.slice gu m pc) rfl r ?_;refine tnb 2 (.int .i64 m) rfl r ?_;refine tnb 3 (.bool true) rfl r ?_;refine tna 4 (.bool true) rfl r ?_;refine tna 5 (.slice gu m pc) rfl r ?_;refine tna 6 (.int .i64 q) rfl r ?_;refine tnb 7 (.pointer (some ⟨gu,0+q*2,none⟩)) rfl r ?_;refine tnd 8 (.agg (aM y).toArray) rfl (yieldsIf_load_mid (by rfl) 82 (.tmp 19) rfl (gu) (0+q*2) rfl (aM y) _ (fun A h=>(f.out A h).rangeAt HY.out) bB rfl bH) r ?_;refine tna 9 (.slice (some ⟨g,o,none⟩) n ca) rfl r ?_;refine tna 10 (.int .i64 k) rfl r ?_;refine tnb 11 (.pointer (some ⟨g,o+k*2,none⟩)) rfl r ?_;refine tnd 12 (.agg (aM x).toArray) rfl (yieldsIf_load_mid (by rfl) 82 (.tmp 23) rfl (g) (o+k*2) rfl (aM x) _ (fun A h=>(f.out A h).rangeAt HX.out) bB rfl bH) r ?_;refine wA9 13 ?_;go_wp2_with fail;refine(HC.out _).mono ?_;rintro e V ⟨rfl,hk⟩;have I:=C.out _ ((f.out _ r).trans hk);clear r hk;go_wp2_with fail;refine⟨I,?_⟩;refine tna 14 (.bool false) rfl I ?_;refine wpAnyH_done (by kernel_rfl) ?_ _;have u:=O (f.out _ I);clear I f C;have HR:=O (HR.keep u.out fun _ _=>id);have G:=O (G.trans u.out);have HX:=O (u.rangeAt HX.out);have HU:=O (HU.keep u.out fun _ _=>id);have J:=O (J.trans u.out);have HY:=O (u.rangeAt HY.out)
     have hne:decide (y=x)=false:=by
      have h:=hput;rw[HYE.out] at h;exact decide_eq_false fun e=>h (by rw[e])
     have HNE:Hid (∀A,Sem.run Tryz.prog (binOp .neq 82 (.agg (aM y).toArray) (.agg (aM x).toArray)) A=.ok (.bool true) A):=O (fun A=>by have:=Ci y x A;rwa [hne] at this);clear hne;go_wp2_with fail;obtain⟨S,F⟩:∃S:World->Prop,S=fun A=>aA aB V A:=⟨_,rfl⟩
     have f:=O (show ∀A,S A->aA aB V A from fun A h=>by rw[F] at h;exact h);have C:=O (show ∀A,aA aB V A->S A from fun A h=>by rw[F];exact h);have r:S V.drew:=by rw[F];exact(aA.refl _ _).drew
     clear F;refine wp_region_held (S:=S) (by kernel_rfl) ?_;change wpAnyH _ _ _ _ _ _ _ _ V.drew;generalize V.drew=Z at r ⊢;refine tka 0 (.int .i64 q) rfl r ?_;simp only[Act.put,List.setIfInBounds_toArray,List.set_cons_zero,List.set_cons_succ,List.getElem_toArray,List.getElem_cons_zero];refine tna 1 (.slice gu m pc) rfl r ?_;refine tnb 2 (.int .i64 m) rfl r ?_;refine tnb 3 (.bool false) rfl r ?_;refine tna 4 (.bool false) rfl r ?_;refine tna 5 (.slice gu m pc) rfl r ?_;refine tna 6 (.int .i64 q) rfl r ?_;refine tnb 7 (.pointer (some ⟨gu,0+q*2,none⟩)) rfl r ?_;refine tnd 8 (.agg (aM y).toArray) rfl (yieldsIf_load_mid (by rfl) 82 (.tmp 36) rfl (gu) (0+q*2) rfl (aM y) _ (fun A h=>(f.out A h).rangeAt HY.out) bB rfl bH) r ?_;refine tna 9 (.slice (some ⟨g,o,none⟩) n ca) rfl r ?_;refine tna 10 (.int .i64 k) rfl r ?_;refine tnb 11 (.pointer (some ⟨g,o+k*2,none⟩)) rfl r ?_;refine tnd 12 (.agg (aM x).toArray) rfl (yieldsIf_load_mid (by rfl) 82 (.tmp 40) rfl (g) (o+k*2) rfl (aM x) _ (fun A h=>(f.out A h).rangeAt HX.out) bB rfl bH) r ?_;refine tnd 13 (.bool true) rfl (gE (by rfl) 82 (.tmp 37) (.tmp 41) 82 rfl (aM y).toArray (aM x).toArray rfl rfl vQ HNE.out) r ?_;refine tna 14 (.bool true) rfl r ?_;refine wpAnyH_done (by kernel_rfl) ?_ _;have u:=O (f.out _ r);clear r f C;have HR:=O (HR.keep u.out fun _ _=>id);have G:=O (G.trans u.out);have HX:=O (u.rangeAt HX.out);have HU:=O (HU.keep u.out fun _ _=>id);have J:=O (J.trans u.out);have HY:=O (u.rangeAt HY.out);have HNX:Hid (U[q]?≠some x):=O hput;go_wp2_with fail;obtain⟨sv,hsv⟩:∃v,sliced (gu) q m pc 2=v:=⟨_,rfl⟩
     have HSV:Hid (∀A,(Instr.sliceAt 23 (.slice (gu) m pc) (some (.int .i64 q)) none none).run Tryz.prog A=.ok sv A):=O (fun A=>by rw[←hsv];exact tV Tryz.underlying23 _ m pc q (by omega) pJ A);have HTV:Hid (∀A,(Instr.sliceAt 23 (.slice (gu) m pc) none (some (.int .i64 q)) none).run Tryz.prog A=.ok (.slice (gu) q pc) A):=O (fun A=>yR Tryz.underlying23 _ m pc q (by omega) pJ A);have HR1:=O (HU.cut_to (k:=q) (by omega));have HR2:=O (HU.cut_from (k:=q) (by omega));rw[hsv] at HR2;have HC1:Hid ((aF U).take (q*2)=aF (U.take q)):=O (uF U q);have HC2:Hid ((aF U).drop (q*2)=aF (U.drop q)):=O (uG U q);obtain⟨sa,sc,rfl,-,-⟩:=HR2.form;clear hsv;have hwa:=G.size;have HLN:Hid (U[q]?≠some x->(mG x U).length=m+1):=O (fun h=>by rw[HINN.out h,List.length_append,List.length_cons,List.length_take,List.length_drop,HM.out];omega);obtain⟨S,F⟩:∃S:World->Prop,S=fun A=>aA aB Z A:=⟨_,rfl⟩
     have f:=O (show ∀A,S A->aA aB Z A from fun A h=>by rw[F] at h;exact h);have C:=O (show ∀A,aA aB Z A->S A from fun A h=>by rw[F];exact h);have r:S Z.drew:=by rw[F];exact(aA.refl _ _).drew
     clear F;refine wp_region_held (S:=S) (by kernel_rfl) ?_;change wpAnyH _ _ _ _ _ _ _ _ Z.drew;generalize Z.drew=w4 at r ⊢;have hsA:Z.heap.size≤Z.heap.size:=Nat.le_refl _;refine tna 1 (.slice gu m pc) rfl r ?_;refine tna 2 (.int .i64 q) rfl r ?_;refine tnd 3 (.slice (gu) q pc) rfl (jZ (by rfl) 23 (.tmp 45) none (some (.tmp 46)) none rfl (.slice (gu) m pc) none (some (.int .i64 q)) none rfl rfl rfl rfl HTV.out) r ?_;refine tna 5 (.slice (some ⟨g,o,none⟩) n ca) rfl r ?_;refine tna 6 (.int .i64 k) rfl r ?_;refine tnb 7 (.pointer (some ⟨g,o+k*2,none⟩)) rfl r ?_;refine tnd 8 (.agg (aM x).toArray) rfl (yieldsIf_load_mid (by rfl) 82 (.tmp 51) rfl (g) (o+k*2) rfl (aM x) _ (fun A h=>(f.out A h).rangeAt HX.out) bB rfl bH) r ?_;refine tna 11 (.slice gu m pc) rfl r ?_;refine tna 12 (.int .i64 q) rfl r ?_;refine tnd 13 (.slice sa (m-q) sc) rfl (jZ (by rfl) 23 (.tmp 55) (some (.tmp 56)) none none rfl (.slice (gu) m pc) (some (.int .i64 q)) none none rfl rfl rfl rfl HSV.out) r ?_;refine eK (k:=0) (l:=9) rfl rfl (by kernel_rfl) ?_ ?_
     ·have B:=(f.out _ r).size
      obtain⟨w5,K,hk,hb9,hs9⟩:=aS w4 #[] 82;have H0:Hid (w5.ownsRow Z.heap.size 82 2 (.slice (w4.heap.size) 0 0) 0 []):=O (by rw[←K];exact World.ownsRow_made w4 #[] 0 B (by unfold maxLen;omega) rfl);have hlt_w5:w4.heap.size<w5.heap.size:=by omega
      clear hb9 hs9 B;go_wp2_with fail
      try rw[K]
      clear K;have I:=C.out _ ((f.out _ r).trans hk);clear r hk;refine⟨I,?_⟩;refine eK (k:=4) (l:=9) rfl rfl (by kernel_rfl) ?_ ?_
      ·have B:=(f.out _ I).size
       refine aL rfl (.tmp 44) (.tmp 47) 23 rfl Z.heap.size 82 bT 2 16 Tryz.underlying23 cR rfl (by decide) (.slice (w4.heap.size) 0 0) 0 ([]) rfl H0.out (.slice (gu) q pc) q ((aF U).take (q*2)) rfl (HR1.keep (f.out _ I) fun _ _=>id) (by rw[HC1.out];exact cQ _) (by unfold maxLen;omega) (by omega) B ?_;intro v' w6 z E R Q;have H:aA aB Z w6:=(f.out _ I).trans' E (U:=aB) (fun _ _ h=>h) (fun i hi e=>by have:=aW H0.out e;omega);obtain⟨H1a,H1c,rfl,-,-⟩:=(Rd.of_owns z).form;rw[Nat.zero_add,List.nil_append,HC1.out] at z;have H1:Hid (w6.ownsRow Z.heap.size 82 2 (.slice H1a (q) H1c) (q) (aF (U.take q))):=O z;rw[Nat.zero_add];clear z E R Q B;have T:=C.out _ H;clear I H;go_wp2_with fail;refine⟨T,?_⟩;refine wA9 9 ?_;refine bL rfl 23 82 (.tmp 52) rfl Tryz.underlying23 cR (by decide) (aM x) rfl (by decide) rfl ?_
       obtain⟨w7,K,hk,HB⟩:∃w7,w6.alloc (.cells (aM x).toArray 82)=w7/\aA aB w6 w7/\Hid (Rd w7 2 (.slice (w6.heap.size) 1 1) 1 (aM x)):=
        ⟨_,rfl,(aA.refl _ _).alloc _,O (dE (n:=1) (size:=2) (heap_alloc_new _ _) rfl (by unfold maxLen;omega))⟩
       have hlt_w7:w6.heap.size<w7.heap.size:=by rw[←K,World.size_alloc];omega
       rw[K];clear K;have H1:=O (hk.owns H1.out fun _ _=>id);have W:=C.out _ ((f.out _ T).trans hk);clear T hk;go_wp2_with fail;refine⟨W,?_⟩;refine wA9 10 ?_;have B:=(f.out _ W).size;refine aL rfl (.tmp 48) (.tmp 53) 23 rfl Z.heap.size 82 bT 2 16 Tryz.underlying23 cR rfl (by decide) (.slice H1a (q) H1c) q (aF (U.take q)) rfl H1.out (.slice (w6.heap.size) 1 1) 1 (aM x) rfl HB.out (bG _) (by unfold maxLen;omega) (by omega) B ?_;intro v' w8 z E R Q;have H:aA aB Z w8:=(f.out _ W).trans' E (U:=aB) (fun _ _ h=>h) (fun i hi e=>by have:=aW H1.out e;omega);obtain⟨H2a,H2c,rfl,-,-⟩:=(Rd.of_owns z).form;rw[←fY,←bO] at z;have H2:Hid (w8.ownsRow Z.heap.size 82 2 (.slice H2a (q+1) H2c) (q+1) (aF (U.take q++[x]))):=O z
       skip
       clear z E R Q B;have P:=C.out _ H;clear W H;go_wp2_with fail;refine⟨P,?_⟩;refine wA9 14 ?_;have B:=(f.out _ P).size;refine aL rfl (.tmp 54) (.tmp 57) 23 rfl Z.heap.size 82 bT 2 16 Tryz.underlying23 cR rfl (by decide) (.slice H2a (q+1) H2c) (q+1) (aF (U.take q++[x])) rfl H2.out (.slice sa (m-q) sc) (m-q) ((aF U).drop (q*2)) rfl (HR2.keep (f.out _ P) fun _ _=>id) (by rw[HC2.out];exact cQ _) (by unfold maxLen;omega) (by omega) B ?_;intro v' w9 z E R Q;have H:aA aB Z w9:=(f.out _ P).trans' E (U:=aB) (fun _ _ h=>h) (fun i hi e=>by have:=aW H2.out e;omega);obtain⟨H3a,H3c,rfl,-,-⟩:=(Rd.of_owns z).form;rw[HC2.out,←bO,List.append_assoc,List.singleton_append,show q+1+(m-q)=m+1 by omega] at z;have H3:Hid (w9.ownsRow Z.heap.size 82 2 (.slice H3a (m+1) H3c) (m+1) (aF (U.take q++x::U.drop q))):=O z;rw[show q+1+(m-q)=m+1 by omega];clear z E R Q B;have X:=C.out _ H;clear P H;go_wp2_with fail;refine⟨X,?_⟩;refine tna 15 (.slice H3a (m+1) H3c) rfl X ?_;refine wpAnyH_done (by kernel_rfl) ?_ _;have u:=O (f.out _ X);clear X f C;have HR:=O (HR.keep u.out fun _ _=>id);have G:=O (G.trans u.out);have HX:=O (u.rangeAt HX.out);have HU:=O (HU.keep u.out fun _ _=>id);have J:=O (J.trans u.out);have HY:=O (u.rangeAt HY.out);have HTE:Hid (cY (xs.take (k+1))=U.take q++x::U.drop q):=O (by rw[HTX.out,HINN.out HNX.out]);have HLE:Hid ((U.take q++x::U.drop q).length=m+1):=O (by rw[←HINN.out HNX.out,HLN.out HNX.out]);go_wp2
       go_roundw
       case rel=>exact⟨k+1,m+1,_,_,by omega,by omega,by go_num,rfl,O (by rw[HTE.out];exact HLE.out),O (by rw[HTE.out];exact aQ H3.out hwa),G⟩
       case measure=>simp[intOf];omega
      ·refine bL rfl 23 82 (.tmp 52) rfl Tryz.underlying23 cR (by decide) (aM x) rfl (by decide) rfl ?_
       obtain⟨w6,K,hk,HB⟩:∃w7,w5.alloc (.cells (aM x).toArray 82)=w7/\aA aB w5 w7/\Hid (Rd w7 2 (.slice (w5.heap.size) 1 1) 1 (aM x)):=
        ⟨_,rfl,(aA.refl _ _).alloc _,O (dE (n:=1) (size:=2) (heap_alloc_new _ _) rfl (by unfold maxLen;omega))⟩
       have hlt_w6:w5.heap.size<w6.heap.size:=by rw[←K,World.size_alloc];omega
       rw[K];clear K;have H0:=O (hk.owns H0.out fun _ _=>id);have T:=C.out _ ((f.out _ I).trans hk);clear I hk;go_wp2_with fail;refine⟨T,?_⟩;refine wA9 4 ?_;have B:=(f.out _ T).size;refine aL rfl (.tmp 44) (.tmp 47) 23 rfl Z.heap.size 82 bT 2 16 Tryz.underlying23 cR rfl (by decide) (.slice (w4.heap.size) 0 0) 0 ([]) rfl H0.out (.slice (gu) q pc) q ((aF U).take (q*2)) rfl (HR1.keep (f.out _ T) fun _ _=>id) (by rw[HC1.out];exact cQ _) (by unfold maxLen;omega) (by omega) B ?_;intro v' w7 z E R Q;have H:aA aB Z w7:=(f.out _ T).trans' E (U:=aB) (fun _ _ h=>h) (fun i hi e=>by have:=aW H0.out e;omega);have HB:=O (HB.keep E (fun b hb e=>by have h1:w4.heap.size=b:=Option.some.inj e;have h2:w5.heap.size=b:=Option.some.inj hb;omega));obtain⟨H1a,H1c,rfl,-,-⟩:=(Rd.of_owns z).form;rw[Nat.zero_add,List.nil_append,HC1.out] at z;have H1:Hid (w7.ownsRow Z.heap.size 82 2 (.slice H1a (q) H1c) (q) (aF (U.take q))):=O z;rw[Nat.zero_add];clear z E R Q B;have W:=C.out _ H;clear T H;go_wp2_with fail;refine⟨W,?_⟩;refine wA9 10 ?_;have B:=(f.out _ W).size;refine aL rfl (.tmp 48) (.tmp 53) 23 rfl Z.heap.size 82 bT 2 16 Tryz.underlying23 cR rfl (by decide) (.slice H1a (q) H1c) q (aF (U.take q)) rfl H1.out (.slice (w5.heap.size) 1 1) 1 (aM x) rfl HB.out (bG _) (by unfold maxLen;omega) (by omega) B ?_;intro v' w8 z E R Q;have H:aA aB Z w8:=(f.out _ W).trans' E (U:=aB) (fun _ _ h=>h) (fun i hi e=>by have:=aW H1.out e;omega);obtain⟨H2a,H2c,rfl,-,-⟩:=(Rd.of_owns z).form;rw[←fY,←bO] at z;have H2:Hid (w8.ownsRow Z.heap.size 82 2 (.slice H2a (q+1) H2c) (q+1) (aF (U.take q++[x]))):=O z
       skip
       clear z E R Q B;have P:=C.out _ H;clear W H;go_wp2_with fail;refine⟨P,?_⟩;refine wA9 14 ?_;have B:=(f.out _ P).size;refine aL rfl (.tmp 54) (.tmp 57) 23 rfl Z.heap.size 82 bT 2 16 Tryz.underlying23 cR rfl (by decide) (.slice H2a (q+1) H2c) (q+1) (aF (U.take q++[x])) rfl H2.out (.slice sa (m-q) sc) (m-q) ((aF U).drop (q*2)) rfl (HR2.keep (f.out _ P) fun _ _=>id) (by rw[HC2.out];exact cQ _) (by unfold maxLen;omega) (by omega) B ?_;intro v' w9 z E R Q;have H:aA aB Z w9:=(f.out _ P).trans' E (U:=aB) (fun _ _ h=>h) (fun i hi e=>by have:=aW H2.out e;omega);obtain⟨H3a,H3c,rfl,-,-⟩:=(Rd.of_owns z).form;rw[HC2.out,←bO,List.append_assoc,List.singleton_append,show q+1+(m-q)=m+1 by omega] at z;have H3:Hid (w9.ownsRow Z.heap.size 82 2 (.slice H3a (m+1) H3c) (m+1) (aF (U.take q++x::U.drop q))):=O z;rw[show q+1+(m-q)=m+1 by omega];clear z E R Q B;have X:=C.out _ H;clear P H;go_wp2_with fail;refine⟨X,?_⟩;refine tna 15 (.slice H3a (m+1) H3c) rfl X ?_;refine wpAnyH_done (by kernel_rfl) ?_ _;have u:=O (f.out _ X);clear X f C;have HR:=O (HR.keep u.out fun _ _=>id);have G:=O (G.trans u.out);have HX:=O (u.rangeAt HX.out);have HU:=O (HU.keep u.out fun _ _=>id);have J:=O (J.trans u.out);have HY:=O (u.rangeAt HY.out);have HTE:Hid (cY (xs.take (k+1))=U.take q++x::U.drop q):=O (by rw[HTX.out,HINN.out HNX.out]);have HLE:Hid ((U.take q++x::U.drop q).length=m+1):=O (by rw[←HINN.out HNX.out,HLN.out HNX.out]);go_wp2
       go_roundw
       case rel=>exact⟨k+1,m+1,_,_,by omega,by omega,by go_num,rfl,O (by rw[HTE.out];exact HLE.out),O (by rw[HTE.out];exact aQ H3.out hwa),G⟩
       case measure=>simp[intOf];omega
     ·refine bL rfl 23 82 (.tmp 52) rfl Tryz.underlying23 cR (by decide) (aM x) rfl (by decide) rfl ?_
      obtain⟨w5,K,hk,HB⟩:∃w7,w4.alloc (.cells (aM x).toArray 82)=w7/\aA aB w4 w7/\Hid (Rd w7 2 (.slice (w4.heap.size) 1 1) 1 (aM x)):=
       ⟨_,rfl,(aA.refl _ _).alloc _,O (dE (n:=1) (size:=2) (heap_alloc_new _ _) rfl (by unfold maxLen;omega))⟩
      have hlt_w5:w4.heap.size<w5.heap.size:=by rw[←K,World.size_alloc];omega
      rw[K];clear K;have I:=C.out _ ((f.out _ r).trans hk);clear r hk;go_wp2_with fail;refine⟨I,?_⟩;refine wA9 0 ?_;have B:=(f.out _ I).size;obtain⟨w6,K,hk,hb9,hs9⟩:=aS w5 #[] 82;have H0:Hid (w6.ownsRow Z.heap.size 82 2 (.slice (w5.heap.size) 0 0) 0 []):=O (by rw[←K];exact World.ownsRow_made w5 #[] 0 B (by unfold maxLen;omega) rfl);have hlt_w6:w5.heap.size<w6.heap.size:=by omega
      have HB:=O (HB.keep hk fun _ _=>id);clear hb9 hs9 B;go_wp2_with fail
      try rw[K]
      clear K;have T:=C.out _ ((f.out _ I).trans hk);clear I hk;refine⟨T,?_⟩;refine wA9 4 ?_;have B:=(f.out _ T).size;refine aL rfl (.tmp 44) (.tmp 47) 23 rfl Z.heap.size 82 bT 2 16 Tryz.underlying23 cR rfl (by decide) (.slice (w5.heap.size) 0 0) 0 ([]) rfl H0.out (.slice (gu) q pc) q ((aF U).take (q*2)) rfl (HR1.keep (f.out _ T) fun _ _=>id) (by rw[HC1.out];exact cQ _) (by unfold maxLen;omega) (by omega) B ?_;intro v' w7 z E R Q;have H:aA aB Z w7:=(f.out _ T).trans' E (U:=aB) (fun _ _ h=>h) (fun i hi e=>by have:=aW H0.out e;omega);have HB:=O (HB.keep E (fun b hb e=>by have h1:w5.heap.size=b:=Option.some.inj e;have h2:w4.heap.size=b:=Option.some.inj hb;omega));obtain⟨H1a,H1c,rfl,-,-⟩:=(Rd.of_owns z).form;rw[Nat.zero_add,List.nil_append,HC1.out] at z;have H1:Hid (w7.ownsRow Z.heap.size 82 2 (.slice H1a (q) H1c) (q) (aF (U.take q))):=O z;rw[Nat.zero_add];clear z E R Q B;have W:=C.out _ H;clear T H;go_wp2_with fail;refine⟨W,?_⟩;refine wA9 10 ?_;have B:=(f.out _ W).size;refine aL rfl (.tmp 48) (.tmp 53) 23 rfl Z.heap.size 82 bT 2 16 Tryz.underlying23 cR rfl (by decide) (.slice H1a (q) H1c) q (aF (U.take q)) rfl H1.out (.slice (w4.heap.size) 1 1) 1 (aM x) rfl HB.out (bG _) (by unfold maxLen;omega) (by omega) B ?_;intro v' w8 z E R Q;have H:aA aB Z w8:=(f.out _ W).trans' E (U:=aB) (fun _ _ h=>h) (fun i hi e=>by have:=aW H1.out e;omega);obtain⟨H2a,H2c,rfl,-,-⟩:=(Rd.of_owns z).form;rw[←fY,←bO] at z;have H2:Hid (w8.ownsRow Z.heap.size 82 2 (.slice H2a (q+1) H2c) (q+1) (aF (U.take q++[x]))):=O z
      skip
      clear z E R Q B;have P:=C.out _ H;clear W H;go_wp2_with fail;refine⟨P,?_⟩;refine wA9 14 ?_;have B:=(f.out _ P).size;refine aL rfl (.tmp 54) (.tmp 57) 23 rfl Z.heap.size 82 bT 2 16 Tryz.underlying23 cR rfl (by decide) (.slice H2a (q+1) H2c) (q+1) (aF (U.take q++[x])) rfl H2.out (.slice sa (m-q) sc) (m-q) ((aF U).drop (q*2)) rfl (HR2.keep (f.out _ P) fun _ _=>id) (by rw[HC2.out];exact cQ _) (by unfold maxLen;omega) (by omega) B ?_;intro v' w9 z E R Q;have H:aA aB Z w9:=(f.out _ P).trans' E (U:=aB) (fun _ _ h=>h) (fun i hi e=>by have:=aW H2.out e;omega);obtain⟨H3a,H3c,rfl,-,-⟩:=(Rd.of_owns z).form;rw[HC2.out,←bO,List.append_assoc,List.singleton_append,show q+1+(m-q)=m+1 by omega] at z;have H3:Hid (w9.ownsRow Z.heap.size 82 2 (.slice H3a (m+1) H3c) (m+1) (aF (U.take q++x::U.drop q))):=O z;rw[show q+1+(m-q)=m+1 by omega];clear z E R Q B;have X:=C.out _ H;clear P H;go_wp2_with fail;refine⟨X,?_⟩;refine tna 15 (.slice H3a (m+1) H3c) rfl X ?_;refine wpAnyH_done (by kernel_rfl) ?_ _;have u:=O (f.out _ X);clear X f C;have HR:=O (HR.keep u.out fun _ _=>id);have G:=O (G.trans u.out);have HX:=O (u.rangeAt HX.out);have HU:=O (HU.keep u.out fun _ _=>id);have J:=O (J.trans u.out);have HY:=O (u.rangeAt HY.out);have HTE:Hid (cY (xs.take (k+1))=U.take q++x::U.drop q):=O (by rw[HTX.out,HINN.out HNX.out]);have HLE:Hid ((U.take q++x::U.drop q).length=m+1):=O (by rw[←HINN.out HNX.out,HLN.out HNX.out]);go_wp2
      go_roundw
      case rel=>exact⟨k+1,m+1,_,_,by omega,by omega,by go_num,rfl,O (by rw[HTE.out];exact HLE.out),O (by rw[HTE.out];exact aQ H3.out hwa),G⟩
      case measure=>simp[intOf];omega
  ·go_loopw [5] (fun j V=>∃q,q≤p/\j=.int .i64 q/\Hid (aA aB wo V)) (fun j _=>p-(intOf j).toNat)
   case atStart=>exact⟨0,Nat.zero_le _,rfl,O (aA.refl _ _)⟩
   case round =>
   obtain⟨q,hq,rfl,N⟩:=hrel;have J:=O (aA.refl aB wo)
   by_cases hlt2:q<p
   ·have HR:=O (HR.keep N.out fun _ _=>id)
    have G:=O (G.trans N.out);have HX:=O (N.rangeAt HX.out);have HU:=O (HU.keep N.out fun _ _=>id);have J:=O (J.trans N.out);obtain⟨y,hy,hyx⟩:=HLT.out q hlt2;obtain⟨gu,rfl,Y⟩:=pM HO.out HM.out hy;have HY:=O (N.rangeAt Y);have hC:=fun w=>uE y x w
    rw[hyx] at hC;have HC:=O hC;have hq0:(0:Int)≤(q:Int):=by omega
    have hqm:(q:Int)<(m:Int):=by omega
    have hqn:q<m:=by omega
    clear hy hyx Y hC;go_wp2_with fail;obtain⟨S,F⟩:∃S:World->Prop,S=fun A=>aA aB wr A:=⟨_,rfl⟩
    have f:=O (show ∀A,S A->aA aB wr A from fun A h=>by rw[F] at h;exact h);have C:=O (show ∀A,aA aB wr A->S A from fun A h=>by rw[F];exact h);have r:S wr.drew:=by rw[F];exact(aA.refl _ _).drew
    clear F;refine wp_region_held (S:=S) (by kernel_rfl) ?_;change wpAnyH _ _ _ _ _ _ _ _ wr.drew;generalize wr.drew=w1 at r ⊢;refine tka 0 (.int .i64 q) rfl r ?_;simp only[Act.put,List.setIfInBounds_toArray,List.set_cons_zero,List.set_cons_succ,List.getElem_toArray,List.getElem_cons_zero];refine tna 1 (.slice gu m pc) rfl r ?_;refine tnb 2 (.int .i64 m) rfl r ?_;refine tnb 3 (.bool true) rfl r ?_;refine tna 4 (.bool true) rfl r ?_;refine tna 5 (.slice gu m pc) rfl r ?_;refine tna 6 (.int .i64 q) rfl r ?_;refine tnb 7 (.pointer (some ⟨gu,0+q*2,none⟩)) rfl r ?_;refine tnd 8 (.agg (aM y).toArray) rfl (yieldsIf_load_mid (by rfl) 82 (.tmp 19) rfl (gu) (0+q*2) rfl (aM y) _ (fun A h=>(f.out A h).rangeAt HY.out) bB rfl bH) r ?_;refine tna 9 (.slice (some ⟨g,o,none⟩) n ca) rfl r ?_;refine tna 10 (.int .i64 k) rfl r ?_;refine tnb 11 (.pointer (some ⟨g,o+k*2,none⟩)) rfl r ?_;refine tnd 12 (.agg (aM x).toArray) rfl (yieldsIf_load_mid (by rfl) 82 (.tmp 23) rfl (g) (o+k*2) rfl (aM x) _ (fun A h=>(f.out A h).rangeAt HX.out) bB rfl bH) r ?_;refine wA9 13 ?_;go_wp2_with fail;refine(HC.out _).mono ?_;rintro e V ⟨rfl,hk⟩;have I:=C.out _ ((f.out _ r).trans hk);clear r hk;go_wp2_with fail;refine⟨I,?_⟩;refine tna 14 (.bool true) rfl I ?_;refine wpAnyH_done (by kernel_rfl) ?_ _;have u:=O (f.out _ I);clear I f C;have HR:=O (HR.keep u.out fun _ _=>id);have G:=O (G.trans u.out);have HX:=O (u.rangeAt HX.out);have HU:=O (HU.keep u.out fun _ _=>id);have J:=O (J.trans u.out);go_wp2
    go_roundw
    case rel=>exact⟨q+1,by omega,by go_num,J⟩
    case measure=>simp[intOf];omega
   ·obtain rfl:q=p:=by omega
    have HR:=O (HR.keep N.out fun _ _=>id);have G:=O (G.trans N.out);have HX:=O (N.rangeAt HX.out);have HU:=O (HU.keep N.out fun _ _=>id);have J:=O (J.trans N.out);have hq0:(0:Int)≤(q:Int):=by omega
    obtain rfl:q=m:=by omega
    have hqm:¬(q:Int)<(q:Int):=by omega
    go_wp2_with fail;obtain⟨S,F⟩:∃S:World->Prop,S=fun A=>aA aB wr A:=⟨_,rfl⟩
    have f:=O (show ∀A,S A->aA aB wr A from fun A h=>by rw[F] at h;exact h);have C:=O (show ∀A,aA aB wr A->S A from fun A h=>by rw[F];exact h);have r:S wr.drew:=by rw[F];exact(aA.refl _ _).drew
    clear F;refine wp_region_held (S:=S) (by kernel_rfl) ?_;change wpAnyH _ _ _ _ _ _ _ _ wr.drew;generalize wr.drew=w1 at r ⊢;refine tka 0 (.int .i64 q) rfl r ?_;simp only[Act.put,List.setIfInBounds_toArray,List.set_cons_zero,List.set_cons_succ,List.getElem_toArray,List.getElem_cons_zero];refine tna 1 (.slice pa q pc) rfl r ?_;refine tnb 2 (.int .i64 q) rfl r ?_;refine tnb 3 (.bool false) rfl r ?_;refine tna 4 (.bool false) rfl r ?_;refine tnc 5 undef rfl r ?_;refine tnc 6 undef rfl r ?_;refine tnc 7 undef rfl r ?_;refine tnc 8 undef rfl r ?_;refine tnc 9 undef rfl r ?_;refine tnc 10 undef rfl r ?_;refine tnc 11 undef rfl r ?_;refine tnc 12 undef rfl r ?_;refine tnc 13 undef rfl r ?_;refine tna 14 (.bool false) rfl r ?_;refine wpAnyH_done (by kernel_rfl) ?_ _;have u:=O (f.out _ r);clear r f C;have HR:=O (HR.keep u.out fun _ _=>id);have G:=O (G.trans u.out);have HX:=O (u.rangeAt HX.out);have HU:=O (HU.keep u.out fun _ _=>id);have J:=O (J.trans u.out);go_wp2_with fail;obtain⟨S,F⟩:∃S:World->Prop,S=fun A=>aA aB w1 A:=⟨_,rfl⟩
    have f:=O (show ∀A,S A->aA aB w1 A from fun A h=>by rw[F] at h;exact h);have C:=O (show ∀A,aA aB w1 A->S A from fun A h=>by rw[F];exact h);have r:S w1.drew:=by rw[F];exact(aA.refl _ _).drew
    clear F;refine wp_region_held (S:=S) (by kernel_rfl) ?_;change wpAnyH _ _ _ _ _ _ _ _ w1.drew;generalize w1.drew=V at r ⊢;refine tka 0 (.int .i64 q) rfl r ?_;simp only[Act.put,List.setIfInBounds_toArray,List.set_cons_zero,List.set_cons_succ,List.getElem_toArray,List.getElem_cons_zero];refine tna 1 (.slice pa q pc) rfl r ?_;refine tnb 2 (.int .i64 q) rfl r ?_;refine tnb 3 (.bool true) rfl r ?_;refine tna 4 (.bool true) rfl r ?_;refine tnc 5 undef rfl r ?_;refine tnc 6 undef rfl r ?_;refine tnc 7 undef rfl r ?_;refine tnc 8 undef rfl r ?_;refine tnc 9 undef rfl r ?_;refine tnc 10 undef rfl r ?_;refine tnc 11 undef rfl r ?_;refine tnc 12 undef rfl r ?_;refine tnc 13 undef rfl r ?_;refine tna 14 (.bool true) rfl r ?_;refine wpAnyH_done (by kernel_rfl) ?_ _;have u:=O (f.out _ r);clear r f C;have HR:=O (HR.keep u.out fun _ _=>id);have G:=O (G.trans u.out);have HX:=O (u.rangeAt HX.out);have HU:=O (HU.keep u.out fun _ _=>id);have J:=O (J.trans u.out);have HNX:Hid (U[q]?≠some x):=O (by rw[List.getElem?_eq_none (by rw[HM.out];omega)];simp);go_wp2_with fail;obtain⟨sv,hsv⟩:∃v,sliced (pa) q q pc 2=v:=⟨_,rfl⟩
    have HSV:Hid (∀A,(Instr.sliceAt 23 (.slice (pa) q pc) (some (.int .i64 q)) none none).run Tryz.prog A=.ok sv A):=O (fun A=>by rw[←hsv];exact tV Tryz.underlying23 _ q pc q (by omega) pJ A);have HTV:Hid (∀A,(Instr.sliceAt 23 (.slice (pa) q pc) none (some (.int .i64 q)) none).run Tryz.prog A=.ok (.slice (pa) q pc) A):=O (fun A=>yR Tryz.underlying23 _ q pc q (by omega) pJ A);have HR1:=O (HU.cut_to (k:=q) (by omega));have HR2:=O (HU.cut_from (k:=q) (by omega));rw[hsv] at HR2;have HC1:Hid ((aF U).take (q*2)=aF (U.take q)):=O (uF U q);have HC2:Hid ((aF U).drop (q*2)=aF (U.drop q)):=O (uG U q);obtain⟨sa,sc,rfl,-,-⟩:=HR2.form;clear hsv;rw[Nat.sub_self] at HR2 HSV;have hwa:=G.size;have HLN:Hid (U[q]?≠some x->(mG x U).length=q+1):=O (fun h=>by rw[HINN.out h,List.length_append,List.length_cons,List.length_take,List.length_drop,HM.out];omega);obtain⟨S,F⟩:∃S:World->Prop,S=fun A=>aA aB V A:=⟨_,rfl⟩
    have f:=O (show ∀A,S A->aA aB V A from fun A h=>by rw[F] at h;exact h);have C:=O (show ∀A,aA aB V A->S A from fun A h=>by rw[F];exact h);have r:S V.drew:=by rw[F];exact(aA.refl _ _).drew
    clear F;refine wp_region_held (S:=S) (by kernel_rfl) ?_;change wpAnyH _ _ _ _ _ _ _ _ V.drew;generalize V.drew=Z at r ⊢;have hsA:V.heap.size≤V.heap.size:=Nat.le_refl _;refine tna 1 (.slice pa q pc) rfl r ?_;refine tna 2 (.int .i64 q) rfl r ?_;refine tnd 3 (.slice (pa) q pc) rfl (jZ (by rfl) 23 (.tmp 45) none (some (.tmp 46)) none rfl (.slice (pa) q pc) none (some (.int .i64 q)) none rfl rfl rfl rfl HTV.out) r ?_;refine tna 5 (.slice (some ⟨g,o,none⟩) n ca) rfl r ?_;refine tna 6 (.int .i64 k) rfl r ?_;refine tnb 7 (.pointer (some ⟨g,o+k*2,none⟩)) rfl r ?_;refine tnd 8 (.agg (aM x).toArray) rfl (yieldsIf_load_mid (by rfl) 82 (.tmp 51) rfl (g) (o+k*2) rfl (aM x) _ (fun A h=>(f.out A h).rangeAt HX.out) bB rfl bH) r ?_;refine tna 11 (.slice pa q pc) rfl r ?_;refine tna 12 (.int .i64 q) rfl r ?_;refine tnd 13 (.slice sa 0 sc) rfl (jZ (by rfl) 23 (.tmp 55) (some (.tmp 56)) none none rfl (.slice (pa) q pc) (some (.int .i64 q)) none none rfl rfl rfl rfl HSV.out) r ?_;refine eK (k:=0) (l:=9) rfl rfl (by kernel_rfl) ?_ ?_
    ·have B:=(f.out _ r).size
     obtain⟨w4,K,hk,hb9,hs9⟩:=aS Z #[] 82;have H0:Hid (w4.ownsRow V.heap.size 82 2 (.slice (Z.heap.size) 0 0) 0 []):=O (by rw[←K];exact World.ownsRow_made Z #[] 0 B (by unfold maxLen;omega) rfl);have hlt_w4:Z.heap.size<w4.heap.size:=by omega
     clear hb9 hs9 B;go_wp2_with fail
     try rw[K]
     clear K;have I:=C.out _ ((f.out _ r).trans hk);clear r hk;refine⟨I,?_⟩;refine eK (k:=4) (l:=9) rfl rfl (by kernel_rfl) ?_ ?_
     ·have B:=(f.out _ I).size
      refine aL rfl (.tmp 44) (.tmp 47) 23 rfl V.heap.size 82 bT 2 16 Tryz.underlying23 cR rfl (by decide) (.slice (Z.heap.size) 0 0) 0 ([]) rfl H0.out (.slice (pa) q pc) q ((aF U).take (q*2)) rfl (HR1.keep (f.out _ I) fun _ _=>id) (by rw[HC1.out];exact cQ _) (by unfold maxLen;omega) (by omega) B ?_;intro v' w5 z E R Q;have H:aA aB V w5:=(f.out _ I).trans' E (U:=aB) (fun _ _ h=>h) (fun i hi e=>by have:=aW H0.out e;omega);obtain⟨H1a,H1c,rfl,-,-⟩:=(Rd.of_owns z).form;rw[Nat.zero_add,List.nil_append,HC1.out] at z;have H1:Hid (w5.ownsRow V.heap.size 82 2 (.slice H1a (q) H1c) (q) (aF (U.take q))):=O z;rw[Nat.zero_add];clear z E R Q B;have T:=C.out _ H;clear I H;go_wp2_with fail;refine⟨T,?_⟩;refine wA9 9 ?_;refine bL rfl 23 82 (.tmp 52) rfl Tryz.underlying23 cR (by decide) (aM x) rfl (by decide) rfl ?_
      obtain⟨w6,K,hk,HB⟩:∃w7,w5.alloc (.cells (aM x).toArray 82)=w7/\aA aB w5 w7/\Hid (Rd w7 2 (.slice (w5.heap.size) 1 1) 1 (aM x)):=
       ⟨_,rfl,(aA.refl _ _).alloc _,O (dE (n:=1) (size:=2) (heap_alloc_new _ _) rfl (by unfold maxLen;omega))⟩
      have hlt_w6:w5.heap.size<w6.heap.size:=by rw[←K,World.size_alloc];omega
      rw[K];clear K;have H1:=O (hk.owns H1.out fun _ _=>id);have W:=C.out _ ((f.out _ T).trans hk);clear T hk;go_wp2_with fail;refine⟨W,?_⟩;refine wA9 10 ?_;have B:=(f.out _ W).size;refine aL rfl (.tmp 48) (.tmp 53) 23 rfl V.heap.size 82 bT 2 16 Tryz.underlying23 cR rfl (by decide) (.slice H1a (q) H1c) q (aF (U.take q)) rfl H1.out (.slice (w5.heap.size) 1 1) 1 (aM x) rfl HB.out (bG _) (by unfold maxLen;omega) (by omega) B ?_;intro v' w7 z E R Q;have H:aA aB V w7:=(f.out _ W).trans' E (U:=aB) (fun _ _ h=>h) (fun i hi e=>by have:=aW H1.out e;omega);obtain⟨H2a,H2c,rfl,-,-⟩:=(Rd.of_owns z).form;rw[←fY,←bO] at z;have H2:Hid (w7.ownsRow V.heap.size 82 2 (.slice H2a (q+1) H2c) (q+1) (aF (U.take q++[x]))):=O z
      skip
      clear z E R Q B;have P:=C.out _ H;clear W H;go_wp2_with fail;refine⟨P,?_⟩;refine wA9 14 ?_;have B:=(f.out _ P).size;refine aL rfl (.tmp 54) (.tmp 57) 23 rfl V.heap.size 82 bT 2 16 Tryz.underlying23 cR rfl (by decide) (.slice H2a (q+1) H2c) (q+1) (aF (U.take q++[x])) rfl H2.out (.slice sa 0 sc) 0 ((aF U).drop (q*2)) rfl (HR2.keep (f.out _ P) fun _ _=>id) (by rw[HC2.out];exact cQ _) (by unfold maxLen;omega) (by omega) B ?_;intro v' w8 z E R Q;have H:aA aB V w8:=(f.out _ P).trans' E (U:=aB) (fun _ _ h=>h) (fun i hi e=>by have:=aW H2.out e;omega);obtain⟨H3a,H3c,rfl,-,-⟩:=(Rd.of_owns z).form;rw[HC2.out,←bO,List.append_assoc,List.singleton_append,show q+1+0=q+1 by omega] at z;have H3:Hid (w8.ownsRow V.heap.size 82 2 (.slice H3a (q+1) H3c) (q+1) (aF (U.take q++x::U.drop q))):=O z;rw[show q+1+0=q+1 by omega];clear z E R Q B;have X:=C.out _ H;clear P H;go_wp2_with fail;refine⟨X,?_⟩;refine tna 15 (.slice H3a (q+1) H3c) rfl X ?_;refine wpAnyH_done (by kernel_rfl) ?_ _;have u:=O (f.out _ X);clear X f C;have HR:=O (HR.keep u.out fun _ _=>id);have G:=O (G.trans u.out);have HX:=O (u.rangeAt HX.out);have HU:=O (HU.keep u.out fun _ _=>id);have J:=O (J.trans u.out);have HTE:Hid (cY (xs.take (k+1))=U.take q++x::U.drop q):=O (by rw[HTX.out,HINN.out HNX.out]);have HLE:Hid ((U.take q++x::U.drop q).length=q+1):=O (by rw[←HINN.out HNX.out,HLN.out HNX.out]);go_wp2
      go_roundw
      case rel=>exact⟨k+1,q+1,_,_,by omega,by omega,by go_num,rfl,O (by rw[HTE.out];exact HLE.out),O (by rw[HTE.out];exact aQ H3.out hwa),G⟩
      case measure=>simp[intOf];omega
     ·refine bL rfl 23 82 (.tmp 52) rfl Tryz.underlying23 cR (by decide) (aM x) rfl (by decide) rfl ?_
      obtain⟨w5,K,hk,HB⟩:∃w7,w4.alloc (.cells (aM x).toArray 82)=w7/\aA aB w4 w7/\Hid (Rd w7 2 (.slice (w4.heap.size) 1 1) 1 (aM x)):=
       ⟨_,rfl,(aA.refl _ _).alloc _,O (dE (n:=1) (size:=2) (heap_alloc_new _ _) rfl (by unfold maxLen;omega))⟩
      have hlt_w5:w4.heap.size<w5.heap.size:=by rw[←K,World.size_alloc];omega
      rw[K];clear K;have H0:=O (hk.owns H0.out fun _ _=>id);have T:=C.out _ ((f.out _ I).trans hk);clear I hk;go_wp2_with fail;refine⟨T,?_⟩;refine wA9 4 ?_;have B:=(f.out _ T).size;refine aL rfl (.tmp 44) (.tmp 47) 23 rfl V.heap.size 82 bT 2 16 Tryz.underlying23 cR rfl (by decide) (.slice (Z.heap.size) 0 0) 0 ([]) rfl H0.out (.slice (pa) q pc) q ((aF U).take (q*2)) rfl (HR1.keep (f.out _ T) fun _ _=>id) (by rw[HC1.out];exact cQ _) (by unfold maxLen;omega) (by omega) B ?_;intro v' w6 z E R Q;have H:aA aB V w6:=(f.out _ T).trans' E (U:=aB) (fun _ _ h=>h) (fun i hi e=>by have:=aW H0.out e;omega);have HB:=O (HB.keep E (fun b hb e=>by have h1:Z.heap.size=b:=Option.some.inj e;have h2:w4.heap.size=b:=Option.some.inj hb;omega));obtain⟨H1a,H1c,rfl,-,-⟩:=(Rd.of_owns z).form;rw[Nat.zero_add,List.nil_append,HC1.out] at z;have H1:Hid (w6.ownsRow V.heap.size 82 2 (.slice H1a (q) H1c) (q) (aF (U.take q))):=O z;rw[Nat.zero_add];clear z E R Q B;have W:=C.out _ H;clear T H;go_wp2_with fail;refine⟨W,?_⟩;refine wA9 10 ?_;have B:=(f.out _ W).size;refine aL rfl (.tmp 48) (.tmp 53) 23 rfl V.heap.size 82 bT 2 16 Tryz.underlying23 cR rfl (by decide) (.slice H1a (q) H1c) q (aF (U.take q)) rfl H1.out (.slice (w4.heap.size) 1 1) 1 (aM x) rfl HB.out (bG _) (by unfold maxLen;omega) (by omega) B ?_;intro v' w7 z E R Q;have H:aA aB V w7:=(f.out _ W).trans' E (U:=aB) (fun _ _ h=>h) (fun i hi e=>by have:=aW H1.out e;omega);obtain⟨H2a,H2c,rfl,-,-⟩:=(Rd.of_owns z).form;rw[←fY,←bO] at z;have H2:Hid (w7.ownsRow V.heap.size 82 2 (.slice H2a (q+1) H2c) (q+1) (aF (U.take q++[x]))):=O z
      skip
      clear z E R Q B;have P:=C.out _ H;clear W H;go_wp2_with fail;refine⟨P,?_⟩;refine wA9 14 ?_;have B:=(f.out _ P).size;refine aL rfl (.tmp 54) (.tmp 57) 23 rfl V.heap.size 82 bT 2 16 Tryz.underlying23 cR rfl (by decide) (.slice H2a (q+1) H2c) (q+1) (aF (U.take q++[x])) rfl H2.out (.slice sa 0 sc) 0 ((aF U).drop (q*2)) rfl (HR2.keep (f.out _ P) fun _ _=>id) (by rw[HC2.out];exact cQ _) (by unfold maxLen;omega) (by omega) B ?_;intro v' w8 z E R Q;have H:aA aB V w8:=(f.out _ P).trans' E (U:=aB) (fun _ _ h=>h) (fun i hi e=>by have:=aW H2.out e;omega);obtain⟨H3a,H3c,rfl,-,-⟩:=(Rd.of_owns z).form;rw[HC2.out,←bO,List.append_assoc,List.singleton_append,show q+1+0=q+1 by omega] at z;have H3:Hid (w8.ownsRow V.heap.size 82 2 (.slice H3a (q+1) H3c) (q+1) (aF (U.take q++x::U.drop q))):=O z;rw[show q+1+0=q+1 by omega];clear z E R Q B;have X:=C.out _ H;clear P H;go_wp2_with fail;refine⟨X,?_⟩;refine tna 15 (.slice H3a (q+1) H3c) rfl X ?_;refine wpAnyH_done (by kernel_rfl) ?_ _;have u:=O (f.out _ X);clear X f C;have HR:=O (HR.keep u.out fun _ _=>id);have G:=O (G.trans u.out);have HX:=O (u.rangeAt HX.out);have HU:=O (HU.keep u.out fun _ _=>id);have J:=O (J.trans u.out);have HTE:Hid (cY (xs.take (k+1))=U.take q++x::U.drop q):=O (by rw[HTX.out,HINN.out HNX.out]);have HLE:Hid ((U.take q++x::U.drop q).length=q+1):=O (by rw[←HINN.out HNX.out,HLN.out HNX.out]);go_wp2
      go_roundw
      case rel=>exact⟨k+1,q+1,_,_,by omega,by omega,by go_num,rfl,O (by rw[HTE.out];exact HLE.out),O (by rw[HTE.out];exact aQ H3.out hwa),G⟩
      case measure=>simp[intOf];omega
    ·refine bL rfl 23 82 (.tmp 52) rfl Tryz.underlying23 cR (by decide) (aM x) rfl (by decide) rfl ?_
     obtain⟨w4,K,hk,HB⟩:∃w7,Z.alloc (.cells (aM x).toArray 82)=w7/\aA aB Z w7/\Hid (Rd w7 2 (.slice (Z.heap.size) 1 1) 1 (aM x)):=
      ⟨_,rfl,(aA.refl _ _).alloc _,O (dE (n:=1) (size:=2) (heap_alloc_new _ _) rfl (by unfold maxLen;omega))⟩
     have hlt_w4:Z.heap.size<w4.heap.size:=by rw[←K,World.size_alloc];omega
     rw[K];clear K;have I:=C.out _ ((f.out _ r).trans hk);clear r hk;go_wp2_with fail;refine⟨I,?_⟩;refine wA9 0 ?_;have B:=(f.out _ I).size;obtain⟨w5,K,hk,hb9,hs9⟩:=aS w4 #[] 82;have H0:Hid (w5.ownsRow V.heap.size 82 2 (.slice (w4.heap.size) 0 0) 0 []):=O (by rw[←K];exact World.ownsRow_made w4 #[] 0 B (by unfold maxLen;omega) rfl);have hlt_w5:w4.heap.size<w5.heap.size:=by omega
     have HB:=O (HB.keep hk fun _ _=>id);clear hb9 hs9 B;go_wp2_with fail
     try rw[K]
     clear K;have T:=C.out _ ((f.out _ I).trans hk);clear I hk;refine⟨T,?_⟩;refine wA9 4 ?_;have B:=(f.out _ T).size;refine aL rfl (.tmp 44) (.tmp 47) 23 rfl V.heap.size 82 bT 2 16 Tryz.underlying23 cR rfl (by decide) (.slice (w4.heap.size) 0 0) 0 ([]) rfl H0.out (.slice (pa) q pc) q ((aF U).take (q*2)) rfl (HR1.keep (f.out _ T) fun _ _=>id) (by rw[HC1.out];exact cQ _) (by unfold maxLen;omega) (by omega) B ?_;intro v' w6 z E R Q;have H:aA aB V w6:=(f.out _ T).trans' E (U:=aB) (fun _ _ h=>h) (fun i hi e=>by have:=aW H0.out e;omega);have HB:=O (HB.keep E (fun b hb e=>by have h1:w4.heap.size=b:=Option.some.inj e;have h2:Z.heap.size=b:=Option.some.inj hb;omega));obtain⟨H1a,H1c,rfl,-,-⟩:=(Rd.of_owns z).form;rw[Nat.zero_add,List.nil_append,HC1.out] at z;have H1:Hid (w6.ownsRow V.heap.size 82 2 (.slice H1a (q) H1c) (q) (aF (U.take q))):=O z;rw[Nat.zero_add];clear z E R Q B;have W:=C.out _ H;clear T H;go_wp2_with fail;refine⟨W,?_⟩;refine wA9 10 ?_;have B:=(f.out _ W).size;refine aL rfl (.tmp 48) (.tmp 53) 23 rfl V.heap.size 82 bT 2 16 Tryz.underlying23 cR rfl (by decide) (.slice H1a (q) H1c) q (aF (U.take q)) rfl H1.out (.slice (Z.heap.size) 1 1) 1 (aM x) rfl HB.out (bG _) (by unfold maxLen;omega) (by omega) B ?_;intro v' w7 z E R Q;have H:aA aB V w7:=(f.out _ W).trans' E (U:=aB) (fun _ _ h=>h) (fun i hi e=>by have:=aW H1.out e;omega);obtain⟨H2a,H2c,rfl,-,-⟩:=(Rd.of_owns z).form;rw[←fY,←bO] at z;have H2:Hid (w7.ownsRow V.heap.size 82 2 (.slice H2a (q+1) H2c) (q+1) (aF (U.take q++[x]))):=O z
     skip
     clear z E R Q B;have P:=C.out _ H;clear W H;go_wp2_with fail;refine⟨P,?_⟩;refine wA9 14 ?_;have B:=(f.out _ P).size;refine aL rfl (.tmp 54) (.tmp 57) 23 rfl V.heap.size 82 bT 2 16 Tryz.underlying23 cR rfl (by decide) (.slice H2a (q+1) H2c) (q+1) (aF (U.take q++[x])) rfl H2.out (.slice sa 0 sc) 0 ((aF U).drop (q*2)) rfl (HR2.keep (f.out _ P) fun _ _=>id) (by rw[HC2.out];exact cQ _) (by unfold maxLen;omega) (by omega) B ?_;intro v' w8 z E R Q;have H:aA aB V w8:=(f.out _ P).trans' E (U:=aB) (fun _ _ h=>h) (fun i hi e=>by have:=aW H2.out e;omega);obtain⟨H3a,H3c,rfl,-,-⟩:=(Rd.of_owns z).form;rw[HC2.out,←bO,List.append_assoc,List.singleton_append,show q+1+0=q+1 by omega] at z;have H3:Hid (w8.ownsRow V.heap.size 82 2 (.slice H3a (q+1) H3c) (q+1) (aF (U.take q++x::U.drop q))):=O z;rw[show q+1+0=q+1 by omega];clear z E R Q B;have X:=C.out _ H;clear P H;go_wp2_with fail;refine⟨X,?_⟩;refine tna 15 (.slice H3a (q+1) H3c) rfl X ?_;refine wpAnyH_done (by kernel_rfl) ?_ _;have u:=O (f.out _ X);clear X f C;have HR:=O (HR.keep u.out fun _ _=>id);have G:=O (G.trans u.out);have HX:=O (u.rangeAt HX.out);have HU:=O (HU.keep u.out fun _ _=>id);have J:=O (J.trans u.out);have HTE:Hid (cY (xs.take (k+1))=U.take q++x::U.drop q):=O (by rw[HTX.out,HINN.out HNX.out]);have HLE:Hid ((U.take q++x::U.drop q).length=q+1):=O (by rw[←HINN.out HNX.out,HLN.out HNX.out]);go_wp2
     go_roundw
     case rel=>exact⟨k+1,q+1,_,_,by omega,by omega,by go_num,rfl,O (by rw[HTE.out];exact HLE.out),O (by rw[HTE.out];exact aQ H3.out hwa),G⟩
     case measure=>simp[intOf];omega
 ·obtain rfl:k=n:=by omega
  have htk:xs.take k=xs:=List.take_of_length_le (by rw[HN.out];exact Nat.le_refl _);rw[htk] at HM HO;go_wp2;go_ret;exact⟨_,rfl,by rw[HM.out];exact HO.out,HKA.out⟩
theorem yX(w:World)(va Y:Value)(r ys:List Ad)(z:Rd w 2 va r.length (aF r))(hy:Rd w 2 Y ys.length (aF ys))(bb:Bool)(he:decide (r=ys)=bb) :
 Calls Tryz.prog 10 #[va,Y] w fun e f=>e=.returned (.bool bb)/\aA aB w f:=by
 obtain⟨oa,ca,rfl,hla,hma⟩:=z.form;obtain⟨ob,cb,rfl,hlb,hmb⟩:=hy.form;have U:r.length≤maxLen:=by omega
 unfold maxLen at U;have HE:=O he;have K:=O z;have N:=O hy;obtain⟨n,hn⟩:∃n,r.length=n:=⟨_,rfl⟩
 obtain⟨m,hm⟩:∃m,ys.length=m:=⟨_,rfl⟩
 have HN:=O hn;have Z:=O hm;rw[hn] at K U;rw[hm] at N;rw[hn,hm];clear z hy he hla hma hlb hmb hn hm
 by_cases V:n=m
 ·subst V
  go_in;go_wp2_with fail
  go_loopw [5] (fun i wr=>∃k:Nat,k≤n/\i=.int .i64 k/\Hid (r.take k=ys.take k)/\Hid (aA aB w wr)) (fun i _=>n-(intOf i).toNat)
  case atStart=>exact⟨0,Nat.zero_le _,rfl,O rfl,O (aA.refl _ _)⟩
  case round =>
  obtain⟨k,hk,rfl,HT,HK⟩:=hrel
  by_cases T:k<n
  ·obtain⟨x,z⟩:∃x,r[k]?=some x:=⟨r[k]'(by rw[HN.out];exact T),List.getElem?_eq_getElem _⟩
   obtain⟨y,hy⟩:∃y,ys[k]?=some y:=⟨ys[k]'(by rw[Z.out];exact T),List.getElem?_eq_getElem _⟩
   obtain⟨S,p⟩:∃S:World->Prop,S=fun f=>aA aB w f:=⟨_,rfl⟩
   have t:=K.out;have u:=N.out;rw[←HN.out] at t;rw[←Z.out] at u;obtain⟨g,o,cap,hv,-⟩:=fO t z;obtain⟨Q,X,cap2,W,-⟩:=fO u hy;have e1:oa=some ⟨g,o,none⟩:=by cases hv;rfl
   have e2:ob=some ⟨Q,X,none⟩:=by cases W;rfl
   subst e1 e2;obtain⟨C,A⟩:∃C,aM x=C:=⟨_,rfl⟩
   obtain⟨E,B⟩:∃E,aM y=E:=⟨_,rfl⟩
   have HSX:=O (show ∀f,S f->f.rangeAt g (o+k*2) C from fun f h=>by
    rw[p] at h;obtain⟨g',o',c',H,G⟩:=fO (t.keep h fun _ _=>id) z;cases H
    rw[←A];exact G)
   have HSY:=O (show ∀f,S f->f.rangeAt Q (X+k*2) E from fun f h=>by
    rw[p] at h;obtain⟨g',o',c',H,G⟩:=fO (u.keep h fun _ _=>id) hy;cases H
    rw[←B];exact G)
   have HX:Hid ((Tryz.prog.info? 82).map (·.size)=some C.length):=O (by rw[←A];exact bH);have HY:Hid ((Tryz.prog.info? 82).map (·.size)=some E.length):=O (by rw[←B];exact bH);obtain⟨P,F⟩:∃P,(!decide (x=y))=P:=⟨_,rfl⟩
   have HNE:Hid (∀f,Sem.run Tryz.prog (binOp .neq 82 (.agg C.toArray) (.agg E.toArray)) f=.ok (.bool P) f):=O (fun f=>by rw[←A,←B,←F];exact Ci x y f);have I:=O F;have HSE:=O (show ∀f,S f->aA aB w f from fun f h=>by rw[p] at h;exact h);have j:S wr.drew:=by rw[p];exact HK.drew
   have HTX:Hid (r.take (k+1)=r.take k++[x]):=O (by rw[List.take_add_one,z];rfl);have HTY:Hid (ys.take (k+1)=ys.take k++[y]):=O (by rw[List.take_add_one,hy];rfl);have HXE:=O z;have HYE:=O hy;have hki:(k:Int)<(n:Int):=by omega
   have hk0:(0:Int)≤(k:Int):=by omega
   clear z hy p t u hv W A B F HK;go_wp2_with fail;refine wp_region_held (S:=S) (by kernel_rfl) ?_;change wpAnyH _ _ _ _ _ _ _ _ wr.drew;generalize wr.drew=w6 at *;refine tka 0 (.slice (some ⟨g,o,none⟩) n ca) rfl j ?_;simp only[Act.put,List.setIfInBounds_toArray,List.set_cons_zero,List.set_cons_succ,List.getElem_toArray,List.getElem_cons_zero];refine tna 1 (.int .i64 k) rfl j ?_;refine tkd 2 (.pointer (some ⟨g,o+k*2,none⟩)) rfl (.inl ⟨by rfl,fun _ _=>?_⟩) j ?_
   ·go_simp
   refine nrm ?_;refine tnd 3 (.agg C.toArray) rfl (yieldsIf_load_mid (by rfl) 82 (.tmp 19) rfl g (o+k*2) rfl C _ HSX.out bB rfl HX.out) j ?_;refine tna 4 (.slice (some ⟨Q,X,none⟩) n cb) rfl j ?_;refine tna 5 (.int .i64 k) rfl j ?_;refine tkd 6 (.pointer (some ⟨Q,X+k*2,none⟩)) rfl (.inl ⟨by rfl,fun _ _=>?_⟩) j ?_
   ·go_simp
   refine nrm ?_;refine tnd 7 (.agg E.toArray) rfl (yieldsIf_load_mid (by rfl) 82 (.tmp 23) rfl Q (X+k*2) rfl E _ HSY.out bB rfl HY.out) j ?_;refine tnd 8 (.bool P) rfl (gE (by rfl) 82 (.tmp 20) (.tmp 24) 82 rfl C.toArray E.toArray rfl rfl vQ HNE.out) j ?_;refine wpAnyH_done (by kernel_rfl) ?_ _;have J:=O (HSE.out _ j);clear j;cases P
   ·have q:x=y:=by have:=I.out;simpa using this
    have HTE:Hid (r.take (k+1)=ys.take (k+1)):=O (by rw[HTX.out,HTY.out,HT.out,q]);clear q;go_wp2
    go_roundw
    case rel=>exact⟨k+1,by omega,by go_num,HTE,J⟩
    case measure=>simp[intOf];omega
   ·have q:x≠y:=by have:=I.out;simpa using this
    have R:bb=false:=by
     rw[←HE.out];refine decide_eq_false fun e=>q ?_
     have h1:=HXE.out;rw[e,HYE.out] at h1;exact(Option.some.inj h1).symm
    subst R;clear q;go_wp2;go_ret;exact⟨rfl,J.out⟩
  ·obtain rfl:k=n:=by omega
   have R:bb=true:=by
    rw[←HE.out];have:=HT.out;rw[List.take_of_length_le (by rw[HN.out];exact Nat.le_refl _),List.take_of_length_le (by rw[Z.out];exact Nat.le_refl _)] at this;exact decide_eq_true this
   subst R;go_wp2;go_ret;exact⟨rfl,HK.out⟩
 ·have R:bb=false:=by
   rw[←HE.out];refine decide_eq_false fun e=>V ?_
   rw[←HN.out,←Z.out,e]
  subst R;have hni:¬(n:Int)=(m:Int):=by omega
  go_in;go_wp2;go_ret;exact⟨rfl,aA.refl _ _⟩
def LT(n:Nat)(e:Option Addr)(w:World):Prop:=0<n->∃g cur,e=some ⟨g,0,none⟩/\w.heap[g]?=some (.cells cur 82 (0,0))/\n*2≤cur.size
theorem Io{n:Nat}{o:List Value}(h:w.ownsRow base 82 2 (.slice a n c) n o)(r:0<n):∃g cur,a=some ⟨g,0,none⟩/\w.heap[g]?=some (.cells cur 82 (0,0))/\n*2≤cur.size:=by
 rcases h.2 with⟨e,-⟩|⟨g,f,cur,e,-,m,i,q,j,-⟩
 ·cases e;omega
 ·injection e with e _ p
  refine⟨g,cur,e,m,?_⟩;rw[j];exact Nat.mul_le_mul_right 2 i
theorem F8(w:World)(base n:Nat)(v:Value)(V:List Value)(r:w.ownsRow base 82 2 v n V):Calls Tryz.prog 12 #[v] w fun e R=>e=.returned (.tuple #[])/\aA (fun j=>v.ownBlock=some j) w R:=by
 have F:=Rd.of_owns r;obtain⟨G,B,rfl,z,o⟩:=F.form;unfold maxLen at o;have E:n≤9223372036854775807:=by omega
 have W:=O r;have J:=O (fun(h:0<n)=>Io r h);clear r F z o;go_in;go_wp2_with fail
 go_loopw [2] (fun i wr=>∃k:Nat,k≤n/\i=.int .i64 k/\Hid (LT n G wr)/\Hid (aA (fun j=>(Value.slice G n B).ownBlock=some j) w wr)) (fun i _=>n-(intOf i).toNat)
 case atStart=>exact⟨0,Nat.zero_le _,rfl,O J.out,O (aA.refl _ _)⟩
 case round =>
 obtain⟨k,Y,rfl,I,f⟩:=hrel
 by_cases Q:k<n
 ·obtain⟨g,cur,rfl,C,A⟩:=I.out (by omega)
  have H:=O C;have P:(k:Int)<(n:Int):=by omega
  have N:(0:Int)≤(k:Int):=by omega
  have p:k*2+2≤cur.size:=by omega
  have K:=E5 (-7) (-7);clear C
  go_wp2_with (first
   | ((with_reducible show WL none (.store 82 (.tmp 12) (.tmp 11)));refine aR rfl 82 (.tmp 12) (.tmp 11) rfl g (k*2) (aM ⟨-7,-7⟩) rfl rfl cur 82 H.out p bH (bG _) ?_
      intro T m q;have t:Hid (LT n g T):=O (fun _=>⟨g,_,rfl,m,by rw[eU];exact A⟩);have u:=O (f.trans' q (U:=fun j=>(Value.slice g n B).ownBlock=some j) (fun _ _ h=>h) (fun i X e=>by rw[e];rfl));clear m q))
  go_roundw
  case rel=>exact⟨k+1,by omega,by go_num,t,u⟩
  case measure=>simp[intOf];omega
 ·obtain rfl:k=n:=by omega
  go_wp2_with fail
  go_end0
  exact⟨rfl,f.out⟩
theorem M6(w:World):(zeroValue 125).run Tryz.prog w=.ok (.agg #[]) w:=by kernel_rfl
theorem cS.lt(h:cS eL adV eX w b l):b<w.heap.size:=by
 obtain⟨f,clock,e,-⟩:=h;exact lt_of_block e
theorem EL(h:cS eL adV eX w b l):(cJ l).Nodup:=by
 obtain⟨f,clock,g,e⟩:=h;exact e.2.2.2.1
def Lv(w:World)(d:Nat)(f lst:List (Ad×Nix))(e:Ending)(w':World):Prop:=e=.returned (.tuple #[])/\∃s,cS eL adV eX w' d s/\(∀q,q∈cJ s↔q∈cJ f\/q∈cJ lst)/\aA (fun k=>k=d) w w'
theorem Lx(w:World)(d b:Nat)(j lst:List (Ad×Nix))(hd:cS eL adV eX w d j)(hm:cS eL adV eX w b lst)(hdl:d<w.heap.size)(hdb:d≠b) :
 Calls Tryz.prog 181 #[.map (some d),.map (some b)] w (Lv w d j lst):=by
 have HM:=O hm;have HD:=O hd;clear hm hd;go_in
 go_wp2_with (first
  | ((with_reducible show WL _ (.range _ _));refine zZ rfl (.tmp 6) 122 rfl Tryz.underlying122 rfl HM.out ?_
     intro w1 K t hs1;have HI:=O K;have HK1:=O t;have X:=O (HD.keep t id);have hs1':w.heap.size<w1.heap.size:=by omega
     clear K t hs1))
 go_frame
 go_loopw [9] (fun _ wr=>∃(left cur:List (Ad×Nix)) (g:List Ad),Hid (dS eL adV eX wr b w.heap.size lst left)/\Hid (cS eL adV eX wr d cur)/\Hid ((g++cJ left).Perm (cJ lst))/\Hid (∀q,q∈cJ cur↔q∈cJ j\/q∈g)/\Hid (aA (fun k=>k=d) w wr)) (fun _ wr=>wr.rangeLeft b w.heap.size)
 case atStart=>exact⟨lst,j,[],HI,X,O (by simp),O (fun q=>by simp),O (HK1.any)⟩
 case round =>
 obtain⟨left,cur,g,E,C,HP,HQ,o⟩:=hrel;have B:=O E.count;have hsr:=o.size;have hdw:d<w.heap.size:=hdl;have hne:d≠b:=hdb
 go_wp2_with (first
  | ((with_reducible show WL _ (.next _ _));refine AT rfl (.tmp 7) rfl rfl E.out ?_ ?_))
 ·intro hl
  go_wp2_with fail
  go_end0
  subst hl;exact⟨rfl,cur,C.out,fun q=>by rw[HQ.out q,←HP.mem_iff];simp[cJ],o.out⟩
 ·intro i x v A z V N m hs2 J
  have T:(cJ left).Perm (x::cJ (left.eraseIdx i)):=by have:=(oH z).map (fun p:Ad×Nix=>p.1);exact this
  have HP2:Hid (((g++[x])++cJ (left.eraseIdx i)).Perm (cJ lst)):=O (by
   refine List.Perm.trans ?_ HP.out;rw[List.append_assoc,List.singleton_append];exact(T.append_left g).symm)
  have P:aA (fun k=>k=d) w A:=o.trans' m (fun _ _ h=>h) (fun i hi e=>by omega);have HI3:=O N;have HE3:=O J;have G:=O P;have HXO:=O V;have Y:=O (C.keep m (by omega));have I:=O (List.getElem?_eq_some_iff.1 z).1;have hs2':wr.heap.size≤A.heap.size:=m.size;have hu:∀x:Nix,eX x=.agg #[]:=fun _=>rfl
  have HU:=O hu;clear z V N m hs2 J T P hu;unfold adV;rw[HU.out]
  go_wp2_with (first
   | ((with_reducible show WL _ (.entry _));refine Aa rfl (.tmp 7) rfl rfl HE3.out ?_;show wpList _ _ _ _ (Act.put _ _ (Value.tuple #[.agg (aM x).toArray,.agg #[]])) _)
   | ((with_reducible show WL (some 4) (.alloc 82));refine aV rfl 82 rfl bT eH #[.int .i64 0,.int .i64 0] rfl ?_)
   | ((with_reducible show WL (some 5) (.alloc 125));refine aV rfl 125 rfl (.agg #[]) M6 #[] rfl ?_)
   | ((with_reducible show WL none (.store 82 (.tmp 4) (.tmp 11)));refine aR rfl 82 (.tmp 4) (.tmp 11) rfl A.heap.size 0 (aM x) rfl rfl #[.int .i64 0,.int .i64 0] 82 (heap_alloc2_old _ _ _) (Nat.le_refl _) bH (bG _) ?_
      intro w3 r u;rw[aK _ _ (by rfl)] at r;have f:aA aB A w3:=(((aA.refl aB A).alloc _).alloc _).trans' u (fun _ _ h=>h) (fun i hi e=>by omega);have R:=u.blk (heap_alloc2_new A (.cells #[.int .i64 0,.int .i64 0] 82) (.cells #[] 125)) (by omega);have W:=O r;have HN3:=O R;have n:=O f;have hs4:=f.size;clear r u f R)
   | ((with_reducible show WL _ (.load 82 (.tmp 4)));refine wpList_load_mid rfl 82 (.tmp 4) rfl A.heap.size 0 rfl (aM x) _ (aD W.out) bB rfl bH ?_)
   | ((with_reducible show WL none (.mapUpdate 122 (.tmp 13) (.tmp 14) (.tmp 15)));refine mA rfl rfl (.tmp 13) (.tmp 14) (.tmp 15) 122 rfl LS Tryz.underlying122 x HXO.out Nix.nix rfl rfl rfl (Y.keep n.out id) ?_
      intro w4 Q f;have Z:=O Q;have F:=O ((HI3.keep n.out id id).keep f (fun e=>hne e.symm) (by omega));have H:=O ((G.trans' n.out (U:=fun k=>k=d) (fun _ _ h=>h) (fun _ _ h=>h.elim)).trans' f (U:=fun k=>k=d) (fun _ _ h=>h) (fun _ _ h=>h));clear Q f))
  have HQ3:Hid (∀q,q∈cJ (eD cur x Nix.nix)↔q∈cJ j\/q∈g++[x]):=O (fun q=>by
   rw[qG,HQ.out q,List.mem_append,List.mem_singleton,or_assoc])
  go_roundw
  case rel=>exact⟨_,_,_,F,Z,HP2,HQ3,H⟩
  case measure=>rw[F.count,B.out,List.length_eraseIdx_of_lt I.out];have:=I.out;omega
theorem JF(w:World)(v vb:Value)(g ys:List Ad)(ho:iA g)(hoy:iA ys)(V:Rd w 2 v g.length (aF g))(t:Rd w 2 vb ys.length (aF ys))(hl:g.length+ys.length≤65536):Calls Tryz.prog 122 #[v,vb] w (gU w (cY (g++ys))):=by
 have HO:=O (fun w v (h:Rd w 2 v g.length (aF g))=>CA w v g ho h);obtain⟨U,hU⟩:∃U,cY (g++ys)=U:=⟨_,rfl⟩
 have HUE:=O hU;rw[hU];clear hU;have HOB:=O (fun w v (h:Rd w 2 v ys.length (aF ys))=>CA w v ys hoy h);obtain⟨oa,ca,rfl,-,E⟩:=V.form;have r:g.length≤maxLen:=by have h:=V.2;obtain⟨a',N,h1,h2,h3,-⟩:=h;omega
 unfold maxLen at r;clear E;have HR:=O V;obtain⟨n,o⟩:∃n,g.length=n:=⟨_,rfl⟩
 have HN:=O o;rw[o] at HR r
 try rw[o]
 clear V o;obtain⟨ob,cb,rfl,-,E⟩:=t.form;have p:ys.length≤maxLen:=by have h:=t.2;obtain⟨a',N,h1,h2,h3,-⟩:=h;omega
 unfold maxLen at p;clear E;have J:=O t;obtain⟨m,j⟩:∃n,ys.length=n:=⟨_,rfl⟩
 have HMN:=O j;rw[j] at J p
 try rw[j]
 clear t j;have hbnd:g.length+ys.length≤65536:=by exact hl
 go_in;go_wp2_with fail;refine(HO.out w _ (by rw[HN.out];exact HR.out)).mono ?_;rintro e w1 ⟨b1,rfl,B,hb1,A⟩;have hl1:=B.lt;have z:=O B;have W:=O A;have K:=O (J.keep A fun _ _=>id);clear B A;go_wp2_with fail;refine(HOB.out w1 _ (by rw[HMN.out];exact K.out)).mono ?_;rintro e w2 ⟨b2,rfl,C,hb2,f⟩;have hl2:=C.lt;have hs2:=f.size;have Z:=O C;have z:=O (z.keep f id);have X:=O (W.trans f);clear C f;go_wp2_with fail;refine(Lx w2 b1 b2 (fG g) (fG ys) z.out Z.out (by omega) (by omega)).mono ?_;rintro e w4 ⟨rfl,s,R,T,Q⟩;have I:=O R;have HQ:Hid (∀q,q∈cJ s↔q∈g++ys):=O (fun q=>by rw[T q,(oQ g).2 q,(oQ ys).2 q,List.mem_append]);have H:=O (X.trans' Q (U:=aB) (fun _ _ h=>h) (fun i hi e=>by omega));clear R T Q;go_wp2_with fail;have F:=EL I.out;have P:=(yU F HQ.out).trans HUE.out
 have u:s.length≤65536:=by
  have h1:(gN (cJ s)).length=s.length:=by rw[uA];exact List.length_map _
  rw[←h1,yU F HQ.out];exact Nat.le_trans (Ba _) (by simp only[List.length_append];omega)
 have L:=CB w4 b1 s I.out u;rw[P] at L;have L:=O L;have hsz:=H.size;clear F P u;go_wp2_with fail;refine L.out.mono ?_;rintro e wf ⟨v,rfl,G,f⟩;obtain⟨va,vc,rfl,-,-⟩:=(Rd.of_owns G).form;have HOF:=O (aQ G hsz);have Y:=O (H.trans f);clear G f;go_wp2;go_ret;exact⟨_,rfl,HOF.out,Y.out⟩
end
end Go.Proofs.YtiinnfhjpaeffaaGreat
