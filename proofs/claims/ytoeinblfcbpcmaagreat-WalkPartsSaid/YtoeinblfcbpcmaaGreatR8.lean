import Derived.Test.YtoeinblfcbpcmaaGreatR7
import Derived.Test.YtoeinblfcbpcmaaGreatLaySort
namespace Go.Proofs.YtoeinblfcbpcmaaGreat
open Tryz
set_option maxHeartbeats 0
set_option maxRecDepth 100000
set_option linter.unusedVariables false
section
open Go.RowKit Go.Sort Go.Maps
instance:Inhabited Adr:=⟨⟨⟨0,0⟩,by unfold eW wH;exact⟨⟨by decide,by decide⟩,by decide,by decide⟩⟩⟩
def pT(x:Adr):List Value:=aO x.1
theorem wI(x:Adr):(pT x).length=2:=rfl
theorem JI(x:Adr):∀v∈pT x,v.oneCell'=true:=bP _
def BK(x y:Adr):Int:=yD x.1 y.1
theorem D4(x y:Adr):ltOf BK x y=fX x.1 y.1:=LY x.1 y.1
theorem yY(a:Ad):fX a a=false:=by rw[kQ];omega
theorem Hx{a b c:Ad}(h:fX a b=true)(k:fX b c=true):fX a c=true:=by rw[qS] at *;omega
theorem uC{a b:Ad}(h:fX a b=false)(k:fX b a=false):a=b:=by
 rw[kQ] at *;exact Ad.ext (by omega) (by omega)
theorem QC:SWO (ltOf BK) where
 irrefl x:=by rw[D4];exact yY _
 trans x y z h k:=by rw[D4] at *;exact Hx h k
 ntrans x y z h k:=by
  rw[D4] at *;rw[kQ] at *;omega
def iL(l:List Ad):List Ad:=l.mergeSort fun x y=>!fX y x
theorem zU(x y z:Ad):(!fX y x)=true->(!fX z y)=true->(!fX z x)=true:=by
 simp only[Bool.not_eq_true',kQ];omega
theorem wJ(x y:Ad):(!fX y x || !fX x y)=true:=by
 cases h:fX y x
 ·rfl
 ·have:fX x y=false:=by rw[qS] at h;rw[kQ];omega
  rw[this];rfl
theorem Hy{a b:List Ad}(h:a.Perm b):iL a=iL b:=by
 refine List.Perm.eq_of_pairwise (le:=fun x y=>(!fX y x)=true) ?_ (List.pairwise_mergeSort zU wJ a) (List.pairwise_mergeSort zU wJ b) (((List.mergeSort_perm a _).trans h).trans (List.mergeSort_perm b _).symm);intro x y _ _ h k;simp only[Bool.not_eq_true'] at h k;exact uC k h
theorem Cr{a:List Ad}{x:Ad}:x∈iL a↔x∈a:=(List.mergeSort_perm a _).mem_iff
theorem Of(w:World):(isAgg 59).run prog w=.ok true w:=by kernel_rfl
theorem L4(w:World):(Go.sizeOf 59).run prog w=.ok 2 w:=by kernel_rfl
theorem JJ(blk off size:Nat)(w:World):CmpLays prog 108 #[] pT 2 BK blk off size w:=
 fun m os a f x y=>by
  have:=JH x.1 y.1 (sortWorldK pT 2 w blk off m a os);exact this.mono fun e g h=>h
theorem JK(ys:List Adr):(ys.mergeSort fun x y=>!(ltOf BK) y x).map (·.1)=iL (ys.map (·.1)):=
 List.map_mergeSort fun a _ b _=>by rw[D4]
theorem wK(ys:List Adr):ys.flatMap pT=aR (ys.map (·.1)):=by
 unfold aR pT;rw[List.flatMap_map]
theorem Hz(w:World)(base:Nat)(v:Value)(ys:List Adr)(o:w.ownsRow base 59 2 v ys.length (aR (ys.map (·.1))))(E:ys.length≤65536) :
 Calls prog 156 #[v,.func (.func 108) #[] #[]] w fun e i=>e=.returned (.tuple #[])/\i.ownsRow base 59 2 v ys.length (aR (iL (ys.map (·.1))))/\aA (fun k=>v.ownBlock=some k) w i:=by
 rcases o.2 with⟨rfl,h0⟩|⟨g,j,cur,rfl,C,p,z,A,B,t⟩
 ·have f:ys=[]:=List.eq_nil_of_length_eq_zero h0
  subst f;have a:=AnyF.slices_SortFunc_none sortAddr none 0 (.func (.func 108) #[] #[]) w;change Calls prog 156 _ _ _ at a;refine a.mono ?_;rintro e i ⟨rfl,rfl⟩;exact⟨rfl,by simpa [iL] using o,aA.refl _ _⟩
 ·have r:∀args w,(callFunc 108 args).run prog w=.ok (.enter 108 args) w:=enters_of func108 (by kernel_rfl) rfl
  have u:HoldsK pT 2 w g 0 ys.toArray:=JE wI (by decide) p (by rw[t,wK])
  have a:=AnyQ.slices_SortFunc_total sortAddr 2 Of L4 pT wI JI BK QC 108 #[] g 0 j ys.toArray w r (JJ g 0 _ w) u (Array.getElem?_eq_some_iff.1 p).1 (by simp;omega)
   (fun x y q f=>by rw[D4] at q f;exact Subtype.ext (uC q f))
  change Calls prog 156 _ _ _ at a;rw[List.size_toArray] at a;refine a.mono ?_;rintro e i ⟨rfl,n,os,rfl⟩;refine⟨rfl,?_,?_⟩
  ·have:=FT (m:=n) (os:=os) wI (by decide) o (dk:=(ys.mergeSort fun x y=>!(ltOf BK) y x).toArray) (by simp)
   rw[List.toList_toArray,wK,JK] at this;exact this
  ·exact(FS pT 2 w g n _ os).mono fun k _ h=>by rw[h];rfl
theorem JL(w:World)(lst:List (Ad×Nix))(g b:Nat)(i:w.heap[g]?=some (.cells #[.map (some b)] 144 (0,0)))(j:cH eW adV fH w b lst)(f:lst.length≤65536) :
 Calls prog 155 #[.func (.func 157) #[] #[.pointer g]] w (BI w (lst.map (·.1))):=by
 have C:=O (FV w lst g b i j f);clear i j;go_in;go_wp2_with fail;refine C.out.mono ?_;rintro e r ⟨v,ys,rfl,n,h,m⟩;obtain⟨a,c,rfl,-,-⟩:=(Rd.of_owns h).form;have q:=O n;have p:=O h;have o:=O m;clear n h m;go_wp2;go_ret;exact⟨_,ys,rfl,q.out,p.out,o.out⟩
def H6(w:World)(l:List Ad)(e:Ending)(a:World):Prop:=
 ∃v,e=.returned v/\a.ownsRow w.heap.size 59 2 v l.length (aR (iL l))/\aA aB w a
theorem L5(w:World)(lst:List (Ad×Nix))(u b:Nat)(I:w.heap[u]?=some (.cells #[.map (some b)] 144 (0,0)))(F:cH eW adV fH w b lst)(n:lst.length≤65536) :
 Calls prog 106 #[.func (.func 157) #[] #[.pointer u],.func (.func 108) #[] #[]] w (H6 w (lst.map (·.1))):=by
 have C:=O (JL w lst u b I F n)
 have t:∀y∈lst.map (·.1),eW y:=by
  obtain⟨T,clock,-,P⟩:=F;intro y Q;obtain⟨p,j,rfl⟩:=List.mem_map.1 Q;exact P.2.2.2.2 p j
 have E:=O t;clear I F t;go_in;go_wp2_with fail;refine C.out.mono ?_;rintro e R ⟨v,ys,rfl,j,o,J⟩;obtain⟨a,c,rfl,-,-⟩:=(Rd.of_owns o).form;obtain⟨f,rfl⟩:∃f:List Adr,f.map (·.1)=ys:=⟨ys.attach.map fun y=>⟨y.1,E _ (j.subset y.2)⟩,by simp⟩
 have g:(f.map (·.1)).length=f.length:=List.length_map _;have G:f.length≤65536:=by have:=j.length_eq;simp only[List.length_map] at this;omega
 rw[g] at o;have D:=O (Hz R w.heap.size _ f o G);have H:=O j;have K:=O J
 have r:∀k,w.heap.size≤k\/¬(Value.slice a f.length c).ownBlock=some k:=fun k=>by
  by_cases e:(Value.slice a f.length c).ownBlock=some k
  ·exact .inl (bM o e)
  ·exact .inr e
 have B:=O r;clear j o J r;rw[g];go_wp2_with fail;refine D.out.mono ?_;rintro e V ⟨rfl,q,m⟩;have A:=O q;have z:=O m;clear q m;go_wp2;go_ret;refine⟨_,rfl,?_,K.tT z.out fun i U e=>?_⟩
 ·have N:=H.length_eq
  rw[←Hy H.out,←N,g];exact A.out
 ·rcases B.out i with h|h
  ·omega
  ·exact h e
end
section
open Go.RowKit Go.Maps Go.ChangeMaps
def kR(l:List Ad):Prop:=∀x∈l,eW x
variable{l:List Ad}{k:Nat}{x y:Ad}{w:World}{v:Value}
theorem sH(l:List Ad):(aR l).length=l.length*2:=qQ bG l
theorem H9(h:l[k]?=some x){j:Nat}(a:j<2):(aR l)[k*2+j]?=(aO x)[j]?:=by
 unfold aR;rw[zT bG (by decide),show (k*2+j) / 2=k by omega,show (k*2+j) % 2=j by omega,h,Option.bind_some]
theorem gX(h:Rd w 2 v l.length (aR l))(m:l[k]?=some x) :
 ∃g o e,v=.slice (some ⟨g,o,none⟩) l.length e/\w.rangeAt g (o+k*2) (aO x):=by
 obtain⟨h0,a,e,rfl,r,t,z,n⟩:=h;have q:=(List.getElem?_eq_some_iff.1 m).1;obtain⟨g,o,rfl,p⟩:=n (by rw[sH];omega);refine⟨g,o,e,rfl,fun j u i=>?_⟩;have f:j<2:=(List.getElem?_eq_some_iff.1 i).1;have:=p (k*2+j) u (by rw[H9 m f];exact i)
 rwa [←Nat.add_assoc] at this
theorem nC(a b:List Ad):aR (a++b)=aR a++aR b:=by simp[aR]
theorem yZ(x:Ad):aR [x]=aO x:=by simp[aR]
theorem zA(l:List Ad):∀u∈aR l,u.oneCell'=true:=by
 intro u a;obtain⟨x,_,e⟩:=List.mem_flatMap.1 a;exact bP x u e
def gC(l:List Ad):List (Ad×Nix):=l.foldl (fun s a=>dW s a .nix) []
theorem Ia(l:List Ad)(x:Ad):gC (l++[x])=dW (gC l) x .nix:=by simp[gC]
theorem Ib(s:List (Ad×Nix))(a:Ad):(dW s a .nix).length≤s.length+1:=by
 unfold dW;split<;>simp
theorem Ct(l:List Ad):(gC l).length≤l.length:=by
 suffices h:∀(l:List Ad) (s:List (Ad×Nix)),(l.foldl (fun s a=>dW s a .nix) s).length≤s.length+l.length by simpa [gC] using h l []
 intro l
 induction l with
 | nil=>intro s;simp
 | cons x l e=>intro s;have f:=e (dW s x .nix);have g:=Ib s x;simp only[List.foldl_cons,List.length_cons];omega
theorem PG{n:Nat}(h:Rd w 2 v n (aR l))(j:n=l.length){b:Nat}(i:w.heap.size≤b):¬(0<n/\v.ownBlock=some b):=fun ⟨h0,e⟩=>by
 have:=h.lt (by rw[sH];omega);obtain⟨g,a,f⟩:=this;rw[e] at a;cases a;omega
def PH(w:World)(l:List Ad)(e:Ending)(a:World):Prop:=∃b,e=.returned (.map (some b))/\cH eW adV fH a b (gC l)/\w.heap.size≤b/\aA aB w a
theorem D5(w:World)(v:Value)(l:List Ad)(ho:kR l)(hr:Rd w 2 v l.length (aR l)):Calls prog 73 #[v] w (PH w l):=by
 have ql:=@run_makeMap prog;obtain⟨av,cv,rfl,qi,qj⟩:=hr.form;have q:l.length≤maxLen:=by omega
 unfold maxLen at q;clear qi qj;obtain⟨n,hn⟩:=zX9 l.length
 have HR:=O hr;have X:=O hn;clear hr;rw[hn] at HR q ⊢;clear hn;go_in;go_wp2_with fail;obtain⟨B,m⟩:=zX9 (w.alloc (.map #[] 0))
 have N:aA aB w B:=by rw[←m];exact(aA.refl _ _).alloc _
 have qq:B.heap.size=w.heap.size+1:=by rw[←m,World.size_alloc]
 have T:cH eW adV fH B w.heap.size (gC []):=by rw[←m];exact cH.made _
 rw[m];have F:=O N;have qb:=O T;clear m N T ql
 go_loopw [9] (fun i wr=>∃k:Nat,k≤n/\i=.int .i64 k/\Hid (cH eW adV fH wr w.heap.size (gC (l.take k)))/\Hid (aA (fun j=>j=w.heap.size) B wr)) (fun i _=>n-(intOf i).toNat)
 case atStart=>exact⟨0,Nat.zero_le _,rfl,qb,O (aA.refl _ _)⟩
 case round =>
  obtain⟨k,hk,rfl,HM,E⟩:=hrel
  by_cases qk:k<n
  ·obtain⟨x,Y⟩:∃x,l[k]?=some x:=⟨l[k]'(by rw[X.out];exact qk),List.getElem?_eq_getElem _⟩
   have W:eW x:=ho x (List.mem_of_getElem? Y);have R:aA (fun j=>j=w.heap.size) w wr:=F.trans' E.out (fun _ _ h=>h.elim) (fun _ _ h=>h);have A:=HR.keep R (fun b hb e=>PG HR.out X.symm (Nat.le_of_eq e.symm) ⟨by omega,hb⟩);rw[←X.out] at A;obtain⟨g,o,qp,hv,f⟩:=gX A Y;have qm:av=some ⟨g,o,none⟩:=by cases hv;rfl
   subst qm;have Z:=O f;have qg:=O W;have qe:Hid (gC (l.take (k+1))=dW (gC (l.take k)) x .nix):=O (by rw[List.take_add_one,Y,←Ia];rfl);have qn:adV x=.agg (aO x).toArray:=rfl;obtain⟨p,a⟩:=zX9 (aO x)
   have qo:=O a;have r:Hid ((prog.info? 59).map (·.size)=some p.length):=O (by rw[←a];exact cC);have K:Hid (p.length=2):=O (by rw[←a];rfl);have qf:Hid (∀u∈p,u.oneCell'=true):=O (by rw[←a];exact bP x);have qh:Hid (adV x=.agg p.toArray):=O (by rw[←a];rfl);rw[a] at Z;have qr:=E.size;clear Y W R A hv f qn a
   go_wp2_with (first
    | ((with_reducible show WL (some 12) (.load 59 (.tmp 11)));refine wpList_load_mid rfl 59 (.tmp 11) rfl g (o+k*2) rfl p _ Z.out bT rfl r.out ?_)
    | ((with_reducible show WL (some 5) (.alloc 59));refine aY rfl 59 rfl eM eI #[.int .i64 0,.int .i64 0] rfl ?_)
    | ((with_reducible show WL none (.store 59 (.tmp 5) (.tmp 12)));refine aQ rfl 59 (.tmp 5) (.tmp 12) rfl wr.heap.size 0 p rfl rfl #[.int .i64 0,.int .i64 0] 59 (heap_alloc_new _ _) (by rw[K.out];exact Nat.le_refl _) r.out qf.out ?_
       intro w3 t P;rw[aS _ _ (by rw[K.out];rfl)] at t;have z:aA aB wr w3:=((aA.refl aB wr).alloc _).tT P (fun i hi e=>by omega);have C:=O t;have H:=O z;have I:=O (HM.keep z id);clear t P z)
    | ((with_reducible show WL (some 14) (.load 59 (.tmp 5)));refine wpList_load_mid rfl 59 (.tmp 5) rfl wr.heap.size 0 rfl p _ (aD C.out) bT rfl r.out ?_)
    | ((with_reducible show WL none (.mapUpdate 144 (.tmp 13) (.tmp 14) (.tmp 15)));refine mW rfl rfl (.tmp 13) (.tmp 14) (.tmp 15) 144 rfl NV underlying144 x qg.out Nix.nix rfl qh.symm rfl I.out ?_
       intro w4 V Q;have J:=O V;have G:=O Q;clear V Q))
   have qc:=O (show cH eW adV fH w4 w.heap.size (gC (l.take (k+1))) by rw[qe.out];exact J.out);have qa:=O ((E.tT H.out (fun _ _ h=>h.elim)).trans' G.out (U:=fun j=>j=w.heap.size) (fun _ _ h=>h) (fun _ _ h=>h));clear J G I H E HM C Z
   go_roundw
   case rel=>exact⟨k+1,by omega,by go_num,qc,qa⟩
   case measure=>simp[intOf];omega
  ·obtain rfl:k=n:=by omega
   have qd:Hid (cH eW adV fH wr w.heap.size (gC l)):=O (by have:=HM.out;rwa [List.take_of_length_le (by rw[X.out];exact Nat.le_refl _)] at this);go_wp2;go_ret;exact⟨_,rfl,qd.out,Nat.le_refl _,F.tT E.out (fun i hi e=>by omega)⟩
def cO(s:List (Ad×Nix)):List Ad:=s.map (·.1)
def nD(w:World)(l:List Ad)(e:Ending)(a:World):Prop:=∃v,e=.returned v/\a.ownsRow w.heap.size 59 2 v l.length (aR l)/\aA aB w a
theorem wL(l:List Ad):(iL l).length=l.length:=List.length_mergeSort _
theorem D6(w:World)(b:Nat)(s:List (Ad×Nix))(h:cH eW adV fH w b s)(u:s.length≤65536):Calls prog 74 #[.map (some b)] w (nD w (iL (cO s))):=by
 obtain⟨j,g⟩:=zX9 (w.alloc (.cells #[.map (some b)] 144))
 have f:aA aB w j:=by rw[←g];exact(aA.refl _ _).alloc _
 have i:j.heap[w.heap.size]?=some (.cells #[.map (some b)] 144 (0,0)):=by rw[←g];exact heap_alloc_new _ _
 have C:=O (L5 j s w.heap.size b i (h.keep f id) u);have n:=O f;have o:=O g;have p:=f.size;have K:=O (FU (some b) w);clear h f i g;go_in;go_wp2_with fail;refine K.out.mono ?_;rintro e z ⟨rfl,rfl⟩;rw[o.out];go_wp2_with fail;refine C.out.mono ?_;rintro e A ⟨v,rfl,m,q⟩;rw[List.length_map] at m;obtain⟨a,c,rfl,-,-⟩:=(Rd.of_owns m).form;have t:=O m;have r:=O (n.trans q);clear m q;go_wp2;go_ret;refine⟨_,rfl,?_,r.out⟩;rw[wL,show (cO s).length=s.length from List.length_map _];exact bA t.out p
theorem L6(w:World)(v:Value)(l:List Ad)(A:kR l)(m:Rd w 2 v l.length (aR l))(q:l.length≤65536):Calls prog 32 #[v] w (nD w (iL (cO (gC l)))):=by
 have p:=O (D5 w v l A m);obtain⟨E,F,rfl,-,h⟩:=m.form;have o:(gC l).length≤65536:=Nat.le_trans (Ct l) q;obtain⟨n,t⟩:=zX9 l.length
 rw[t] at p ⊢;clear m h t q;go_in;go_wp2_with fail;refine p.out.mono ?_;rintro e C ⟨b,rfl,r,G,j⟩;have L:=O (D6 C b _ r o);have u:=O j;have B:=j.size;clear r j;go_wp2_with fail;refine L.out.mono ?_;rintro e I ⟨H,rfl,f,g⟩;obtain⟨a,c,rfl,-,-⟩:=(Rd.of_owns f).form;have z:=O f;have i:=O (u.trans g);clear f g;go_wp2;go_ret;exact⟨_,rfl,bA z.out B,i.out⟩
def yE(l:List Ad):Prop:=l.Pairwise fun x y=>fX x y=true
theorem Ic(h:fX x y=true):fX y x=false:=by rw[qS] at h;rw[kQ];omega
theorem GE(h:fX x y=true):x≠y:=by
 intro e;subst e;rw[yY] at h;cases h
theorem Cu:∀{l m:List Ad},yE l->yE m->(∀x,x∈l↔x∈m)->l=m
 | [],[],_,_,_=>rfl
 | [],y::m,_,_,h=>absurd ((h y).2 (by simp)) (by simp)
 | x::l,[],_,_,h=>absurd ((h x).1 (by simp)) (by simp)
 | x::l,y::m,i,j,h=>by
   unfold yE at i j;rw[List.pairwise_cons] at i j
   have o:x=y:=by
    have f:x=y\/x∈m:=by simpa using (h x).1 (by simp)
    have g:y=x\/y∈l:=by simpa using (h y).2 (by simp)
    rcases f with f|f
    ·exact f
    ·rcases g with g|g
     ·exact g.symm
     ·have a:=j.1 x f
      rw[Ic (i.1 y g)] at a;cases a
   subst o
   have:l=m:=Cu i.2 j.2 fun z=>by
    constructor
    ·intro n
     have:z=x\/z∈m:=by simpa using (h z).1 (by simp[n])
     exact this.resolve_left fun e=>GE (i.1 z n) e.symm
    ·intro n
     have:z=x\/z∈l:=by simpa using (h z).2 (by simp[n])
     exact this.resolve_left fun e=>GE (j.1 z n) e.symm
   rw[this]
theorem rQ(l:List (Ad×Nix))(a x:Ad)(v:Nix):x∈cO (dW l a v)↔x∈cO l\/x=a:=by
 unfold dW cO;split
 ·rename_i h
  have i:(l.map fun p=>if p.1=a then (a,v) else p).map (·.1)=l.map (·.1):=by
   rw[List.map_map];apply List.map_congr_left;intro p _;simp only[Function.comp];split
   ·rename_i e;exact e.symm
   ·rfl
  rw[i];constructor
  ·exact fun h=>.inl h
  ·rintro (f|rfl)
   ·exact f
   ·obtain⟨p,j,g⟩:=List.any_eq_true.1 h
    exact List.mem_map.2 ⟨p,j,of_decide_eq_true g⟩
 ·simp
theorem D7{l:List (Ad×Nix)}(h:(cO l).Nodup)(a:Ad)(v:Nix):(cO (dW l a v)).Nodup:=by
 unfold dW cO at *;split
 ·have i:(l.map fun p=>if p.1=a then (a,v) else p).map (·.1)=l.map (·.1):=by
   rw[List.map_map];apply List.map_congr_left;intro p _;simp only[Function.comp];split
   ·rename_i e;exact e.symm
   ·rfl
  rw[i];exact h
 ·rename_i j
  rw[List.map_append,List.nodup_append];refine⟨h,by simp,?_⟩;intro x n y f e;simp only[List.map_cons,List.map_nil,List.mem_singleton] at f;subst f;subst e;obtain⟨p,m,g⟩:=List.mem_map.1 n;exact j (List.any_eq_true.2 ⟨p,m,decide_eq_true g⟩)
theorem pU(l:List Ad):(cO (gC l)).Nodup/\∀x,x∈cO (gC l)↔x∈l:=by
 suffices h:∀(l:List Ad) (s:List (Ad×Nix)),(cO s).Nodup->(cO (l.foldl (fun s a=>dW s a .nix) s)).Nodup/\∀x,x∈cO (l.foldl (fun s a=>dW s a .nix) s)↔x∈cO s\/x∈l by
  have:=h l [] (by simp[cO]);exact⟨this.1,fun x=>by rw[show gC l=l.foldl (fun s a=>dW s a .nix) [] from rfl,this.2 x];simp[cO]⟩
 intro l
 induction l with
 | nil=>intro s e;exact⟨e,fun x=>by simp⟩
 | cons a l f =>
   intro s e;have:=f (dW s a .nix) (D7 e a .nix);refine⟨this.1,fun x=>?_⟩;rw[List.foldl_cons,this.2 x,rQ,List.mem_cons];constructor
   ·rintro ((h|h)|h)<;>simp[h]
   ·rintro (h|h|h)<;>simp[h]
theorem zC(h:l.Nodup):yE (iL l):=by
 have a:(iL l).Pairwise fun x y=>(!fX y x)=true:=List.pairwise_mergeSort zU wJ l
 have f:(iL l).Nodup:=(List.mergeSort_perm l _).nodup_iff.2 h;refine(List.Pairwise.and a f).imp fun {x y} ⟨p,q⟩=>?_
 simp only[Bool.not_eq_true'] at p;cases e:fX x y
 ·exact absurd (uC e p) q
 ·rfl
def iB(l:List Ad):List Ad:=iL (cO (gC l))
theorem FW(l:List Ad):yE (iB l):=zC (pU l).1
theorem wM:x∈iB l↔x∈l:=by unfold iB;rw[Cr];exact(pU l).2 x
theorem L7{m:List Ad}(h:yE l)(a:∀x,x∈l↔x∈m):l=iB m:=Cu h (FW m) fun x=>by rw[wM];exact a x
theorem Cv(l:List Ad):(iB l).length≤l.length:=by
 unfold iB;rw[wL];unfold cO;rw[List.length_map];exact Ct l
theorem AO{s:List (Ad×Nix)}(h:(cO s).Nodup)(a:∀x,x∈cO s↔x∈l):iL (cO s)=iB l:=L7 (zC h) fun x=>by rw[Cr];exact a x
end
section
def dY(L:List Ad)(d s:Nat):Bool:=decide ((⟨(d:Int),(s:Int)⟩:Ad)∈L)
def gS(L:List Ad)(d s:Nat):Bool:=decide (5≤s) && !dY L d s
def bC(L:List Ad)(d k:Nat):List Int:=((List.range k).filter (gS L d)).map fun(s:Nat)=>(s:Int)
variable{L M:List Ad}{d k S:Nat}{x:Int}
theorem sI(L:List Ad)(d k:Nat):bC L d (k+1)=bC L d k++if gS L d k then [(k:Int)] else []:=by
 unfold bC;rw[List.range_succ,List.filter_append,List.map_append]
 congr 1
 cases h:gS L d k<;>simp[h]
theorem FX(L:List Ad)(d:Nat):bC L d 5=[]:=by
 unfold bC
 have:(List.range 5).filter (gS L d)=[]:=by
  rw[List.filter_eq_nil_iff];intro s a;have:=List.mem_range.1 a;unfold gS;rw[decide_eq_false (by omega:¬5≤s)];simp
 rw[this];rfl
theorem uD:x∈bC L d k↔∃s:Nat,x=(s:Int)/\s<k/\5≤s/\dY L d s=false:=by
 unfold bC;rw[List.mem_map];constructor
 ·rintro⟨s,g,rfl⟩
  obtain⟨e,a⟩:=List.mem_filter.1 g;unfold gS at a;rw[Bool.and_eq_true] at a;exact⟨s,rfl,List.mem_range.1 e,of_decide_eq_true a.1,by simpa using a.2⟩
 ·rintro⟨s,rfl,e,a,f⟩
  refine⟨s,List.mem_filter.2 ⟨List.mem_range.2 e,?_⟩,rfl⟩;unfold gS;rw[decide_eq_true a,f];rfl
theorem D8(L:List Ad)(d k:Nat):(bC L d k).Pairwise (·<·):=by
 unfold bC;rw[List.pairwise_map];refine(List.Pairwise.filter _ List.pairwise_lt_range).imp ?_;intro a b h;exact Int.ofNat_lt.2 h
theorem uE(L:List Ad)(d k:Nat):(bC L d k).length≤k-5:=by
 induction k with
 | zero=>simp[bC]
 | succ k a =>
   rw[sI,List.length_append];cases h:gS L d k
   ·simp only[Bool.false_eq_true,if_false,List.length_nil];omega
   ·unfold gS at h
    rw[Bool.and_eq_true] at h;have:=of_decide_eq_true h.1;simp only[if_true,List.length_singleton];omega
theorem mK(h:∀s,s<k->5≤s->dY L d s=dY M d s):bC L d k=bC M d k:=by
 unfold bC;rw[List.filter_congr];intro s e;unfold gS
 by_cases a:5≤s
 ·rw[h s (List.mem_range.1 e) a]
 ·rw[decide_eq_false a];rfl
theorem zD(h:∀x,x∈L↔x∈M)(d s:Nat):dY L d s=dY M d s:=by
 unfold dY;rw[decide_eq_decide];exact h _
theorem pV(L:List Ad)(e t d s:Nat):dY (L++[⟨(e:Int),(t:Int)⟩]) d s=(dY L d s || (decide (d=e) && decide (s=t))):=by
 unfold dY;rw[Bool.eq_iff_iff];simp only[List.mem_append,List.mem_singleton,decide_eq_true_eq,Bool.or_eq_true,Bool.and_eq_true,Ad.mk.injEq];constructor
 ·rintro (h|⟨a,f⟩)
  ·exact .inl h
  ·exact .inr ⟨by omega,by omega⟩
 ·rintro (h|⟨a,f⟩)
  ·exact .inl h
  ·exact .inr ⟨by omega,by omega⟩
theorem oI{r:List Int}(h:bC L d S=x::r):∃t:Nat,x=(t:Int)/\t<S/\5≤t/\dY L d t=false/\(∀s,5≤s->s<t->dY L d s=true)/\bC (L++[⟨(d:Int),x⟩]) d S=r:=by
 have n:x∈bC L d S:=by rw[h];exact List.mem_cons_self ..
 obtain⟨t,rfl,i,j,m⟩:=uD.1 n;have f:=D8 L d S;rw[h,List.pairwise_cons] at f;refine⟨t,rfl,i,j,m,fun s g o=>?_,?_⟩
 ·cases p:dY L d s with
  | true=>rfl
  | false =>
    have:(s:Int)∈bC L d S:=uD.2 ⟨s,rfl,by omega,g,p⟩;rw[h] at this;rcases List.mem_cons.1 this with e|e
    ·omega
    ·have:=f.1 _ e
     omega
 ·have e:bC (L++[⟨(d:Int),(t:Int)⟩]) d S=(bC L d S).filter fun y=>!decide (y=(t:Int)):=by
   unfold bC;rw[List.filter_map,List.filter_filter]
   congr 1
   refine List.filter_congr fun s u=>?_
   unfold gS;rw[pV];simp only[Function.comp,decide_true,Bool.true_and]
   by_cases e:s=t
   ·subst e;simp
   ·have:¬(s:Int)=(t:Int):=by omega
    simp[e,this]
  rw[e,h,List.filter_cons];rw[if_neg (by simp)];refine List.filter_eq_self.2 fun y q=>?_
  have:=f.1 y q;have a:¬y=(t:Int):=by omega
  simp[a]
theorem D9{e t:Nat}(h:d≠e):bC (L++[⟨(e:Int),(t:Int)⟩]) d S=bC L d S:=mK fun s _ _=>by
 rw[pV,decide_eq_false h];simp
def eF(x:Ad)(D S:Nat):Prop:=0≤x.1/\x.1<(D:Int)/\5≤x.2/\x.2<(S:Int)
def cI(L:List Ad)(D S:Nat):List Int:=(List.range D).map fun d=>((bC L d S).length:Int)
theorem jY(L:List Ad)(D S:Nat):(cI L D S).length=D:=by simp[cI]
theorem rR(L:List Ad){D:Nat}(h:d<D):(cI L D S).getD d 0=((bC L d S).length:Int):=by
 unfold cI;rw[List.getD_eq_getElem?_getD,List.getElem?_map,List.getElem?_range h];rfl
end
section
open Go.RowKit Go.Maps Go.ChangeMaps
def wv(x:BitVec 64):Value:=.int .u64 (x.toNat:Int)
variable{w:World}{b D d s:Nat}{c:Nat->Option Nat}{L M:List Ad}
theorem oJ(x:BitVec 64):BitVec.ofInt 64 (x.toNat:Int)=x:=by simp
theorem zV(n:Nat)(h:n<18446744073709551616):IntKind.u64.wrap (n:Int)=(n:Int):=by
 show ((n:Int) % 18446744073709551616)=n;omega
theorem JM(x:BitVec 64):x.toNat<18446744073709551616:=x.isLt
theorem Ea(x y:BitVec 64):bits .and .u64 (x.toNat:Int) (y.toNat:Int)=((x &&& y).toNat:Int):=by
 show IntKind.u64.wrap ((BitVec.ofInt 64 (x.toNat:Int) &&& BitVec.ofInt 64 (y.toNat:Int)).toNat:Int)=_;rw[oJ,oJ,zV _ (JM _)]
theorem Og(i:Nat)(h:i<64):IntKind.u64.wrap ((2:Int) ^ i)=((BitVec.twoPow 64 i).toNat:Int):=by
 rw[BitVec.toNat_twoPow,Nat.mod_eq_of_lt (Nat.pow_lt_pow_right (by decide) h)];have:((2:Int) ^ i)=((2 ^ i:Nat):Int):=by simp
 rw[this,zV _ (Nat.pow_lt_pow_right (by decide) h)]
theorem GF(x:BitVec 64)(i:Nat):(x.toNat:Int) / 2 ^ i=((x >>> i).toNat:Int):=by
 rw[BitVec.toNat_ushiftRight,Nat.shiftRight_eq_div_pow];simp
theorem GG(x:BitVec 64)(i:Nat):decide (((x >>> i &&& 1#64).toNat:Int)=1)=x.getLsbD i:=by
 have h:x >>> i &&& 1#64=if x.getLsbD i then 1#64 else 0#64:=by
  apply BitVec.eq_of_getLsbD_eq;intro j a;rw[BitVec.getLsbD_and,BitVec.getLsbD_ushiftRight]
  by_cases h0:j=0
  ·subst h0
   cases x.getLsbD i<;>simp
  ·have:(1#64).getLsbD j=false:=by simp[BitVec.getLsbD_one,h0]
   rw[this];cases x.getLsbD i<;>simp[BitVec.getLsbD_one,h0]
 rw[h];cases x.getLsbD i<;>rfl
theorem L8(x y:BitVec 64):bits .xor .u64 (x.toNat:Int) (y.toNat:Int)=((x ^^^ y).toNat:Int):=by
 show IntKind.u64.wrap ((BitVec.ofInt 64 (x.toNat:Int) ^^^ BitVec.ofInt 64 (y.toNat:Int)).toNat:Int)=_;rw[oJ,oJ,zV _ (JM _)]
theorem L9(x:BitVec 64)(i j:Nat)(a:i<64):(x ^^^ BitVec.twoPow 64 i).getLsbD j=(x.getLsbD j != decide (i=j)):=by
 rw[BitVec.getLsbD_xor,BitVec.getLsbD_twoPow];simp[a]
structure bO(w:World)(b:Nat)(c:Nat->Option Nat)(D:Nat)(L:List Ad):Prop where
 row:∃cs:Array Value,w.heap[b]?=some (.cells cs 221 (0,0))/\cs.size=D*65 /\
  (∀d,d<D->∀k,k<64->∃x:BitVec 64,cs[d*65+k]?=some (wv x)/\∀j,j<64->x.getLsbD j=dY L d (64*k+j)) /\
  ∀d,d<D->cs[d*65+64]?=some (.chan (c d))
theorem bO.keep{S:Nat->Prop}{a:World}(h:bO w b c D L)(k:aA S w a)(i:¬S b):bO a b c D L:=by
 obtain⟨e,f,g⟩:=h.row;exact⟨e,k.blk f i,g⟩
theorem bO.congr(h:bO w b c D L)(o:∀x,x∈L↔x∈M):bO w b c D M:=by
 obtain⟨a,e,f,g,i⟩:=h.row;refine⟨a,e,f,fun d n k q=>?_,i⟩;obtain⟨x,m,h6⟩:=g d n k q;exact⟨x,m,fun j p=>by rw[h6 j p,zD o]⟩
theorem bO.lt(h:bO w b c D L):b<w.heap.size:=by
 obtain⟨e,a,-⟩:=h.row;exact(Array.getElem?_eq_some_iff.1 a).1
theorem bO.word(h:bO w b c D L)(g:d<D)(n:s<4096):∃x:BitVec 64,w.cell? ⟨b,d*65+s / 64,none⟩=some (wv x)/\x.getLsbD (s % 64)=dY L d s:=by
 obtain⟨i,a,j,e,m⟩:=h.row;obtain⟨x,f,h6⟩:=e d g (s / 64) (by omega);refine⟨x,aC a f,?_⟩;rw[h6 _ (Nat.mod_lt _ (by decide)),Nat.div_add_mod]
theorem bO.chan(h:bO w b c D L)(f:d<D):w.cell? ⟨b,d*65+64,none⟩=some (.chan (c d)):=by
 obtain⟨g,a,i,j,e⟩:=h.row;exact aC a (e d f)
theorem bO.free(h:bO w b c D L)(i:Nat):w.frozen? ⟨b,i,none⟩=false:=by
 obtain⟨e,a,-⟩:=h.row;exact dE a i
theorem Q3{e k l:Nat}(a:k<65)(f:l<65)(h:d*65+k=e*65+l):d=e/\k=l:=by omega
theorem bO.flip(h:bO w b c D L)(C:d<D)(J:s<4096){x:BitVec 64}(I:w.cell? ⟨b,d*65+s / 64,none⟩=some (wv x))
 (B:∀e t,e<D->t<4096->dY M e t=(dY L e t != (decide (e=d) && decide (t=s)))) :
 bO (w.setCell ⟨b,d*65+s / 64,none⟩ (wv (x ^^^ BitVec.twoPow 64 (s % 64)))) b c D M/\aA (fun k=>k=b) w (w.setCell ⟨b,d*65+s / 64,none⟩ (wv (x ^^^ BitVec.twoPow 64 (s % 64)))):=by
 obtain⟨r,u,z,A,F⟩:=h.row;have G:=dQ u (d*65+s / 64) (wv (x ^^^ BitVec.twoPow 64 (s % 64)))
 have n:d*65+s / 64<r.size:=by
  rw[z];have:d*65+65≤D*65:=by omega
  omega
 have o:r[d*65+s / 64]?=some (wv x):=by
  obtain⟨y,f,-⟩:=A d C (s / 64) (by omega);have:=aC u f;rw[I] at this;rw[f,←this]
 refine⟨⟨_,G,by rw[Array.size_setIfInBounds];exact z,fun e i k H=>?_,fun e i=>?_⟩,(aA.refl (fun k=>k=b) w).setCell (p:=⟨b,_,none⟩) (fun _=>rfl) _⟩
 ·obtain⟨y,f,h6⟩:=A e i k H
  by_cases a:d*65+s / 64=e*65+k
  ·obtain⟨rfl,rfl⟩:=Q3 (by omega) (by omega) a
   refine⟨_,by rw[Array.getElem?_setIfInBounds_self_of_lt n],fun j m=>?_⟩;rw[o] at f
   have q:x=y:=by
    have g:wv x=wv y:=Option.some.inj f;unfold wv at g;injection g with _ E
    exact BitVec.eq_of_toNat_eq (by omega)
   subst q;rw[L9 _ _ _ (Nat.mod_lt _ (by decide)),h6 j m,B _ _ C (by omega),decide_eq_true rfl,Bool.true_and]
   congr 1
   rw[decide_eq_decide];omega
  ·refine⟨y,by rw[Array.getElem?_setIfInBounds_ne a];exact f,fun j m=>?_⟩
   rw[h6 j m,B _ _ i (by omega)]
   have:(decide (e=d) && decide (64*k+j=s))=false:=by
    rw[Bool.and_eq_false_iff,decide_eq_false_iff_not,decide_eq_false_iff_not]
    by_cases g:e=d
    ·subst g
     refine .inr fun E=>a ?_
     omega
    ·exact .inl g
   rw[this];simp
 ·rw[Array.getElem?_setIfInBounds_ne (by omega)]
  exact F e i
theorem bO.lay(h:bO w b c D L)(u:d<D)(v:Option Nat) :
 bO (w.setCell ⟨b,d*65+64,none⟩ (.chan v)) b (fun e=>if e=d then v else c e) D L/\aA (fun k=>k=b) w (w.setCell ⟨b,d*65+64,none⟩ (.chan v)):=by
 obtain⟨j,m,i,n,o⟩:=h.row;have r:=dQ m (d*65+64) (.chan v)
 have f:d*65+64<j.size:=by
  rw[i];have:d*65+65≤D*65:=by omega
  omega
 refine⟨⟨_,r,by rw[Array.size_setIfInBounds];exact i,fun e a k t=>?_,fun e a=>?_⟩,(aA.refl (fun k=>k=b) w).setCell (p:=⟨b,_,none⟩) (fun _=>rfl) _⟩
 ·obtain⟨y,q,h6⟩:=n e a k t
  exact⟨y,by rw[Array.getElem?_setIfInBounds_ne (by omega)];exact q,h6⟩
 ·by_cases g:e=d
  ·subst g
   rw[Array.getElem?_setIfInBounds_self_of_lt f,if_pos rfl]
  ·rw[Array.getElem?_setIfInBounds_ne (by omega),if_neg g]
   exact o e a
theorem Ma(w:World)(b D:Nat)(c:Nat->Option Nat)(L:List Ad)(h:bO w b c D L)(d s:Nat)(J:d<D)(R:s<4096) :
 Calls prog 143 #[.pointer (some ⟨b,d*65,none⟩),.int .i64 (s:Int)] w fun e W=>e=.returned (.bool (dY L d s))/\w=W:=by
 obtain⟨x,t,z⟩:=h.word J R;obtain⟨q,f⟩:=zX9 (s / 64)
 obtain⟨r,g⟩:=zX9 (s % 64)
 have F:q<64:=by omega
 have H:r<64:=by omega
 rw[f] at t;rw[g] at z;have B:=GF x r;have u:=Ea (x >>> r) 1#64;have p:=GG x r;rw[z] at p;obtain⟨Z,m⟩:∃n:Int,(x.toNat:Int)=n:=⟨_,rfl⟩
 obtain⟨sv,j⟩:∃n:Int,((x >>> r).toNat:Int)=n:=⟨_,rfl⟩
 obtain⟨rv,i⟩:∃n:Int,((x >>> r &&& 1#64).toNat:Int)=n:=⟨_,rfl⟩
 obtain⟨bb,a⟩:=zX9 (dY L d s)
 have A:(((1#64:BitVec 64).toNat:Nat):Int)=1:=rfl;unfold wv at t;rw[A] at u;rw[m] at t B;rw[j] at B u;rw[i] at u p;rw[a] at p ⊢;have I:(rv == 1)=bb:=p;obtain⟨o,E⟩:=zX9 (d*65)
 rw[E] at t ⊢;have Y:(s:Int) / 64=(q:Int):=by omega
 have X:(s:Int) % 64=(r:Int):=by omega
 have T:(0:Int)≤(s:Int):=by omega
 have G:(s:Int).tdiv 64=(q:Int):=by rw[Int.tdiv_eq_ediv_of_nonneg (by omega)];omega
 have C:(s:Int).tmod 64=(r:Int):=by rw[Int.tmod_eq_emod_of_nonneg (by omega)];omega
 have U:IntKind.i64.wrap (q:Int)=(q:Int):=by rw[IntWalk.i64_in _ (by omega)]
 have V:IntKind.i64.wrap (r:Int)=(r:Int):=by rw[IntWalk.i64_in _ (by omega)]
 have K:(0:Int)≤(q:Int):=by omega
 have N:(q:Int)<64:=by omega
 have P:(0:Int)≤(r:Int):=by omega
 have Q:(r:Int)<64:=by omega
 clear h z m j i a A E f g;go_in;go_wp2;go_ret;exact⟨rfl,rfl⟩
end
section
open Go.RowKit
theorem lP{P:Program}{e:Array Oper}{S:World->Prop}{op:Oper}{a:Act}(j:Region.wanted op (yielded e a.tmps)=true)(t:TypeId)(x y:Operand)(o:TypeId)(i:op.op=.binOp .neq t x y o)
 (f ys:Array Value) (m:a.eval x=.agg f) (n:a.eval y=.agg ys) (g:P.eqGuardType P.depth t=false){b:Bool}(h:∀w,(binOp .neq t (.agg f) (.agg ys)).run P w=.ok (.bool b) w):YieldsIf P e S op (.bool b) a:=
 .inl ⟨j,fun w _=>by
  unfold execOp;simp only[i,m,n,Sem.run_bind,Sem.run_pure,Result.andThen_ok,run_eqGuard_agg w .neq t x y f ys g,h w]⟩
theorem GH:prog.eqGuardType prog.depth 59=false:=by kernel_rfl
theorem Oh:prog.stoodInHeld 59=false:=by kernel_rfl
theorem Q4(a b:Ad)(w:World):Sem.run prog (binOp .eql 59 (.agg (aO a).toArray) (.agg (aO b).toArray)) w=.ok (.bool (decide (a=b))) w:=by
 have e:decide (a=b)=(decide (a.dev=b.dev) && decide (a.sec=b.sec)):=by rw[Bool.eq_iff_iff];simp[Ad.ext_iff]
 rw[e,run_eql_struct,run_equalIn_agg w 9999 59 _ _ bT Oh,wG,LX];have i:∀x y:Int,(Op.equalIn 9999 3 (.int .i64 x) (.int .i64 y)).run prog w=.ok (x == y) w:=fun x y=>run_equalIn_int w 9998 3 .i64 .i64 x y underlying3
 have h:∀x y:Int,(x == y)=decide (x=y):=fun x y=>by rw[Bool.eq_iff_iff];simp
 have f:(aO a).toArray[0]?=some (.int .i64 a.dev):=rfl;have g:(aO a).toArray[1]?=some (.int .i64 a.sec):=rfl;have b0:(aO b).toArray[0]?=some (.int .i64 b.dev):=rfl;have b1:(aO b).toArray[1]?=some (.int .i64 b.sec):=rfl;simp only[eqT,ne_eq,String.reduceEq,not_false_eq_true,if_true,Sem.run_bind,Sem.run_ite,Sem.run_pure,Result.andThen_ok,uB _ 0 _ f,uB _ 0 _ b0,uB _ 1 _ g,uB _ 1 _ b1,i,h];cases decide (a.dev=b.dev)<;>cases decide (a.sec=b.sec)<;>rfl
theorem NW(a b:Ad)(w:World):Sem.run prog (binOp .neq 59 (.agg (aO a).toArray) (.agg (aO b).toArray)) w=.ok (.bool (!decide (a=b))) w:=AM (Q4 a b w)
def fN(a:Ad)(devs sectors:Int):Bool:=decide (2≤devs) && decide (devs≤8) && decide (8≤sectors) && decide (sectors≤4096) && decide (0≤a.dev) && decide (a.dev<devs) && decide (5≤a.sec) && decide (a.sec<sectors)
theorem GI(a:Ad)(devs sectors:Int)(w:World):Calls prog 185 #[adV a,.int .i64 devs,.int .i64 sectors] w fun e t=>e=.returned (.bool (fN a devs sectors))/\aA aB w t:=by
 obtain⟨q,p,i,h,o⟩:=aP w (aO a).toArray 59;obtain⟨j,m⟩:=a;have c0:q.cell? ⟨w.heap.size,0,none⟩=some (.int .i64 j):=aC h rfl;have c1:q.cell? ⟨w.heap.size,1,none⟩=some (.int .i64 m):=aC h rfl;have f:=O i;obtain⟨r,n⟩:=zX9 (fN ⟨j,m⟩ devs sectors)
 have g:=O n;rw[n];clear i h o n;unfold adV;unfold aO at p ⊢
 by_cases h0:2≤devs
 rotate_left
 ·have e:r=false:=by rw[←g.out];simp[fN];omega
  subst e;go_in;go_wp2;go_ret;exact⟨rfl,f.out⟩
 by_cases u:devs≤8
 rotate_left
 ·have e:r=false:=by rw[←g.out];simp[fN];omega
  subst e;go_in;go_wp2;go_ret;exact⟨rfl,f.out⟩
 by_cases z:8≤sectors
 rotate_left
 ·have e:r=false:=by rw[←g.out];simp[fN];omega
  subst e;go_in;go_wp2;go_ret;exact⟨rfl,f.out⟩
 by_cases A:sectors≤4096
 rotate_left
 ·have e:r=false:=by rw[←g.out];simp[fN];omega
  subst e;go_in;go_wp2;go_ret;exact⟨rfl,f.out⟩
 by_cases B:0≤j
 rotate_left
 ·have e:r=false:=by rw[←g.out];simp[fN];omega
  subst e;go_in;go_wp2;go_ret;exact⟨rfl,f.out⟩
 by_cases C:j<devs
 rotate_left
 ·have e:r=false:=by rw[←g.out];simp[fN];omega
  subst e;go_in;go_wp2;go_ret;exact⟨rfl,f.out⟩
 by_cases h6:5≤m
 rotate_left
 ·have e:r=false:=by rw[←g.out];simp[fN];omega
  subst e;go_in;go_wp2;go_ret;exact⟨rfl,f.out⟩
 by_cases h7:m<sectors
 rotate_left
 ·have e:r=false:=by rw[←g.out];simp[fN];omega
  subst e;go_in;go_wp2;go_ret;exact⟨rfl,f.out⟩
 have e:r=true:=by rw[←g.out];simp[fN];omega
 subst e;go_in;go_wp2;go_ret;exact⟨rfl,f.out⟩
theorem Oi(a b:Int)(w:World):(Instr.build 59 #[(0,.int .i64 a),(1,.int .i64 b)]).run prog w=.ok (.agg #[.int .i64 a,.int .i64 b]) w:=by kernel_rfl
end
section
open Go.RowKit Go.Maps Go.ChangeMaps
variable{w:World}{b:Nat}{l:List (Ad×Nix)}
theorem Im(w:World)(va Y:Value)(q ys:List Ad)(u:Rd w 2 va q.length (aR q))(A:Rd w 2 Y ys.length (aR ys))(bb:Bool)(he:decide (q=ys)=bb) :
 Calls prog 76 #[va,Y] w fun e a=>e=.returned (.bool bb)/\aA aB w a:=by
 obtain⟨oa,ca,rfl,qj,ql⟩:=u.form;obtain⟨ob,cb,rfl,qk,qm⟩:=A.form;have U:q.length≤maxLen:=by omega
 unfold maxLen at U;have HE:=O he;have K:=O u;have N:=O A;obtain⟨n,hn⟩:=zX9 q.length
 obtain⟨m,hm⟩:=zX9 ys.length
 have HN:=O hn;have Z:=O hm;rw[hn] at K U;rw[hm] at N;rw[hn,hm];clear u A he qj ql qk qm hn hm
 by_cases V:n=m
 ·subst V
  go_in;go_wp2_with fail
  go_loopw [5] (fun i wr=>∃k:Nat,k≤n/\i=.int .i64 k/\Hid (q.take k=ys.take k)/\Hid (aA aB w wr)) (fun i _=>n-(intOf i).toNat)
  case atStart=>exact⟨0,Nat.zero_le _,rfl,O rfl,O (aA.refl _ _)⟩
  case round =>
  obtain⟨k,hk,rfl,HT,HK⟩:=hrel
  by_cases T:k<n
  ·obtain⟨x,u⟩:∃x,q[k]?=some x:=⟨q[k]'(by rw[HN.out];exact T),List.getElem?_eq_getElem _⟩
   obtain⟨y,A⟩:∃y,ys[k]?=some y:=⟨ys[k]'(by rw[Z.out];exact T),List.getElem?_eq_getElem _⟩
   obtain⟨S,j⟩:∃S:World->Prop,S=fun a=>aA aB w a:=⟨_,rfl⟩
   have r:=K.out;have t:=N.out;rw[←HN.out] at r;rw[←Z.out] at t;obtain⟨g,o,qo,hv,-⟩:=gX r u;obtain⟨Q,X,qn,W,-⟩:=gX t A;have e1:oa=some ⟨g,o,none⟩:=by cases hv;rfl
   have e2:ob=some ⟨Q,X,none⟩:=by cases W;rfl
   subst e1 e2;obtain⟨C,z⟩:=zX9 (aO x)
   obtain⟨E,B⟩:=zX9 (aO y)
   have qc:=O (show ∀a,S a->a.rangeAt g (o+k*2) C from fun a h=>by
    rw[j] at h;obtain⟨g',o',c',H,G⟩:=gX (r.keep h fun _ _=>id) u;cases H
    rw[←z];exact G)
   have qd:=O (show ∀a,S a->a.rangeAt Q (X+k*2) E from fun a h=>by
    rw[j] at h;obtain⟨g',o',c',H,G⟩:=gX (t.keep h fun _ _=>id) A;cases H
    rw[←B];exact G)
   have HX:Hid ((prog.info? 59).map (·.size)=some C.length):=O (by rw[←z];exact cC);have HY:Hid ((prog.info? 59).map (·.size)=some E.length):=O (by rw[←B];exact cC);obtain⟨P,F⟩:=zX9 ((!decide (x=y)))
   have qa:Hid (∀a,Sem.run prog (binOp .neq 59 (.agg C.toArray) (.agg E.toArray)) a=.ok (.bool P) a):=O (fun a=>by rw[←z,←B,←F];exact NW x y a);have I:=O F;have qb:=O (show ∀a,S a->aA aB w a from fun a h=>by rw[j] at h;exact h);have f:S wr.drew:=by rw[j];exact HK.drew
   have qf:Hid (q.take (k+1)=q.take k++[x]):=O (by rw[List.take_add_one,u];rfl);have qg:Hid (ys.take (k+1)=ys.take k++[y]):=O (by rw[List.take_add_one,A];rfl);have qh:=O u;have qi:=O A;have qq:(k:Int)<(n:Int):=by omega
   have qp:(0:Int)≤(k:Int):=by omega
   clear u A j r t hv W z B F HK;go_wp2_with fail;refine wp_region_held (S:=S) (by kernel_rfl) ?_;change wpAnyH _ _ _ _ _ _ _ _ wr.drew;generalize wr.drew=w6 at *;refine tka 0 (.slice (some ⟨g,o,none⟩) n ca) rfl f ?_;simp only[Act.put,List.setIfInBounds_toArray,List.set_cons_zero,List.set_cons_succ,List.getElem_toArray,List.getElem_cons_zero];refine tna 1 (.int .i64 k) rfl f ?_;refine tkd 2 (.pointer (some ⟨g,o+k*2,none⟩)) rfl (.inl ⟨by rfl,fun _ _=>?_⟩) f ?_
   ·go_simp
   refine nrm ?_;refine tnd 3 (.agg C.toArray) rfl (yieldsIf_load_mid (by rfl) 59 (.tmp 19) rfl g (o+k*2) rfl C _ qc.out bT rfl HX.out) f ?_;refine tna 4 (.slice (some ⟨Q,X,none⟩) n cb) rfl f ?_;refine tna 5 (.int .i64 k) rfl f ?_;refine tkd 6 (.pointer (some ⟨Q,X+k*2,none⟩)) rfl (.inl ⟨by rfl,fun _ _=>?_⟩) f ?_
   ·go_simp
   refine nrm ?_;refine tnd 7 (.agg E.toArray) rfl (yieldsIf_load_mid (by rfl) 59 (.tmp 23) rfl Q (X+k*2) rfl E _ qd.out bT rfl HY.out) f ?_;refine tnd 8 (.bool P) rfl (lP (by rfl) 59 (.tmp 20) (.tmp 24) 59 rfl C.toArray E.toArray rfl rfl GH qa.out) f ?_;refine wpAnyH_done (by kernel_rfl) ?_ _;have J:=O (qb _ f);clear f;cases P
   ·have p:x=y:=by have:=I.out;simpa using this
    have qe:Hid (q.take (k+1)=ys.take (k+1)):=O (by rw[qf.out,qg.out,HT.out,p]);clear p;go_wp2
    go_roundw
    case rel=>exact⟨k+1,by omega,by go_num,qe,J⟩
    case measure=>simp[intOf];omega
   ·have p:x≠y:=by have:=I.out;simpa using this
    have R:bb=false:=by
     rw[←HE.out];refine decide_eq_false fun e=>p ?_
     have h1:=qh.out;rw[e,qi.out] at h1;exact(Option.some.inj h1).symm
    subst R;clear p;go_wp2;go_ret;exact⟨rfl,J.out⟩
  ·obtain rfl:k=n:=by omega
   have R:bb=true:=by
    rw[←HE.out];have:=HT.out;rw[List.take_of_length_le (by rw[HN.out];exact Nat.le_refl _),List.take_of_length_le (by rw[Z.out];exact Nat.le_refl _)] at this;exact decide_eq_true this
   subst R;go_wp2;go_ret;exact⟨rfl,HK.out⟩
 ·have R:bb=false:=by
   rw[←HE.out];refine decide_eq_false fun e=>V ?_
   rw[←HN.out,←Z.out,e]
  subst R;have qr:¬(n:Int)=(m:Int):=by omega
  go_in;go_wp2;go_ret;exact⟨rfl,aA.refl _ _⟩
theorem Pg(w:World):(zeroValue 171).run prog w=.ok (.agg #[]) w:=by kernel_rfl
theorem cH.lt(h:cH eW adV fH w b l):b<w.heap.size:=by
 obtain⟨e,clock,a,-⟩:=h;exact lt_of_block a
theorem Gn(h:cH eW adV fH w b l):(cO l).Nodup:=by
 obtain⟨e,clock,f,a⟩:=h;exact a.2.2.2.1
def Nu(w:World)(d:Nat)(a lst:List (Ad×Nix))(e:Ending)(f:World):Prop:=e=.returned (.tuple #[])/\∃s,cH eW adV fH f d s/\(∀q,q∈cO s↔q∈cO a\/q∈cO lst)/\aA (fun k=>k=d) w f
theorem Nv(w:World)(d b:Nat)(g lst:List (Ad×Nix))(hd:cH eW adV fH w d g)(hm:cH eW adV fH w b lst)(qg:d<w.heap.size)(qf:d≠b) :
 Calls prog 146 #[.map (some d),.map (some b)] w (Nu w d g lst):=by
 have HM:=O hm;have HD:=O hd;clear hm hd;go_in
 go_wp2_with (first
  | ((with_reducible show WL _ (.range _ _));refine Bn rfl (.tmp 6) 144 rfl underlying144 rfl HM.out ?_
     intro w1 J r qi;have HI:=O J;have qb:=O r;have W:=O (HD.keep r id);have qk:w.heap.size<w1.heap.size:=by omega
     clear J r qi))
 go_frame
 go_loopw [9] (fun _ wr=>∃(left cur:List (Ad×Nix)) (f:List Ad),Hid (dA eW adV fH wr b w.heap.size lst left)/\Hid (cH eW adV fH wr d cur)/\Hid ((f++cO left).Perm (cO lst))/\Hid (∀q,q∈cO cur↔q∈cO g\/q∈f)/\Hid (aA (fun k=>k=d) w wr)) (fun _ wr=>wr.rangeLeft b w.heap.size)
 case atStart=>exact⟨lst,g,[],HI,W,O (by simp),O (fun q=>by simp),O (qb.any)⟩
 case round =>
 obtain⟨left,cur,f,C,B,HP,HQ,n⟩:=hrel;have A:=O C.count;have qp:=n.size;have qn:d<w.heap.size:=qg;have qh:d≠b:=qf
 go_wp2_with (first
  | ((with_reducible show WL _ (.next _ _));refine Cd rfl (.tmp 7) rfl rfl C.out ?_ ?_))
 ·intro hl
  go_wp2_with fail
  go_end0
  subst hl;exact⟨rfl,cur,B.out,fun q=>by rw[HQ.out q,←HP.mem_iff];simp[cO],n.out⟩
 ·intro i x v z u T K j qj I
  have R:(cO left).Perm (x::cO (left.eraseIdx i)):=by have:=(pM u).map (fun p:Ad×Nix=>p.1);exact this
  have qc:Hid (((f++[x])++cO (left.eraseIdx i)).Perm (cO lst)):=O (by
   refine List.Perm.trans ?_ HP.out;rw[List.append_assoc,List.singleton_append];exact(R.append_left f).symm)
  have N:aA (fun k=>k=d) w z:=n.tT j (fun i hi e=>by omega);have qa:=O K;have Z:=O I;have F:=O N;have qe:=O T;have X:=O (B.keep j (by omega));have H:=O (List.getElem?_eq_some_iff.1 u).1;have ql:wr.heap.size≤z.heap.size:=j.size;have hu:∀x:Nix,fH x=.agg #[]:=fun _=>rfl
  have HU:=O hu;clear u T K j qj I R N hu;unfold adV;rw[HU.out]
  go_wp2_with (first
   | ((with_reducible show WL _ (.entry _));refine Bo rfl (.tmp 7) rfl rfl Z.out ?_;show wpList _ _ _ _ (Act.put _ _ (Value.tuple #[.agg (aO x).toArray,.agg #[]])) _)
   | ((with_reducible show WL (some 4) (.alloc 59));refine aY rfl 59 rfl eM eI #[.int .i64 0,.int .i64 0] rfl ?_)
   | ((with_reducible show WL (some 5) (.alloc 171));refine aY rfl 171 rfl (.agg #[]) Pg #[] rfl ?_)
   | ((with_reducible show WL none (.store 59 (.tmp 4) (.tmp 11)));refine aQ rfl 59 (.tmp 4) (.tmp 11) rfl z.heap.size 0 (aO x) rfl rfl #[.int .i64 0,.int .i64 0] 59 (heap_alloc2_old _ _ _) (Nat.le_refl _) cC (bP _) ?_
      intro w3 o t;rw[aS _ _ (by rfl)] at o;have a:aA aB z w3:=(((aA.refl aB z).alloc _).alloc _).tT t (fun i hi e=>by omega);have Q:=t.blk (heap_alloc2_new z (.cells #[.int .i64 0,.int .i64 0] 59) (.cells #[] 171)) (by omega);have V:=O o;have qm:=O Q;have m:=O a;have qo:=a.size;clear o t a Q)
   | ((with_reducible show WL _ (.load 59 (.tmp 4)));refine wpList_load_mid rfl 59 (.tmp 4) rfl z.heap.size 0 rfl (aO x) _ (aD V.out) bT rfl cC ?_)
   | ((with_reducible show WL none (.mapUpdate 144 (.tmp 13) (.tmp 14) (.tmp 15)));refine mW rfl rfl (.tmp 13) (.tmp 14) (.tmp 15) 144 rfl NV underlying144 x qe.out Nix.nix rfl rfl rfl (X.keep m.out id) ?_
      intro w4 P a;have Y:=O P;have E:=O ((qa.keep m.out id id).keep a (fun e=>qh e.symm) (by omega));have G:=O ((F.trans' m.out (U:=fun k=>k=d) (fun _ _ h=>h) (fun _ _ h=>h.elim)).trans' a (U:=fun k=>k=d) (fun _ _ h=>h) (fun _ _ h=>h));clear P a))
  have qd:Hid (∀q,q∈cO (dW cur x Nix.nix)↔q∈cO g\/q∈f++[x]):=O (fun q=>by
   rw[rQ,HQ.out q,List.mem_append,List.mem_singleton,or_assoc])
  go_roundw
  case rel=>exact⟨_,_,_,E,Y,qc,qd,G⟩
  case measure=>rw[E.count,A.out,List.length_eraseIdx_of_lt H.out];have:=H.out;omega
theorem Lm(w:World)(v vb:Value)(f ys:List Ad)(ho:kR f)(qd:kR ys)(T:Rd w 2 v f.length (aR f))(r:Rd w 2 vb ys.length (aR ys))(hl:f.length+ys.length≤65536):Calls prog 92 #[v,vb] w (nD w (iB (f++ys))):=by
 have HO:=O (fun w v (h:Rd w 2 v f.length (aR f))=>D5 w v f ho h);obtain⟨U,hU⟩:=zX9 (iB (f++ys))
 have qc:=O hU;rw[hU];clear hU;have qa:=O (fun w v (h:Rd w 2 v ys.length (aR ys))=>D5 w v ys qd h);obtain⟨oa,ca,rfl,-,C⟩:=T.form;have p:f.length≤maxLen:=by have h:=T.2;obtain⟨a',K,h1,h2,h3,-⟩:=h;omega
 unfold maxLen at p;clear C;have HR:=O T;obtain⟨n,j⟩:=zX9 f.length
 have HN:=O j;rw[j] at HR p
 try rw[j]
 clear T j;obtain⟨ob,cb,rfl,-,C⟩:=r.form;have o:ys.length≤maxLen:=by have h:=r.2;obtain⟨a',K,h1,h2,h3,-⟩:=h;omega
 unfold maxLen at o;clear C;have I:=O r;obtain⟨m,g⟩:=zX9 ys.length
 have Z:=O g;rw[g] at I o
 try rw[g]
 clear r g;have qf:f.length+ys.length≤65536:=by exact hl
 go_in;go_wp2_with fail;refine(HO w _ (by rw[HN.out];exact HR.out)).mono ?_;rintro e w1 ⟨b1,rfl,A,qg,z⟩;have qi:=A.lt;have u:=O A;have V:=O z;have J:=O (I.keep z fun _ _=>id);clear A z;go_wp2_with fail;refine(qa w1 _ (by rw[Z.out];exact J.out)).mono ?_;rintro e w2 ⟨b2,rfl,B,qh,a⟩;have qj:=B.lt;have qk:=a.size;have Y:=O B;have u:=O (u.keep a id);have W:=O (V.trans a);clear B a;go_wp2_with fail;refine(Nv w2 b1 b2 (gC f) (gC ys) u.out Y.out (by omega) (by omega)).mono ?_;rintro e w4 ⟨rfl,s,Q,R,P⟩;have H:=O Q;have HQ:Hid (∀q,q∈cO s↔q∈f++ys):=O (fun q=>by rw[R q,(pU f).2 q,(pU ys).2 q,List.mem_append]);have G:=O (W.trans' P (U:=aB) (fun _ _ h=>h) (fun i hi e=>by omega));clear Q R P;go_wp2_with fail;have E:=Gn H.out;have N:=(AO E HQ.out).trans qc.out
 have t:s.length≤65536:=by
  have h1:(iL (cO s)).length=s.length:=by rw[wL];exact List.length_map _
  rw[←h1,AO E HQ.out];exact Nat.le_trans (Cv _) (by simp only[List.length_append];omega)
 have L:=D6 w4 b1 s H.out t;rw[N] at L;have L:=O L;have qe:=G.size;clear E N t;go_wp2_with fail;refine L.out.mono ?_;rintro e wf ⟨v,rfl,F,a⟩;obtain⟨va,vc,rfl,-,-⟩:=(Rd.of_owns F).form;have qb:=O (bA F qe);have X:=O (G.trans a);clear F a;go_wp2;go_ret;exact⟨_,rfl,qb.out,X.out⟩
end
end Go.Proofs.YtoeinblfcbpcmaaGreat
