import Derived.Test.YtoeinblfcbpcmaaGreatDoorC8
import Derived.Test.YtoeinblfcbpcmaaGreatDoorLaySort
namespace Go.Proofs.YtoeinblfcbpcmaaGreatDoor
open Tryz
set_option maxHeartbeats 0
set_option maxRecDepth 100000
set_option linter.unusedVariables false
section
open Go.RowKit Go.Sort Go.Maps
instance:Inhabited Adr:=⟨⟨⟨0,0⟩,by unfold fC Ek;exact⟨⟨by decide,by decide⟩,by decide,by decide⟩⟩⟩
def pY(x:Adr):List Value:=aO x.1
theorem wS(x:Adr):(pY x).length=2:=rfl
theorem JR(x:Adr):∀v∈pY x,v.oneCell'=true:=bV _
def Cf(x y:Adr):Int:=yW x.1 y.1
theorem En(x y:Adr):ltOf Cf x y=fW x.1 y.1:=Mk x.1 y.1
theorem zQ(a:Ad):fW a a=false:=by rw[kV];omega
theorem Hr{a b c:Ad}(h:fW a b=true)(k:fW b c=true):fW a c=true:=by rw[rA] at *;omega
theorem uK{a b:Ad}(h:fW a b=false)(k:fW b a=false):a=b:=by
 rw[kV] at *;exact Ad.ext (by omega) (by omega)
theorem QE:SWO (ltOf Cf) where
 irrefl x:=by rw[En];exact zQ _
 trans x y z h k:=by rw[En] at *;exact Hr h k
 ntrans x y z h k:=by
  rw[En] at *;rw[kV] at *;omega
def jE(l:List Ad):List Ad:=l.mergeSort fun x y=>!fW y x
theorem Aw(x y z:Ad):(!fW y x)=true->(!fW z y)=true->(!fW z x)=true:=by
 simp only[Bool.not_eq_true',kV];omega
theorem wT(x y:Ad):(!fW y x || !fW x y)=true:=by
 cases h:fW y x
 ·rfl
 ·have:fW x y=false:=by rw[rA] at h;rw[kV];omega
  rw[this];rfl
theorem Hs{a b:List Ad}(h:a.Perm b):jE a=jE b:=by
 refine List.Perm.eq_of_pairwise (le:=fun x y=>(!fW y x)=true) ?_ (List.pairwise_mergeSort Aw wT a) (List.pairwise_mergeSort Aw wT b) (((List.mergeSort_perm a _).trans h).trans (List.mergeSort_perm b _).symm);intro x y _ _ h k;simp only[Bool.not_eq_true'] at h k;exact uK k h
theorem CM{a:List Ad}{x:Ad}:x∈jE a↔x∈a:=(List.mergeSort_perm a _).mem_iff
theorem OK(w:World):(isAgg 93).run prog w=.ok true w:=by kernel_rfl
theorem Mn(w:World):(Go.sizeOf 93).run prog w=.ok 2 w:=by kernel_rfl
theorem JS(blk off size:Nat)(w:World):CmpLays prog 215 #[] pY 2 Cf blk off size w:=
 fun m os a f x y=>by
  have:=JQ x.1 y.1 (sortWorldK pY 2 w blk off m a os);exact this.mono fun e g h=>h
theorem JT(ys:List Adr):(ys.mergeSort fun x y=>!(ltOf Cf) y x).map (·.1)=jE (ys.map (·.1)):=
 List.map_mergeSort fun a _ b _=>by rw[En]
theorem wU(ys:List Adr):ys.flatMap pY=aJ (ys.map (·.1)):=by
 unfold aJ pY;rw[List.flatMap_map]
theorem Ht(w:World)(base:Nat)(v:Value)(ys:List Adr)(o:w.ownsRow base 93 2 v ys.length (aJ (ys.map (·.1))))(E:ys.length≤65536) :
 Calls prog 243 #[v,.func (.func 215) #[] #[]] w fun e i=>e=.returned (.tuple #[])/\i.ownsRow base 93 2 v ys.length (aJ (jE (ys.map (·.1))))/\aA (fun k=>v.ownBlock=some k) w i:=by
 rcases o.2 with⟨rfl,h0⟩|⟨g,j,cur,rfl,C,p,z,A,B,t⟩
 ·have f:ys=[]:=List.eq_nil_of_length_eq_zero h0
  subst f;have a:=AnyF.slices_SortFunc_none sortAddr none 0 (.func (.func 215) #[] #[]) w;change Calls prog 243 _ _ _ at a;refine a.mono ?_;rintro e i ⟨rfl,rfl⟩;exact⟨rfl,by simpa [jE] using o,aA.refl _ _⟩
 ·have r:∀args w,(callFunc 215 args).run prog w=.ok (.enter 215 args) w:=enters_of func215 (by kernel_rfl) rfl
  have u:HoldsK pY 2 w g 0 ys.toArray:=CL wS (by decide) p (by rw[t,wU])
  have a:=AnyQ.slices_SortFunc_total sortAddr 2 OK Mn pY wS JR Cf QE 215 #[] g 0 j ys.toArray w r (JS g 0 _ w) u (Array.getElem?_eq_some_iff.1 p).1 (by simp;omega)
   (fun x y q f=>by rw[En] at q f;exact Subtype.ext (uK q f))
  change Calls prog 243 _ _ _ at a;rw[List.size_toArray] at a;refine a.mono ?_;rintro e i ⟨rfl,n,os,rfl⟩;refine⟨rfl,?_,?_⟩
  ·have:=zP (m:=n) (os:=os) wS (by decide) o (dk:=(ys.mergeSort fun x y=>!(ltOf Cf) y x).toArray) (by simp)
   rw[List.toList_toArray,wU,JT] at this;exact this
  ·exact(zO pY 2 w g n _ os).mono fun k _ h=>by rw[h];rfl
theorem JU(w:World)(lst:List (Ad×Nix))(g b:Nat)(i:w.heap[g]?=some (.cells #[.map (some b)] 241 (0,0)))(j:bI fC adV fQ w b lst)(f:lst.length≤65536) :
 Calls prog 242 #[.func (.func 244) #[] #[.pointer g]] w (Cd w (lst.map (·.1))):=by
 have C:=O (F4 w lst g b i j f);clear i j;go_in;go_wp2_with fail;refine C.out.mono ?_;rintro e r ⟨v,ys,rfl,n,h,m⟩;obtain⟨a,c,rfl,-,-⟩:=(Rd.of_owns h).form;have q:=O n;have p:=O h;have o:=O m;clear n h m;go_wp2;go_ret;exact⟨_,ys,rfl,q.out,p.out,o.out⟩
def Hu(w:World)(l:List Ad)(e:Ending)(a:World):Prop:=
 ∃v,e=.returned v/\a.ownsRow w.heap.size 93 2 v l.length (aJ (jE l))/\aA aB w a
theorem Mo(w:World)(lst:List (Ad×Nix))(u b:Nat)(I:w.heap[u]?=some (.cells #[.map (some b)] 241 (0,0)))(F:bI fC adV fQ w b lst)(n:lst.length≤65536) :
 Calls prog 213 #[.func (.func 244) #[] #[.pointer u],.func (.func 215) #[] #[]] w (Hu w (lst.map (·.1))):=by
 have C:=O (JU w lst u b I F n)
 have t:∀y∈lst.map (·.1),fC y:=by
  obtain⟨T,clock,-,P⟩:=F;intro y Q;obtain⟨p,j,rfl⟩:=List.mem_map.1 Q;exact P.2.2.2.2 p j
 have E:=O t;clear I F t;go_in;go_wp2_with fail;refine C.out.mono ?_;rintro e R ⟨v,ys,rfl,j,o,J⟩;obtain⟨a,c,rfl,-,-⟩:=(Rd.of_owns o).form;obtain⟨f,rfl⟩:∃f:List Adr,f.map (·.1)=ys:=⟨ys.attach.map fun y=>⟨y.1,E _ (j.subset y.2)⟩,by simp⟩
 have g:(f.map (·.1)).length=f.length:=List.length_map _;have G:f.length≤65536:=by have:=j.length_eq;simp only[List.length_map] at this;omega
 rw[g] at o;have D:=O (Ht R w.heap.size _ f o G);have H:=O j;have K:=O J
 have r:∀k,w.heap.size≤k\/¬(Value.slice a f.length c).ownBlock=some k:=fun k=>by
  by_cases e:(Value.slice a f.length c).ownBlock=some k
  ·exact .inl (aX o e)
  ·exact .inr e
 have B:=O r;clear j o J r;rw[g];go_wp2_with fail;refine D.out.mono ?_;rintro e V ⟨rfl,q,m⟩;have A:=O q;have z:=O m;clear q m;go_wp2;go_ret;refine⟨_,rfl,?_,K.tT z.out fun i U e=>?_⟩
 ·have N:=H.length_eq
  rw[←Hs H.out,←N,g];exact A.out
 ·rcases B.out i with h|h
  ·omega
  ·exact h e
end
section
open Go.RowKit Go.Maps Go.ChangeMaps
def jF(l:List Ad):Prop:=∀x∈l,fC x
variable{l:List Ad}{k:Nat}{x y:Ad}{w:World}{v:Value}
theorem oM(l:List Ad):(aJ l).length=l.length*2:=qY bD l
theorem Hv(h:l[k]?=some x){j:Nat}(a:j<2):(aJ l)[k*2+j]?=(aO x)[j]?:=by
 unfold aJ;rw[As bD (by decide),show (k*2+j) / 2=k by omega,show (k*2+j) % 2=j by omega,h,Option.bind_some]
theorem fT(h:Rd w 2 v l.length (aJ l))(m:l[k]?=some x) :
 ∃g o e,v=.slice (some ⟨g,o,none⟩) l.length e/\w.rangeAt g (o+k*2) (aO x):=by
 obtain⟨h0,a,e,rfl,r,t,z,n⟩:=h;have q:=(List.getElem?_eq_some_iff.1 m).1;obtain⟨g,o,rfl,p⟩:=n (by rw[oM];omega);refine⟨g,o,e,rfl,fun j u i=>?_⟩;have f:j<2:=(List.getElem?_eq_some_iff.1 i).1;have:=p (k*2+j) u (by rw[Hv m f];exact i)
 rwa [←Nat.add_assoc] at this
theorem gR(a b:List Ad):aJ (a++b)=aJ a++aJ b:=by simp[aJ]
theorem zR(x:Ad):aJ [x]=aO x:=by simp[aJ]
theorem oN(l:List Ad):∀u∈aJ l,u.oneCell'=true:=by
 intro u a;obtain⟨x,_,e⟩:=List.mem_flatMap.1 a;exact bV x u e
def gW(l:List Ad):List (Ad×Nix):=l.foldl (fun s a=>cJ s a .nix) []
theorem Hw(l:List Ad)(x:Ad):gW (l++[x])=cJ (gW l) x .nix:=by simp[gW]
theorem Hx(s:List (Ad×Nix))(a:Ad):(cJ s a .nix).length≤s.length+1:=by
 unfold cJ;split<;>simp
theorem JV(l:List Ad):(gW l).length≤l.length:=by
 suffices h:∀(l:List Ad) (s:List (Ad×Nix)),(l.foldl (fun s a=>cJ s a .nix) s).length≤s.length+l.length by simpa [gW] using h l []
 intro l
 induction l with
 | nil=>intro s;simp
 | cons x l e=>intro s;have f:=e (cJ s x .nix);have g:=Hx s x;simp only[List.foldl_cons,List.length_cons];omega
theorem PY{n:Nat}(h:Rd w 2 v n (aJ l))(j:n=l.length){b:Nat}(i:w.heap.size≤b):¬(0<n/\v.ownBlock=some b):=fun ⟨h0,e⟩=>by
 have:=h.lt (by rw[oM];omega);obtain⟨g,a,f⟩:=this;rw[e] at a;cases a;omega
def PZ(w:World)(l:List Ad)(e:Ending)(a:World):Prop:=∃b,e=.returned (.map (some b))/\bI fC adV fQ a b (gW l)/\w.heap.size≤b/\aA aB w a
theorem JW(w:World)(v:Value)(l:List Ad)(ho:jF l)(hr:Rd w 2 v l.length (aJ l)):Calls prog 158 #[v] w (PZ w l):=by
 have qm:=@run_makeMap prog;obtain⟨av,cv,rfl,qj,qk⟩:=hr.form;have q:l.length≤maxLen:=by omega
 unfold maxLen at q;clear qj qk;obtain⟨n,hn⟩:=zX9 l.length
 have HR:=O hr;have X:=O hn;clear hr;rw[hn] at HR q ⊢;clear hn;go_in;go_wp2_with fail;obtain⟨B,m⟩:=zX9 (w.alloc (.map #[] 0))
 have N:aA aB w B:=by rw[←m];exact(aA.refl _ _).alloc _
 have qr:B.heap.size=w.heap.size+1:=by rw[←m,World.size_alloc]
 have T:bI fC adV fQ B w.heap.size (gW []):=by rw[←m];exact bI.made _
 rw[m];have F:=O N;have qc:=O T;clear m N T qm
 go_loopw [9] (fun i wr=>∃k:Nat,k≤n/\i=.int .i64 k/\Hid (bI fC adV fQ wr w.heap.size (gW (l.take k)))/\Hid (aA (fun j=>j=w.heap.size) B wr)) (fun i _=>n-(intOf i).toNat)
 case atStart=>exact⟨0,Nat.zero_le _,rfl,qc,O (aA.refl _ _)⟩
 case round =>
  obtain⟨k,hk,rfl,HM,E⟩:=hrel
  by_cases ql:k<n
  ·obtain⟨x,Y⟩:∃x,l[k]?=some x:=⟨l[k]'(by rw[X.out];exact ql),List.getElem?_eq_getElem _⟩
   have W:fC x:=ho x (List.mem_of_getElem? Y);have R:aA (fun j=>j=w.heap.size) w wr:=F.trans' E.out (fun _ _ h=>h.elim) (fun _ _ h=>h);have A:=HR.keep R (fun b hb e=>PY HR.out X.symm (Nat.le_of_eq e.symm) ⟨by omega,hb⟩);rw[←X.out] at A;obtain⟨g,o,qq,hv,f⟩:=fT A Y;have qn:av=some ⟨g,o,none⟩:=by cases hv;rfl
   subst qn;have Z:=O f;have qh:=O W;have qf:Hid (gW (l.take (k+1))=cJ (gW (l.take k)) x .nix):=O (by rw[List.take_add_one,Y,←Hw];rfl);have qo:adV x=.agg (aO x).toArray:=rfl;obtain⟨p,a⟩:=zX9 (aO x)
   have qp:=O a;have r:Hid ((prog.info? 93).map (·.size)=some p.length):=O (by rw[←a];exact cK);have K:Hid (p.length=2):=O (by rw[←a];rfl);have qg:Hid (∀u∈p,u.oneCell'=true):=O (by rw[←a];exact bV x);have qi:Hid (adV x=.agg p.toArray):=O (by rw[←a];rfl);rw[a] at Z;have qt:=E.size;clear Y W R A hv f qo a
   go_wp2_with (first
    | ((with_reducible show WL (some 12) (.load 93 (.tmp 11)));refine wpList_load_mid rfl 93 (.tmp 11) rfl g (o+k*2) rfl p _ Z.out bY rfl r.out ?_)
    | ((with_reducible show WL (some 5) (.alloc 93));refine aG rfl 93 rfl eN eI #[.int .i64 0,.int .i64 0] rfl ?_)
    | ((with_reducible show WL none (.store 93 (.tmp 5) (.tmp 12)));refine aE rfl 93 (.tmp 5) (.tmp 12) rfl wr.heap.size 0 p rfl rfl #[.int .i64 0,.int .i64 0] 93 (heap_alloc_new _ _) (by rw[K.out];exact Nat.le_refl _) r.out qg.out ?_
       intro w3 t P;rw[aI _ _ (by rw[K.out];rfl)] at t;have z:aA aB wr w3:=((aA.refl aB wr).alloc _).tT P (fun i hi e=>by omega);have C:=O t;have H:=O z;have I:=O (HM.keep z id);clear t P z)
    | ((with_reducible show WL (some 14) (.load 93 (.tmp 5)));refine wpList_load_mid rfl 93 (.tmp 5) rfl wr.heap.size 0 rfl p _ (aD C.out) bY rfl r.out ?_)
    | ((with_reducible show WL none (.mapUpdate 241 (.tmp 13) (.tmp 14) (.tmp 15)));refine nP rfl rfl (.tmp 13) (.tmp 14) (.tmp 15) 241 rfl Ow underlying241 x qh.out Nix.nix rfl qi.symm rfl I.out ?_
       intro w4 V Q;have J:=O V;have G:=O Q;clear V Q))
   have qd:=O (show bI fC adV fQ w4 w.heap.size (gW (l.take (k+1))) by rw[qf.out];exact J.out);have qa:=O ((E.tT H.out (fun _ _ h=>h.elim)).trans' G.out (U:=fun j=>j=w.heap.size) (fun _ _ h=>h) (fun _ _ h=>h));clear J G I H E HM C Z
   go_roundw
   case rel=>exact⟨k+1,by omega,by go_num,qd,qa⟩
   case measure=>simp[intOf];omega
  ·obtain rfl:k=n:=by omega
   have qe:Hid (bI fC adV fQ wr w.heap.size (gW l)):=O (by have:=HM.out;rwa [List.take_of_length_le (by rw[X.out];exact Nat.le_refl _)] at this);go_wp2;go_ret;exact⟨_,rfl,qe.out,Nat.le_refl _,F.tT E.out (fun i hi e=>by omega)⟩
def cS(s:List (Ad×Nix)):List Ad:=s.map (·.1)
def Eo(w:World)(l:List Ad)(e:Ending)(a:World):Prop:=∃v,e=.returned v/\a.ownsRow w.heap.size 93 2 v l.length (aJ l)/\aA aB w a
theorem wV(l:List Ad):(jE l).length=l.length:=List.length_mergeSort _
theorem Mp(w:World)(b:Nat)(s:List (Ad×Nix))(h:bI fC adV fQ w b s)(u:s.length≤65536):Calls prog 160 #[.map (some b)] w (Eo w (jE (cS s))):=by
 obtain⟨j,g⟩:=zX9 (w.alloc (.cells #[.map (some b)] 241))
 have f:aA aB w j:=by rw[←g];exact(aA.refl _ _).alloc _
 have i:j.heap[w.heap.size]?=some (.cells #[.map (some b)] 241 (0,0)):=by rw[←g];exact heap_alloc_new _ _
 have C:=O (Mo j s w.heap.size b i (h.keep f id) u);have n:=O f;have o:=O g;have p:=f.size;have K:=O (F3 (some b) w);clear h f i g;go_in;go_wp2_with fail;refine K.out.mono ?_;rintro e z ⟨rfl,rfl⟩;rw[o.out];go_wp2_with fail;refine C.out.mono ?_;rintro e A ⟨v,rfl,m,q⟩;rw[List.length_map] at m;obtain⟨a,c,rfl,-,-⟩:=(Rd.of_owns m).form;have t:=O m;have r:=O (n.trans q);clear m q;go_wp2;go_ret;refine⟨_,rfl,?_,r.out⟩;rw[wV,show (cS s).length=s.length from List.length_map _];exact aQ t.out p
def uL(l:List Ad):Prop:=l.Pairwise fun x y=>fW x y=true
theorem Hy(h:fW x y=true):fW y x=false:=by rw[rA] at h;rw[kV];omega
theorem GN(h:fW x y=true):x≠y:=by
 intro e;subst e;rw[zQ] at h;cases h
theorem CN:∀{l m:List Ad},uL l->uL m->(∀x,x∈l↔x∈m)->l=m
 | [],[],_,_,_=>rfl
 | [],y::m,_,_,h=>absurd ((h y).2 (by simp)) (by simp)
 | x::l,[],_,_,h=>absurd ((h x).1 (by simp)) (by simp)
 | x::l,y::m,i,j,h=>by
   unfold uL at i j;rw[List.pairwise_cons] at i j
   have o:x=y:=by
    have f:x=y\/x∈m:=by simpa using (h x).1 (by simp)
    have g:y=x\/y∈l:=by simpa using (h y).2 (by simp)
    rcases f with f|f
    ·exact f
    ·rcases g with g|g
     ·exact g.symm
     ·have a:=j.1 x f
      rw[Hy (i.1 y g)] at a;cases a
   subst o
   have:l=m:=CN i.2 j.2 fun z=>by
    constructor
    ·intro n
     have:z=x\/z∈m:=by simpa using (h z).1 (by simp[n])
     exact this.resolve_left fun e=>GN (i.1 z n) e.symm
    ·intro n
     have:z=x\/z∈l:=by simpa using (h z).2 (by simp[n])
     exact this.resolve_left fun e=>GN (j.1 z n) e.symm
   rw[this]
theorem rY(l:List (Ad×Nix))(a x:Ad)(v:Nix):x∈cS (cJ l a v)↔x∈cS l\/x=a:=by
 unfold cJ cS;split
 ·rename_i h
  have i:(l.map fun p=>if p.1=a then (a,v) else p).map (·.1)=l.map (·.1):=by
   rw[List.map_map];apply List.map_congr_left;intro p _;simp only[Function.comp];split
   ·rename_i e;exact e.symm
   ·rfl
  rw[i];constructor
  ·exact fun h=>.inl h
  ·rintro (f|rfl)
   ·exact f
   ·obtain⟨p,j,g⟩:=List.any_eq_true.1 h
    exact List.mem_map.2 ⟨p,j,of_decide_eq_true g⟩
 ·simp
theorem Ep{l:List (Ad×Nix)}(h:(cS l).Nodup)(a:Ad)(v:Nix):(cS (cJ l a v)).Nodup:=by
 unfold cJ cS at *;split
 ·have i:(l.map fun p=>if p.1=a then (a,v) else p).map (·.1)=l.map (·.1):=by
   rw[List.map_map];apply List.map_congr_left;intro p _;simp only[Function.comp];split
   ·rename_i e;exact e.symm
   ·rfl
  rw[i];exact h
 ·rename_i j
  rw[List.map_append,List.nodup_append];refine⟨h,by simp,?_⟩;intro x n y f e;simp only[List.map_cons,List.map_nil,List.mem_singleton] at f;subst f;subst e;obtain⟨p,m,g⟩:=List.mem_map.1 n;exact j (List.any_eq_true.2 ⟨p,m,decide_eq_true g⟩)
theorem pZ(l:List Ad):(cS (gW l)).Nodup/\∀x,x∈cS (gW l)↔x∈l:=by
 suffices h:∀(l:List Ad) (s:List (Ad×Nix)),(cS s).Nodup->(cS (l.foldl (fun s a=>cJ s a .nix) s)).Nodup/\∀x,x∈cS (l.foldl (fun s a=>cJ s a .nix) s)↔x∈cS s\/x∈l by
  have:=h l [] (by simp[cS]);exact⟨this.1,fun x=>by rw[show gW l=l.foldl (fun s a=>cJ s a .nix) [] from rfl,this.2 x];simp[cS]⟩
 intro l
 induction l with
 | nil=>intro s e;exact⟨e,fun x=>by simp⟩
 | cons a l f =>
   intro s e;have:=f (cJ s a .nix) (Ep e a .nix);refine⟨this.1,fun x=>?_⟩;rw[List.foldl_cons,this.2 x,rY,List.mem_cons];constructor
   ·rintro ((h|h)|h)<;>simp[h]
   ·rintro (h|h|h)<;>simp[h]
theorem zS(h:l.Nodup):uL (jE l):=by
 have a:(jE l).Pairwise fun x y=>(!fW y x)=true:=List.pairwise_mergeSort Aw wT l
 have f:(jE l).Nodup:=(List.mergeSort_perm l _).nodup_iff.2 h;refine(List.Pairwise.and a f).imp fun {x y} ⟨p,q⟩=>?_
 simp only[Bool.not_eq_true'] at p;cases e:fW x y
 ·exact absurd (uK e p) q
 ·rfl
def cX(l:List Ad):List Ad:=jE (cS (gW l))
theorem F5(l:List Ad):uL (cX l):=zS (pZ l).1
theorem mH:x∈cX l↔x∈l:=by unfold cX;rw[CM];exact(pZ l).2 x
theorem Ax{m:List Ad}(h:uL l)(a:∀x,x∈l↔x∈m):l=cX m:=CN h (F5 m) fun x=>by rw[mH];exact a x
theorem JX(l:List Ad):(cX l).length≤l.length:=by
 unfold cX;rw[wV];unfold cS;rw[List.length_map];exact JV l
theorem Bc{s:List (Ad×Nix)}(h:(cS s).Nodup)(a:∀x,x∈cS s↔x∈l):jE (cS s)=cX l:=Ax (zS h) fun x=>by rw[CM];exact a x
end
section
def dX(L:List Ad)(d s:Nat):Bool:=decide ((⟨(d:Int),(s:Int)⟩:Ad)∈L)
def iS(L:List Ad)(d s:Nat):Bool:=decide (5≤s) && !dX L d s
def aZ(L:List Ad)(d k:Nat):List Int:=((List.range k).filter (iS L d)).map fun(s:Nat)=>(s:Int)
variable{L M:List Ad}{d k S:Nat}{x:Int}
theorem zT(L:List Ad)(d k:Nat):aZ L d (k+1)=aZ L d k++if iS L d k then [(k:Int)] else []:=by
 unfold aZ;rw[List.range_succ,List.filter_append,List.map_append]
 congr 1
 cases h:iS L d k<;>simp[h]
theorem F6(L:List Ad)(d:Nat):aZ L d 5=[]:=by
 unfold aZ
 have:(List.range 5).filter (iS L d)=[]:=by
  rw[List.filter_eq_nil_iff];intro s a;have:=List.mem_range.1 a;unfold iS;rw[decide_eq_false (by omega:¬5≤s)];simp
 rw[this];rfl
theorem qA:x∈aZ L d k↔∃s:Nat,x=(s:Int)/\s<k/\5≤s/\dX L d s=false:=by
 unfold aZ;rw[List.mem_map];constructor
 ·rintro⟨s,g,rfl⟩
  obtain⟨e,a⟩:=List.mem_filter.1 g;unfold iS at a;rw[Bool.and_eq_true] at a;exact⟨s,rfl,List.mem_range.1 e,of_decide_eq_true a.1,by simpa using a.2⟩
 ·rintro⟨s,rfl,e,a,f⟩
  refine⟨s,List.mem_filter.2 ⟨List.mem_range.2 e,?_⟩,rfl⟩;unfold iS;rw[decide_eq_true a,f];rfl
theorem Er(L:List Ad)(d k:Nat):(aZ L d k).Pairwise (·<·):=by
 unfold aZ;rw[List.pairwise_map];refine(List.Pairwise.filter _ List.pairwise_lt_range).imp ?_;intro a b h;exact Int.ofNat_lt.2 h
theorem uM(L:List Ad)(d k:Nat):(aZ L d k).length≤k-5:=by
 induction k with
 | zero=>simp[aZ]
 | succ k a =>
   rw[zT,List.length_append];cases h:iS L d k
   ·simp only[Bool.false_eq_true,if_false,List.length_nil];omega
   ·unfold iS at h
    rw[Bool.and_eq_true] at h;have:=of_decide_eq_true h.1;simp only[if_true,List.length_singleton];omega
theorem mV(h:∀s,s<k->5≤s->dX L d s=dX M d s):aZ L d k=aZ M d k:=by
 unfold aZ;rw[List.filter_congr];intro s e;unfold iS
 by_cases a:5≤s
 ·rw[h s (List.mem_range.1 e) a]
 ·rw[decide_eq_false a];rfl
theorem zU(h:∀x,x∈L↔x∈M)(d s:Nat):dX L d s=dX M d s:=by
 unfold dX;rw[decide_eq_decide];exact h _
theorem qB(L:List Ad)(e t d s:Nat):dX (L++[⟨(e:Int),(t:Int)⟩]) d s=(dX L d s || (decide (d=e) && decide (s=t))):=by
 unfold dX;rw[Bool.eq_iff_iff];simp only[List.mem_append,List.mem_singleton,decide_eq_true_eq,Bool.or_eq_true,Bool.and_eq_true,Ad.mk.injEq];constructor
 ·rintro (h|⟨a,f⟩)
  ·exact .inl h
  ·exact .inr ⟨by omega,by omega⟩
 ·rintro (h|⟨a,f⟩)
  ·exact .inl h
  ·exact .inr ⟨by omega,by omega⟩
theorem oO{r:List Int}(h:aZ L d S=x::r):∃t:Nat,x=(t:Int)/\t<S/\5≤t/\dX L d t=false/\(∀s,5≤s->s<t->dX L d s=true)/\aZ (L++[⟨(d:Int),x⟩]) d S=r:=by
 have n:x∈aZ L d S:=by rw[h];exact List.mem_cons_self ..
 obtain⟨t,rfl,i,j,m⟩:=qA.1 n;have f:=Er L d S;rw[h,List.pairwise_cons] at f;refine⟨t,rfl,i,j,m,fun s g o=>?_,?_⟩
 ·cases p:dX L d s with
  | true=>rfl
  | false =>
    have:(s:Int)∈aZ L d S:=qA.2 ⟨s,rfl,by omega,g,p⟩;rw[h] at this;rcases List.mem_cons.1 this with e|e
    ·omega
    ·have:=f.1 _ e
     omega
 ·have e:aZ (L++[⟨(d:Int),(t:Int)⟩]) d S=(aZ L d S).filter fun y=>!decide (y=(t:Int)):=by
   unfold aZ;rw[List.filter_map,List.filter_filter]
   congr 1
   refine List.filter_congr fun s u=>?_
   unfold iS;rw[qB];simp only[Function.comp,decide_true,Bool.true_and]
   by_cases e:s=t
   ·subst e;simp
   ·have:¬(s:Int)=(t:Int):=by omega
    simp[e,this]
  rw[e,h,List.filter_cons];rw[if_neg (by simp)];refine List.filter_eq_self.2 fun y q=>?_
  have:=f.1 y q;have a:¬y=(t:Int):=by omega
  simp[a]
theorem Es{e t:Nat}(h:d≠e):aZ (L++[⟨(e:Int),(t:Int)⟩]) d S=aZ L d S:=mV fun s _ _=>by
 rw[qB,decide_eq_false h];simp
def bW(x:Ad)(D S:Nat):Prop:=0≤x.1/\x.1<(D:Int)/\5≤x.2/\x.2<(S:Int)
def bN(L:List Ad)(D S:Nat):List Int:=(List.range D).map fun d=>((aZ L d S).length:Int)
theorem jA(L:List Ad)(D S:Nat):(bN L D S).length=D:=by simp[bN]
theorem oX(L:List Ad){D:Nat}(h:d<D):(bN L D S).getD d 0=((aZ L d S).length:Int):=by
 unfold bN;rw[List.getD_eq_getElem?_getD,List.getElem?_map,List.getElem?_range h];rfl
end
section
open Go.RowKit Go.Maps Go.ChangeMaps
def wv(x:BitVec 64):Value:=.int .u64 (x.toNat:Int)
variable{w:World}{b D d s:Nat}{c:Nat->Option Nat}{L M:List Ad}
theorem oP(x:BitVec 64):BitVec.ofInt 64 (x.toNat:Int)=x:=by simp
theorem Ay(n:Nat)(h:n<18446744073709551616):IntKind.u64.wrap (n:Int)=(n:Int):=by
 show ((n:Int) % 18446744073709551616)=n;omega
theorem JY(x:BitVec 64):x.toNat<18446744073709551616:=x.isLt
theorem Et(x y:BitVec 64):bits .and .u64 (x.toNat:Int) (y.toNat:Int)=((x &&& y).toNat:Int):=by
 show IntKind.u64.wrap ((BitVec.ofInt 64 (x.toNat:Int) &&& BitVec.ofInt 64 (y.toNat:Int)).toNat:Int)=_;rw[oP,oP,Ay _ (JY _)]
theorem OL(i:Nat)(h:i<64):IntKind.u64.wrap ((2:Int) ^ i)=((BitVec.twoPow 64 i).toNat:Int):=by
 rw[BitVec.toNat_twoPow,Nat.mod_eq_of_lt (Nat.pow_lt_pow_right (by decide) h)];have:((2:Int) ^ i)=((2 ^ i:Nat):Int):=by simp
 rw[this,Ay _ (Nat.pow_lt_pow_right (by decide) h)]
theorem GO(x:BitVec 64)(i:Nat):(x.toNat:Int) / 2 ^ i=((x >>> i).toNat:Int):=by
 rw[BitVec.toNat_ushiftRight,Nat.shiftRight_eq_div_pow];simp
theorem GP(x:BitVec 64)(i:Nat):decide (((x >>> i &&& 1#64).toNat:Int)=1)=x.getLsbD i:=by
 have h:x >>> i &&& 1#64=if x.getLsbD i then 1#64 else 0#64:=by
  apply BitVec.eq_of_getLsbD_eq;intro j a;rw[BitVec.getLsbD_and,BitVec.getLsbD_ushiftRight]
  by_cases h0:j=0
  ·subst h0
   cases x.getLsbD i<;>simp
  ·have:(1#64).getLsbD j=false:=by simp[BitVec.getLsbD_one,h0]
   rw[this];cases x.getLsbD i<;>simp[BitVec.getLsbD_one,h0]
 rw[h];cases x.getLsbD i<;>rfl
theorem Mq(x y:BitVec 64):bits .xor .u64 (x.toNat:Int) (y.toNat:Int)=((x ^^^ y).toNat:Int):=by
 show IntKind.u64.wrap ((BitVec.ofInt 64 (x.toNat:Int) ^^^ BitVec.ofInt 64 (y.toNat:Int)).toNat:Int)=_;rw[oP,oP,Ay _ (JY _)]
theorem Mr(x:BitVec 64)(i j:Nat)(a:i<64):(x ^^^ BitVec.twoPow 64 i).getLsbD j=(x.getLsbD j != decide (i=j)):=by
 rw[BitVec.getLsbD_xor,BitVec.getLsbD_twoPow];simp[a]
structure bT(w:World)(b:Nat)(c:Nat->Option Nat)(D:Nat)(L:List Ad):Prop where
 row:∃cs:Array Value,w.heap[b]?=some (.cells cs 158 (0,0))/\cs.size=D*65 /\
  (∀d,d<D->∀k,k<64->∃x:BitVec 64,cs[d*65+k]?=some (wv x)/\∀j,j<64->x.getLsbD j=dX L d (64*k+j)) /\
  ∀d,d<D->cs[d*65+64]?=some (.chan (c d))
theorem bT.keep{S:Nat->Prop}{a:World}(h:bT w b c D L)(k:aA S w a)(i:¬S b):bT a b c D L:=by
 obtain⟨e,f,g⟩:=h.row;exact⟨e,k.blk f i,g⟩
theorem bT.congr(h:bT w b c D L)(p:∀x,x∈L↔x∈M):bT w b c D M:=by
 obtain⟨a,e,f,g,i⟩:=h.row;refine⟨a,e,f,fun d o k r=>?_,i⟩;obtain⟨x,m,n⟩:=g d o k r;exact⟨x,m,fun j q=>by rw[n j q,zU p]⟩
theorem bT.lt(h:bT w b c D L):b<w.heap.size:=by
 obtain⟨e,a,-⟩:=h.row;exact(Array.getElem?_eq_some_iff.1 a).1
theorem bT.word(h:bT w b c D L)(i:d<D)(o:s<4096):∃x:BitVec 64,w.cell? ⟨b,d*65+s / 64,none⟩=some (wv x)/\x.getLsbD (s % 64)=dX L d s:=by
 obtain⟨j,a,m,e,n⟩:=h.row;obtain⟨x,f,g⟩:=e d i (s / 64) (by omega);refine⟨x,aC a f,?_⟩;rw[g _ (Nat.mod_lt _ (by decide)),Nat.div_add_mod]
theorem bT.chan(h:bT w b c D L)(f:d<D):w.cell? ⟨b,d*65+64,none⟩=some (.chan (c d)):=by
 obtain⟨g,a,i,j,e⟩:=h.row;exact aC a (e d f)
theorem bT.free(h:bT w b c D L)(i:Nat):w.frozen? ⟨b,i,none⟩=false:=by
 obtain⟨e,a,-⟩:=h.row;exact bP a i
theorem Q5{e k l:Nat}(a:k<65)(f:l<65)(h:d*65+k=e*65+l):d=e/\k=l:=by omega
theorem bT.flip(h:bT w b c D L)(E:d<D)(K:s<4096){x:BitVec 64}(J:w.cell? ⟨b,d*65+s / 64,none⟩=some (wv x))
 (C:∀e t,e<D->t<4096->dX M e t=(dX L e t != (decide (e=d) && decide (t=s)))) :
 bT (w.setCell ⟨b,d*65+s / 64,none⟩ (wv (x ^^^ BitVec.twoPow 64 (s % 64)))) b c D M/\aA (fun k=>k=b) w (w.setCell ⟨b,d*65+s / 64,none⟩ (wv (x ^^^ BitVec.twoPow 64 (s % 64)))):=by
 obtain⟨r,u,z,A,G⟩:=h.row;have H:=cH u (d*65+s / 64) (wv (x ^^^ BitVec.twoPow 64 (s % 64)))
 have n:d*65+s / 64<r.size:=by
  rw[z];have:d*65+65≤D*65:=by omega
  omega
 have o:r[d*65+s / 64]?=some (wv x):=by
  obtain⟨y,f,-⟩:=A d E (s / 64) (by omega);have:=aC u f;rw[J] at this;rw[f,←this]
 refine⟨⟨_,H,by rw[Array.size_setIfInBounds];exact z,fun e i k I=>?_,fun e i=>?_⟩,(aA.refl (fun k=>k=b) w).setCell (p:=⟨b,_,none⟩) (fun _=>rfl) _⟩
 ·obtain⟨y,f,B⟩:=A e i k I
  by_cases a:d*65+s / 64=e*65+k
  ·obtain⟨rfl,rfl⟩:=Q5 (by omega) (by omega) a
   refine⟨_,by rw[Array.getElem?_setIfInBounds_self_of_lt n],fun j m=>?_⟩;rw[o] at f
   have q:x=y:=by
    have g:wv x=wv y:=Option.some.inj f;unfold wv at g;injection g with _ F
    exact BitVec.eq_of_toNat_eq (by omega)
   subst q;rw[Mr _ _ _ (Nat.mod_lt _ (by decide)),B j m,C _ _ E (by omega),decide_eq_true rfl,Bool.true_and]
   congr 1
   rw[decide_eq_decide];omega
  ·refine⟨y,by rw[Array.getElem?_setIfInBounds_ne a];exact f,fun j m=>?_⟩
   rw[B j m,C _ _ i (by omega)]
   have:(decide (e=d) && decide (64*k+j=s))=false:=by
    rw[Bool.and_eq_false_iff,decide_eq_false_iff_not,decide_eq_false_iff_not]
    by_cases g:e=d
    ·subst g
     refine .inr fun F=>a ?_
     omega
    ·exact .inl g
   rw[this];simp
 ·rw[Array.getElem?_setIfInBounds_ne (by omega)]
  exact G e i
theorem bT.lay(h:bT w b c D L)(z:d<D)(v:Option Nat) :
 bT (w.setCell ⟨b,d*65+64,none⟩ (.chan v)) b (fun e=>if e=d then v else c e) D L/\aA (fun k=>k=b) w (w.setCell ⟨b,d*65+64,none⟩ (.chan v)):=by
 obtain⟨j,m,i,n,o⟩:=h.row;have t:=cH m (d*65+64) (.chan v)
 have f:d*65+64<j.size:=by
  rw[i];have:d*65+65≤D*65:=by omega
  omega
 refine⟨⟨_,t,by rw[Array.size_setIfInBounds];exact i,fun e a k u=>?_,fun e a=>?_⟩,(aA.refl (fun k=>k=b) w).setCell (p:=⟨b,_,none⟩) (fun _=>rfl) _⟩
 ·obtain⟨y,q,r⟩:=n e a k u
  exact⟨y,by rw[Array.getElem?_setIfInBounds_ne (by omega)];exact q,r⟩
 ·by_cases g:e=d
  ·subst g
   rw[Array.getElem?_setIfInBounds_self_of_lt f,if_pos rfl]
  ·rw[Array.getElem?_setIfInBounds_ne (by omega),if_neg g]
   exact o e a
theorem Ms(w:World)(b D:Nat)(c:Nat->Option Nat)(L:List Ad)(h:bT w b c D L)(d s:Nat)(K:d<D)(T:s<4096) :
 Calls prog 156 #[.pointer (some ⟨b,d*65,none⟩),.int .i64 (s:Int)] w fun e X=>e=.returned (.bool (dX L d s))/\w=X:=by
 obtain⟨x,t,z⟩:=h.word K T;obtain⟨q,f⟩:=zX9 (s / 64)
 obtain⟨r,g⟩:=zX9 (s % 64)
 have F:q<64:=by omega
 have H:r<64:=by omega
 rw[f] at t;rw[g] at z;have B:=GO x r;have u:=Et (x >>> r) 1#64;have p:=GP x r;rw[z] at p;obtain⟨xv,m⟩:∃n:Int,(x.toNat:Int)=n:=⟨_,rfl⟩
 obtain⟨sv,j⟩:∃n:Int,((x >>> r).toNat:Int)=n:=⟨_,rfl⟩
 obtain⟨rv,i⟩:∃n:Int,((x >>> r &&& 1#64).toNat:Int)=n:=⟨_,rfl⟩
 obtain⟨I,a⟩:=zX9 (dX L d s)
 have A:(((1#64:BitVec 64).toNat:Nat):Int)=1:=rfl;unfold wv at t;rw[A] at u;rw[m] at t B;rw[j] at B u;rw[i] at u p;rw[a] at p ⊢;have J:(rv == 1)=I:=p;obtain⟨o,E⟩:=zX9 (d*65)
 rw[E] at t ⊢;have Z:(s:Int) / 64=(q:Int):=by omega
 have Y:(s:Int) % 64=(r:Int):=by omega
 have U:(0:Int)≤(s:Int):=by omega
 have G:(s:Int).tdiv 64=(q:Int):=by rw[Int.tdiv_eq_ediv_of_nonneg (by omega)];omega
 have C:(s:Int).tmod 64=(r:Int):=by rw[Int.tmod_eq_emod_of_nonneg (by omega)];omega
 have V:IntKind.i64.wrap (q:Int)=(q:Int):=by rw[IntWalk.i64_in _ (by omega)]
 have W:IntKind.i64.wrap (r:Int)=(r:Int):=by rw[IntWalk.i64_in _ (by omega)]
 have N:(0:Int)≤(q:Int):=by omega
 have P:(q:Int)<64:=by omega
 have Q:(0:Int)≤(r:Int):=by omega
 have R:(r:Int)<64:=by omega
 clear h z m j i a A E f g;go_in;go_wp2;go_ret;exact⟨rfl,rfl⟩
end
section
open Go.RowKit
theorem rB{P:Program}{e:Array Oper}{S:World->Prop}{op:Oper}{a:Act}(j:Region.wanted op (yielded e a.tmps)=true)(t:TypeId)(x y:Operand)(o:TypeId)(i:op.op=.binOp .neq t x y o)
 (f ys:Array Value) (m:a.eval x=.agg f) (n:a.eval y=.agg ys) (g:P.eqGuardType P.depth t=false){b:Bool}(h:∀w,(binOp .neq t (.agg f) (.agg ys)).run P w=.ok (.bool b) w):YieldsIf P e S op (.bool b) a:=
 .inl ⟨j,fun w _=>by
  unfold execOp;simp only[i,m,n,Sem.run_bind,Sem.run_pure,Result.andThen_ok,run_eqGuard_agg w .neq t x y f ys g,h w]⟩
theorem GQ:prog.eqGuardType prog.depth 93=false:=by kernel_rfl
theorem OM:prog.stoodInHeld 93=false:=by kernel_rfl
theorem P1(a b:Ad)(w:World):Sem.run prog (binOp .eql 93 (.agg (aO a).toArray) (.agg (aO b).toArray)) w=.ok (.bool (decide (a=b))) w:=by
 have e:decide (a=b)=(decide (a.dev=b.dev) && decide (a.sec=b.sec)):=by rw[Bool.eq_iff_iff];simp[Ad.ext_iff]
 rw[e,run_eql_struct,run_equalIn_agg w 9999 93 _ _ bY OM,wP,Mj];have m:∀x y:Int,(Op.equalIn 9999 3 (.int .i64 x) (.int .i64 y)).run prog w=.ok (x == y) w:=fun x y=>run_equalIn_int w 9998 3 .i64 .i64 x y underlying3
 have j:∀x y:Int,(x == y)=decide (x=y):=fun x y=>by rw[Bool.eq_iff_iff];simp
 have f:(aO a).toArray[0]?=some (.int .i64 a.dev):=rfl;have g:(aO a).toArray[1]?=some (.int .i64 a.sec):=rfl;have h:(aO b).toArray[0]?=some (.int .i64 b.dev):=rfl;have i:(aO b).toArray[1]?=some (.int .i64 b.sec):=rfl;simp only[eqT,ne_eq,String.reduceEq,not_false_eq_true,if_true,Sem.run_bind,Sem.run_ite,Sem.run_pure,Result.andThen_ok,uI _ 0 _ f,uI _ 0 _ h,uI _ 1 _ g,uI _ 1 _ i,m,j];cases decide (a.dev=b.dev)<;>cases decide (a.sec=b.sec)<;>rfl
theorem QG(a b:Ad)(w:World):Sem.run prog (binOp .neq 93 (.agg (aO a).toArray) (.agg (aO b).toArray)) w=.ok (.bool (!decide (a=b))) w:=uH (P1 a b w)
theorem Mw(w:World)(va Z:Value)(q ys:List Ad)(u:Rd w 2 va q.length (aJ q))(A:Rd w 2 Z ys.length (aJ ys))(P:Bool)(he:decide (q=ys)=P) :
 Calls prog 88 #[va,Z] w fun e a=>e=.returned (.bool P)/\aA aB w a:=by
 obtain⟨oa,ca,rfl,qk,qm⟩:=u.form;obtain⟨ob,cb,rfl,ql,qn⟩:=A.form;have V:q.length≤maxLen:=by omega
 unfold maxLen at V;have HE:=O he;have K:=O u;have N:=O A;obtain⟨n,hn⟩:=zX9 q.length
 obtain⟨m,hm⟩:=zX9 ys.length
 have HN:=O hn;have HM:=O hm;rw[hn] at K V;rw[hm] at N;rw[hn,hm];clear u A he qk qm ql qn hn hm
 by_cases W:n=m
 ·subst W
  go_in;go_wp2_with fail
  go_loopw [5] (fun i wr=>∃k:Nat,k≤n/\i=.int .i64 k/\Hid (q.take k=ys.take k)/\Hid (aA aB w wr)) (fun i _=>n-(intOf i).toNat)
  case atStart=>exact⟨0,Nat.zero_le _,rfl,O rfl,O (aA.refl _ _)⟩
  case round =>
  obtain⟨k,hk,rfl,HT,HK⟩:=hrel
  by_cases U:k<n
  ·obtain⟨x,u⟩:∃x,q[k]?=some x:=⟨q[k]'(by rw[HN.out];exact U),List.getElem?_eq_getElem _⟩
   obtain⟨y,A⟩:∃y,ys[k]?=some y:=⟨ys[k]'(by rw[HM.out];exact U),List.getElem?_eq_getElem _⟩
   obtain⟨S,j⟩:∃S:World->Prop,S=fun a=>aA aB w a:=⟨_,rfl⟩
   have r:=K.out;have t:=N.out;rw[←HN.out] at r;rw[←HM.out] at t;obtain⟨g,o,qp,hv,-⟩:=fT r u;obtain⟨R,Y,qo,X,-⟩:=fT t A;have e1:oa=some ⟨g,o,none⟩:=by cases hv;rfl
   have e2:ob=some ⟨R,Y,none⟩:=by cases X;rfl
   subst e1 e2;obtain⟨C,z⟩:=zX9 (aO x)
   obtain⟨E,B⟩:=zX9 (aO y)
   have qd:=O (show ∀a,S a->a.rangeAt g (o+k*2) C from fun a h=>by
    rw[j] at h;obtain⟨g',o',c',H,G⟩:=fT (r.keep h fun _ _=>id) u;cases H
    rw[←z];exact G)
   have qe:=O (show ∀a,S a->a.rangeAt R (Y+k*2) E from fun a h=>by
    rw[j] at h;obtain⟨g',o',c',H,G⟩:=fT (t.keep h fun _ _=>id) A;cases H
    rw[←B];exact G)
   have HX:Hid ((prog.info? 93).map (·.size)=some C.length):=O (by rw[←z];exact cK);have HY:Hid ((prog.info? 93).map (·.size)=some E.length):=O (by rw[←B];exact cK);obtain⟨Q,F⟩:=zX9 ((!decide (x=y)))
   have qa:Hid (∀a,Sem.run prog (binOp .neq 93 (.agg C.toArray) (.agg E.toArray)) a=.ok (.bool Q) a):=O (fun a=>by rw[←z,←B,←F];exact QG x y a);have I:=O F;have qc:=O (show ∀a,S a->aA aB w a from fun a h=>by rw[j] at h;exact h);have f:S wr.drew:=by rw[j];exact HK.drew
   have qg:Hid (q.take (k+1)=q.take k++[x]):=O (by rw[List.take_add_one,u];rfl);have qh:Hid (ys.take (k+1)=ys.take k++[y]):=O (by rw[List.take_add_one,A];rfl);have qi:=O u;have qj:=O A;have qr:(k:Int)<(n:Int):=by omega
   have qq:(0:Int)≤(k:Int):=by omega
   clear u A j r t hv X z B F HK;go_wp2_with fail;refine wp_region_held (S:=S) (by kernel_rfl) ?_;change wpAnyH _ _ _ _ _ _ _ _ wr.drew;generalize wr.drew=w6 at *;refine tka 0 (.slice (some ⟨g,o,none⟩) n ca) rfl f ?_;simp only[Act.put,List.setIfInBounds_toArray,List.set_cons_zero,List.set_cons_succ,List.getElem_toArray,List.getElem_cons_zero];refine tna 1 (.int .i64 k) rfl f ?_;refine tkd 2 (.pointer (some ⟨g,o+k*2,none⟩)) rfl (.inl ⟨by rfl,fun _ _=>?_⟩) f ?_
   ·go_simp
   refine nrm ?_;refine tnd 3 (.agg C.toArray) rfl (yieldsIf_load_mid (by rfl) 93 (.tmp 19) rfl g (o+k*2) rfl C _ qd.out bY rfl HX.out) f ?_;refine tna 4 (.slice (some ⟨R,Y,none⟩) n cb) rfl f ?_;refine tna 5 (.int .i64 k) rfl f ?_;refine tkd 6 (.pointer (some ⟨R,Y+k*2,none⟩)) rfl (.inl ⟨by rfl,fun _ _=>?_⟩) f ?_
   ·go_simp
   refine nrm ?_;refine tnd 7 (.agg E.toArray) rfl (yieldsIf_load_mid (by rfl) 93 (.tmp 23) rfl R (Y+k*2) rfl E _ qe.out bY rfl HY.out) f ?_;refine tnd 8 (.bool Q) rfl (rB (by rfl) 93 (.tmp 20) (.tmp 24) 93 rfl C.toArray E.toArray rfl rfl GQ qa.out) f ?_;refine wpAnyH_done (by kernel_rfl) ?_ _;have J:=O (qc _ f);clear f;cases Q
   ·have p:x=y:=by have:=I.out;simpa using this
    have qf:Hid (q.take (k+1)=ys.take (k+1)):=O (by rw[qg.out,qh.out,HT.out,p]);clear p;go_wp2
    go_roundw
    case rel=>exact⟨k+1,by omega,by go_num,qf,J⟩
    case measure=>simp[intOf];omega
   ·have p:x≠y:=by have:=I.out;simpa using this
    have T:P=false:=by
     rw[←HE.out];refine decide_eq_false fun e=>p ?_
     have h1:=qi.out;rw[e,qj.out] at h1;exact(Option.some.inj h1).symm
    subst T;clear p;go_wp2;go_ret;exact⟨rfl,J.out⟩
  ·obtain rfl:k=n:=by omega
   have T:P=true:=by
    rw[←HE.out];have:=HT.out;rw[List.take_of_length_le (by rw[HN.out];exact Nat.le_refl _),List.take_of_length_le (by rw[HM.out];exact Nat.le_refl _)] at this;exact decide_eq_true this
   subst T;go_wp2;go_ret;exact⟨rfl,HK.out⟩
 ·have T:P=false:=by
   rw[←HE.out];refine decide_eq_false fun e=>W ?_
   rw[←HN.out,←HM.out,e]
  subst T;have qt:¬(n:Int)=(m:Int):=by omega
  go_in;go_wp2;go_ret;exact⟨rfl,aA.refl _ _⟩
def fL(a:Ad)(devs sectors:Int):Bool:=decide (2≤devs) && decide (devs≤8) && decide (8≤sectors) && decide (sectors≤4096) && decide (0≤a.dev) && decide (a.dev<devs) && decide (5≤a.sec) && decide (a.sec<sectors)
theorem GR(a:Ad)(devs sectors:Int)(w:World):Calls prog 142 #[adV a,.int .i64 devs,.int .i64 sectors] w fun e t=>e=.returned (.bool (fL a devs sectors))/\aA aB w t:=by
 obtain⟨q,p,i,h,o⟩:=aM w (aO a).toArray 93;obtain⟨j,m⟩:=a;have c0:q.cell? ⟨w.heap.size,0,none⟩=some (.int .i64 j):=aC h rfl;have c1:q.cell? ⟨w.heap.size,1,none⟩=some (.int .i64 m):=aC h rfl;have f:=O i;obtain⟨r,n⟩:=zX9 (fL ⟨j,m⟩ devs sectors)
 have g:=O n;rw[n];clear i h o n;unfold adV;unfold aO at p ⊢
 by_cases h0:2≤devs
 rotate_left
 ·have e:r=false:=by rw[←g.out];simp[fL];omega
  subst e;go_in;go_wp2;go_ret;exact⟨rfl,f.out⟩
 by_cases u:devs≤8
 rotate_left
 ·have e:r=false:=by rw[←g.out];simp[fL];omega
  subst e;go_in;go_wp2;go_ret;exact⟨rfl,f.out⟩
 by_cases z:8≤sectors
 rotate_left
 ·have e:r=false:=by rw[←g.out];simp[fL];omega
  subst e;go_in;go_wp2;go_ret;exact⟨rfl,f.out⟩
 by_cases A:sectors≤4096
 rotate_left
 ·have e:r=false:=by rw[←g.out];simp[fL];omega
  subst e;go_in;go_wp2;go_ret;exact⟨rfl,f.out⟩
 by_cases B:0≤j
 rotate_left
 ·have e:r=false:=by rw[←g.out];simp[fL];omega
  subst e;go_in;go_wp2;go_ret;exact⟨rfl,f.out⟩
 by_cases C:j<devs
 rotate_left
 ·have e:r=false:=by rw[←g.out];simp[fL];omega
  subst e;go_in;go_wp2;go_ret;exact⟨rfl,f.out⟩
 by_cases E:5≤m
 rotate_left
 ·have e:r=false:=by rw[←g.out];simp[fL];omega
  subst e;go_in;go_wp2;go_ret;exact⟨rfl,f.out⟩
 by_cases F:m<sectors
 rotate_left
 ·have e:r=false:=by rw[←g.out];simp[fL];omega
  subst e;go_in;go_wp2;go_ret;exact⟨rfl,f.out⟩
 have e:r=true:=by rw[←g.out];simp[fL];omega
 subst e;go_in;go_wp2;go_ret;exact⟨rfl,f.out⟩
theorem ON(a b:Int)(w:World):(Instr.build 93 #[(0,.int .i64 a),(1,.int .i64 b)]).run prog w=.ok (.agg #[.int .i64 a,.int .i64 b]) w:=by kernel_rfl
end
section
open Go.RowKit Go.Maps Go.ChangeMaps
variable{b:Nat}{w:World}{l:List (Ad×Nix)}
theorem Az{P:Program}{e:Array Oper}{S:World->Prop}{op:Oper}{a:Act}(j:Region.wanted op (yielded e a.tmps)=true)(t:TypeId)(x y:Operand)(o:TypeId)(i:op.op=.binOp .eql t x y o)
 (f ys:Array Value) (m:a.eval x=.agg f) (n:a.eval y=.agg ys) (g:P.eqGuardType P.depth t=false){b:Bool}(h:∀w,(binOp .eql t (.agg f) (.agg ys)).run P w=.ok (.bool b) w):YieldsIf P e S op (.bool b) a:=
 .inl ⟨j,fun w _=>by
  unfold execOp;simp only[i,m,n,Sem.run_bind,Sem.run_pure,Result.andThen_ok,run_eqGuard_agg w .eql t x y f ys g,h w]⟩
theorem Pq(w:World):(zeroValue 244).run prog w=.ok (.agg #[]) w:=by kernel_rfl
theorem bI.lt(h:bI fC adV fQ w b l):b<w.heap.size:=by
 obtain⟨e,clock,a,-⟩:=h;exact lt_of_block a
theorem Gn(h:bI fC adV fQ w b l):(cS l).Nodup:=by
 obtain⟨e,clock,f,a⟩:=h;exact a.2.2.2.1
def Nx(w:World)(d:Nat)(a lst:List (Ad×Nix))(e:Ending)(f:World):Prop:=e=.returned (.tuple #[])/\∃s,bI fC adV fQ f d s/\(∀q,q∈cS s↔q∈cS a\/q∈cS lst)/\aA (fun k=>k=d) w f
theorem Ny(w:World)(d b:Nat)(g lst:List (Ad×Nix))(hd:bI fC adV fQ w d g)(hm:bI fC adV fQ w b lst)(qh:d<w.heap.size)(qg:d≠b) :
 Calls prog 159 #[.map (some d),.map (some b)] w (Nx w d g lst):=by
 have HM:=O hm;have HD:=O hd;clear hm hd;go_in
 go_wp2_with (first
  | ((with_reducible show WL _ (.range _ _));refine BC rfl (.tmp 6) 241 rfl underlying241 rfl HM.out ?_
     intro w1 J r qj;have HI:=O J;have qc:=O r;have W:=O (HD.keep r id);have ql:w.heap.size<w1.heap.size:=by omega
     clear J r qj))
 go_frame
 go_loopw [9] (fun _ wr=>∃(left cur:List (Ad×Nix)) (f:List Ad),Hid (dC fC adV fQ wr b w.heap.size lst left)/\Hid (bI fC adV fQ wr d cur)/\Hid ((f++cS left).Perm (cS lst))/\Hid (∀q,q∈cS cur↔q∈cS g\/q∈f)/\Hid (aA (fun k=>k=d) w wr)) (fun _ wr=>wr.rangeLeft b w.heap.size)
 case atStart=>exact⟨lst,g,[],HI,W,O (by simp),O (fun q=>by simp),O (qc.any)⟩
 case round =>
 obtain⟨left,cur,f,C,B,HP,HQ,n⟩:=hrel;have A:=O C.count;have qq:=n.size;have qo:d<w.heap.size:=qh;have qi:d≠b:=qg
 go_wp2_with (first
  | ((with_reducible show WL _ (.next _ _));refine Cw rfl (.tmp 7) rfl rfl C.out ?_ ?_))
 ·intro hl
  go_wp2_with fail
  go_end0
  subst hl;exact⟨rfl,cur,B.out,fun q=>by rw[HQ.out q,←HP.mem_iff];simp[cS],n.out⟩
 ·intro i x v z u T K j qk I
  have R:(cS left).Perm (x::cS (left.eraseIdx i)):=by have:=(lS u).map (fun p:Ad×Nix=>p.1);exact this
  have qd:Hid (((f++[x])++cS (left.eraseIdx i)).Perm (cS lst)):=O (by
   refine List.Perm.trans ?_ HP.out;rw[List.append_assoc,List.singleton_append];exact(R.append_left f).symm)
  have N:aA (fun k=>k=d) w z:=n.tT j (fun i hi e=>by omega);have qa:=O K;have Z:=O I;have F:=O N;have qf:=O T;have X:=O (B.keep j (by omega));have H:=O (List.getElem?_eq_some_iff.1 u).1;have qm:wr.heap.size≤z.heap.size:=j.size;have hu:∀x:Nix,fQ x=.agg #[]:=fun _=>rfl
  have HU:=O hu;clear u T K j qk I R N hu;unfold adV;rw[HU.out]
  go_wp2_with (first
   | ((with_reducible show WL _ (.entry _));refine BD rfl (.tmp 7) rfl rfl Z.out ?_;show wpList _ _ _ _ (Act.put _ _ (Value.tuple #[.agg (aO x).toArray,.agg #[]])) _)
   | ((with_reducible show WL (some 4) (.alloc 93));refine aG rfl 93 rfl eN eI #[.int .i64 0,.int .i64 0] rfl ?_)
   | ((with_reducible show WL (some 5) (.alloc 244));refine aG rfl 244 rfl (.agg #[]) Pq #[] rfl ?_)
   | ((with_reducible show WL none (.store 93 (.tmp 4) (.tmp 11)));refine aE rfl 93 (.tmp 4) (.tmp 11) rfl z.heap.size 0 (aO x) rfl rfl #[.int .i64 0,.int .i64 0] 93 (heap_alloc2_old _ _ _) (Nat.le_refl _) cK (bV _) ?_
      intro w3 o t;rw[aI _ _ (by rfl)] at o;have a:aA aB z w3:=(((aA.refl aB z).alloc _).alloc _).tT t (fun i hi e=>by omega);have Q:=t.blk (heap_alloc2_new z (.cells #[.int .i64 0,.int .i64 0] 93) (.cells #[] 244)) (by omega);have V:=O o;have qn:=O Q;have m:=O a;have qp:=a.size;clear o t a Q)
   | ((with_reducible show WL _ (.load 93 (.tmp 4)));refine wpList_load_mid rfl 93 (.tmp 4) rfl z.heap.size 0 rfl (aO x) _ (aD V.out) bY rfl cK ?_)
   | ((with_reducible show WL none (.mapUpdate 241 (.tmp 13) (.tmp 14) (.tmp 15)));refine nP rfl rfl (.tmp 13) (.tmp 14) (.tmp 15) 241 rfl Ow underlying241 x qf.out Nix.nix rfl rfl rfl (X.keep m.out id) ?_
      intro w4 P a;have Y:=O P;have E:=O ((qa.keep m.out id id).keep a (fun e=>qi e.symm) (by omega));have G:=O ((F.trans' m.out (U:=fun k=>k=d) (fun _ _ h=>h) (fun _ _ h=>h.elim)).trans' a (U:=fun k=>k=d) (fun _ _ h=>h) (fun _ _ h=>h));clear P a))
  have qe:Hid (∀q,q∈cS (cJ cur x Nix.nix)↔q∈cS g\/q∈f++[x]):=O (fun q=>by
   rw[rY,HQ.out q,List.mem_append,List.mem_singleton,or_assoc])
  go_roundw
  case rel=>exact⟨_,_,_,E,Y,qd,qe,G⟩
  case measure=>rw[E.count,A.out,List.length_eraseIdx_of_lt H.out];have:=H.out;omega
theorem C9(w:World)(v vb:Value)(f ys:List Ad)(ho:jF f)(qe:jF ys)(T:Rd w 2 v f.length (aJ f))(r:Rd w 2 vb ys.length (aJ ys))(hl:f.length+ys.length≤65536):Calls prog 106 #[v,vb] w (Eo w (cX (f++ys))):=by
 have HO:=O (fun w v (h:Rd w 2 v f.length (aJ f))=>JW w v f ho h);obtain⟨U,hU⟩:=zX9 (cX (f++ys))
 have qd:=O hU;rw[hU];clear hU;have qa:=O (fun w v (h:Rd w 2 v ys.length (aJ ys))=>JW w v ys qe h);obtain⟨oa,ca,rfl,-,C⟩:=T.form;have p:f.length≤maxLen:=by have h:=T.2;obtain⟨a',K,h1,h2,h3,-⟩:=h;omega
 unfold maxLen at p;clear C;have HR:=O T;obtain⟨n,j⟩:=zX9 f.length
 have HN:=O j;rw[j] at HR p
 try rw[j]
 clear T j;obtain⟨ob,cb,rfl,-,C⟩:=r.form;have o:ys.length≤maxLen:=by have h:=r.2;obtain⟨a',K,h1,h2,h3,-⟩:=h;omega
 unfold maxLen at o;clear C;have I:=O r;obtain⟨m,g⟩:=zX9 ys.length
 have Z:=O g;rw[g] at I o
 try rw[g]
 clear r g;have qg:f.length+ys.length≤65536:=by exact hl
 go_in;go_wp2_with fail;refine(HO w _ (by rw[HN.out];exact HR.out)).mono ?_;rintro e w1 ⟨b1,rfl,A,qh,z⟩;have qj:=A.lt;have u:=O A;have V:=O z;have J:=O (I.keep z fun _ _=>id);clear A z;go_wp2_with fail;refine(qa w1 _ (by rw[Z.out];exact J.out)).mono ?_;rintro e w2 ⟨b2,rfl,B,qi,a⟩;have qk:=B.lt;have ql:=a.size;have Y:=O B;have u:=O (u.keep a id);have W:=O (V.trans a);clear B a;go_wp2_with fail;refine(Ny w2 b1 b2 (gW f) (gW ys) u.out Y.out (by omega) (by omega)).mono ?_;rintro e w4 ⟨rfl,s,Q,R,P⟩;have H:=O Q;have HQ:Hid (∀q,q∈cS s↔q∈f++ys):=O (fun q=>by rw[R q,(pZ f).2 q,(pZ ys).2 q,List.mem_append]);have G:=O (W.trans' P (U:=aB) (fun _ _ h=>h) (fun i hi e=>by omega));clear Q R P;go_wp2_with fail;have E:=Gn H.out;have N:=(Bc E HQ.out).trans qd.out
 have t:s.length≤65536:=by
  have h1:(jE (cS s)).length=s.length:=by rw[wV];exact List.length_map _
  rw[←h1,Bc E HQ.out];exact Nat.le_trans (JX _) (by simp only[List.length_append];omega)
 have L:=Mp w4 b1 s H.out t;rw[N] at L;have L:=O L;have qf:=G.size;clear E N t;go_wp2_with fail;refine L.out.mono ?_;rintro e wf ⟨v,rfl,F,a⟩;obtain⟨va,vc,rfl,-,-⟩:=(Rd.of_owns F).form;have qc:=O (aQ F qf);have X:=O (G.trans a);clear F a;go_wp2;go_ret;exact⟨_,rfl,qc.out,X.out⟩
end
end Go.Proofs.YtoeinblfcbpcmaaGreatDoor
