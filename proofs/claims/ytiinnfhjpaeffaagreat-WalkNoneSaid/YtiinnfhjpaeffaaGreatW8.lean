import Derived.Test.YtiinnfhjpaeffaaGreatW1
import Derived.Test.YtiinnfhjpaeffaaGreatW7
import Derived.Test.YtiinnfhjpaeffaaGreatLaySort
namespace Go.Proofs.YtiinnfhjpaeffaaGreat
set_option maxHeartbeats 64000000
set_option maxRecDepth 100000
set_option linter.unusedVariables false
section
open Go.RowKit Go.Sort Go.Maps
instance:Inhabited Adr:=⟨⟨⟨0,0⟩,by unfold eM Cd;exact⟨⟨by decide,by decide⟩,by decide,by decide⟩⟩⟩
def oM(x:Adr):List Value:=aO x.1
theorem tM(x:Adr):(oM x).length=2:=rfl
theorem G7(x:Adr):∀v∈oM x,v.oneCell'=true:=bL _
def zX(x y:Adr):Int:=vF x.1 y.1
theorem Cf(x y:Adr):ltOf zX x y=fD x.1 y.1:=JA x.1 y.1
theorem vZ(a:Ad):fD a a=false:=by rw[jT];omega
theorem Fi{a b c:Ad}(h:fD a b=true)(k:fD b c=true):fD a c=true:=by rw[pF] at *;omega
theorem rX{a b:Ad}(h:fD a b=false)(k:fD b a=false):a=b:=by
 rw[jT] at *;exact Ad.ext (by omega) (by omega)
theorem NR:SWO (ltOf zX) where
 irrefl x:=by rw[Cf];exact vZ _
 trans x y z h k:=by rw[Cf] at *;exact Fi h k
 ntrans x y z h k:=by
  rw[Cf] at *;rw[jT] at *;omega
def gU(l:List Ad):List Ad:=l.mergeSort fun x y=>!fD y x
theorem wV(x y z:Ad):(!fD y x)=true->(!fD z y)=true->(!fD z x)=true:=by
 simp only[Bool.not_eq_true',jT];omega
theorem tN(x y:Ad):(!fD y x || !fD x y)=true:=by
 cases h:fD y x
 ·rfl
 ·have:fD x y=false:=by rw[pF] at h;rw[jT];omega
  rw[this];rfl
theorem Fj{a b:List Ad}(h:a.Perm b):gU a=gU b:=by
 refine List.Perm.eq_of_pairwise (le:=fun x y=>(!fD y x)=true) ?_ (List.pairwise_mergeSort wV tN a) (List.pairwise_mergeSort wV tN b) (((List.mergeSort_perm a _).trans h).trans (List.mergeSort_perm b _).symm);intro x y _ _ h k;simp only[Bool.not_eq_true'] at h k;exact rX k h
theorem AK{a:List Ad}{x:Ad}:x∈gU a↔x∈a:=(List.mergeSort_perm a _).mem_iff
theorem LH(w:World):(isAgg 82).run Tryz.prog w=.ok true w:=by kernel_rfl
theorem JC(w:World):(Go.sizeOf 82).run Tryz.prog w=.ok 2 w:=by kernel_rfl
theorem G8(blk off size:Nat)(w:World):CmpLays Tryz.prog 106 #[] oM 2 zX blk off size w:=
 fun m os dk hs x y=>by
  have:=G6 x.1 y.1 (sortWorldK oM 2 w blk off m dk os);exact this.mono fun e w' h=>h
theorem G9(ys:List Adr):(ys.mergeSort fun x y=>!(ltOf zX) y x).map (·.1)=gU (ys.map (·.1)):=
 List.map_mergeSort fun a _ b _=>by rw[Cf]
theorem tO(ys:List Adr):ys.flatMap oM=aQ (ys.map (·.1)):=by
 unfold aQ oM;rw[List.flatMap_map]
theorem Fk(w:World)(base:Nat)(v:Value)(ys:List Adr)(ho:w.ownsRow base 82 2 v ys.length (aQ (ys.map (·.1))))(hl:ys.length≤65536) :
 Calls Tryz.prog 151 #[v,.func (.func 106) #[] #[]] w fun e w'=>e=.returned (.tuple #[])/\w'.ownsRow base 82 2 v ys.length (aQ (gU (ys.map (·.1))))/\aA (fun k=>v.ownBlock=some k) w w':=by
 rcases ho.2 with⟨rfl,h0⟩|⟨g,cap,cur,rfl,hb,hh,h1,h2,h3,h4⟩
 ·have hy:ys=[]:=List.eq_nil_of_length_eq_zero h0
  subst hy;have hc:=AnyF.slices_SortFunc_none sortAddr none 0 (.func (.func 106) #[] #[]) w;change Calls Tryz.prog 151 _ _ _ at hc;refine hc.mono ?_;rintro e w' ⟨rfl,rfl⟩;exact⟨rfl,by simpa [gU] using ho,aA.refl _ _⟩
 ·have eg:∀args w,(callFunc 106 args).run Tryz.prog w=.ok (.enter 106 args) w:=enters_of Tryz.func106 (by kernel_rfl) rfl
  have hH:HoldsK oM 2 w g 0 ys.toArray:=GZ tM (by decide) hh (by rw[h4,tO])
  have hc:=AnyQ.slices_SortFunc_total sortAddr 2 LH JC oM tM G7 zX NR 106 #[] g 0 cap ys.toArray w eg (G8 g 0 _ w) hH (Array.getElem?_eq_some_iff.1 hh).1 (by simp;omega)
   (fun x y hx hy=>by rw[Cf] at hx hy;exact Subtype.ext (rX hx hy))
  change Calls Tryz.prog 151 _ _ _ at hc;rw[List.size_toArray] at hc;refine hc.mono ?_;rintro e w' ⟨rfl,n,os,rfl⟩;refine⟨rfl,?_,?_⟩
  ·have:=DZ (m:=n) (os:=os) tM (by decide) ho (dk:=(ys.mergeSort fun x y=>!(ltOf zX) y x).toArray) (by simp)
   rw[List.toList_toArray,tO,G9] at this;exact this
  ·exact(DY oM 2 w g n _ os).mono fun k _ h=>by rw[h];rfl
theorem Ha(w:World)(lst:List (Ad×Nix))(B1 b:Nat)(h1:w.heap[B1]?=some (.cells #[.map (some b)] 122 (0,0)))(h2:cN eM adV eS w b lst)(hlen:lst.length≤65536) :
 Calls Tryz.prog 150 #[.func (.func 152) #[] #[.pointer (some ⟨B1,0,none⟩)]] w (zV w (lst.map (·.1))):=by
 have C:=O (D2 w lst B1 b h1 h2 hlen);clear h1 h2;go_in;go_wp2_with fail;refine C.out.mono ?_;rintro e w' ⟨v,ys,rfl,hp,ho,hk⟩;obtain⟨a,c,rfl,-,-⟩:=(Rd.of_owns ho).form;have HP:=O hp;have HO:=O ho;have HK:=O hk;clear hp ho hk;go_wp2;go_ret;exact⟨_,ys,rfl,HP.out,HO.out,HK.out⟩
def Fl(w:World)(l:List Ad)(e:Ending)(w':World):Prop:=
 ∃v,e=.returned v/\w'.ownsRow w.heap.size 82 2 v l.length (aQ (gU l))/\aA aB w w'
theorem JD(w:World)(lst:List (Ad×Nix))(B1 b:Nat)(h1:w.heap[B1]?=some (.cells #[.map (some b)] 122 (0,0)))(h2:cN eM adV eS w b lst)(hlen:lst.length≤65536) :
 Calls Tryz.prog 104 #[.func (.func 152) #[] #[.pointer (some ⟨B1,0,none⟩)],.func (.func 106) #[] #[]] w (Fl w (lst.map (·.1))):=by
 have C:=O (Ha w lst B1 b h1 h2 hlen)
 have hok:∀y∈lst.map (·.1),eM y:=by
  obtain⟨es,clock,-,hm⟩:=h2;intro y hy;obtain⟨p,hp,rfl⟩:=List.mem_map.1 hy;exact hm.2.2.2.2 p hp
 have HOK:=O hok;clear h1 h2 hok;go_in;go_wp2_with fail;refine C.out.mono ?_;rintro e w1 ⟨v,ys,rfl,hp,ho,hk⟩;obtain⟨a,c,rfl,-,-⟩:=(Rd.of_owns ho).form;obtain⟨zs,rfl⟩:∃zs:List Adr,zs.map (·.1)=ys:=⟨ys.attach.map fun y=>⟨y.1,HOK.out _ (hp.subset y.2)⟩,by simp⟩
 have hzl:(zs.map (·.1)).length=zs.length:=List.length_map _;have hzn:zs.length≤65536:=by have:=hp.length_eq;simp only[List.length_map] at this;omega
 rw[hzl] at ho;have D:=O (Fk w1 w.heap.size _ zs ho hzn);have HP:=O hp;have HK:=O hk
 have hob:∀k,w.heap.size≤k\/¬(Value.slice a zs.length c).ownBlock=some k:=fun k=>by
  by_cases e:(Value.slice a zs.length c).ownBlock=some k
  ·exact .inl (bJ ho e)
  ·exact .inr e
 have HOB:=O hob;clear hp ho hk hob;rw[hzl];go_wp2_with fail;refine D.out.mono ?_;rintro e w2 ⟨rfl,ho2,hk2⟩;have HO2:=O ho2;have HK2:=O hk2;clear ho2 hk2;go_wp2;go_ret;refine⟨_,rfl,?_,HK.out.trans' HK2.out (fun _ _ h=>h) fun i hi e=>?_⟩
 ·have e1:=HP.out.length_eq
  rw[←Fj HP.out,←e1,hzl];exact HO2.out
 ·rcases HOB.out i with h|h
  ·omega
  ·exact h e
end
section
open Go.RowKit Go.Maps Go.ChangeMaps
def jU(l:List Ad):Prop:=∀x∈l,eM x
theorem qP(l:List Ad):(aQ l).length=l.length*2:=pE bC l
theorem Fm{l:List Ad}{k:Nat}{x:Ad}(h:l[k]?=some x){j:Nat}(hj:j<2):(aQ l)[k*2+j]?=(aO x)[j]?:=by
 unfold aQ;rw[wU bC (by decide),show (k*2+j) / 2=k by omega,show (k*2+j) % 2=j by omega,h,Option.bind_some]
theorem iX{w:World}{v:Value}{l:List Ad}(h:Rd w 2 v l.length (aQ l)){k:Nat}{x:Ad}(hk:l[k]?=some x) :
 ∃g o cap,v=.slice (some ⟨g,o,none⟩) l.length cap/\w.rangeAt g (o+k*2) (aO x):=by
 obtain⟨h0,a,cap,rfl,h1,h2,h3,h4⟩:=h;have hlt:=(List.getElem?_eq_some_iff.1 hk).1;obtain⟨g,o,rfl,hc⟩:=h4 (by rw[qP];omega);refine⟨g,o,cap,rfl,fun j u hj=>?_⟩;have hj2:j<2:=(List.getElem?_eq_some_iff.1 hj).1;have:=hc (k*2+j) u (by rw[Fm hk hj2];exact hj)
 rwa [←Nat.add_assoc] at this
theorem mE(a b:List Ad):aQ (a++b)=aQ a++aQ b:=by simp[aQ]
theorem wA(x:Ad):aQ [x]=aO x:=by simp[aQ]
theorem wB(l:List Ad):∀u∈aQ l,u.oneCell'=true:=by
 intro u hu;obtain⟨x,_,hx⟩:=List.mem_flatMap.1 hu;exact bL x u hx
def fH(l:List Ad):List (Ad×Nix):=l.foldl (fun s a=>dX s a .nix) []
theorem Fo(l:List Ad)(x:Ad):fH (l++[x])=dX (fH l) x .nix:=by simp[fH]
theorem Fp(s:List (Ad×Nix))(a:Ad):(dX s a .nix).length≤s.length+1:=by
 unfold dX;split<;>simp
theorem AL(l:List Ad):(fH l).length≤l.length:=by
 suffices h:∀(l:List Ad) (s:List (Ad×Nix)),(l.foldl (fun s a=>dX s a .nix) s).length≤s.length+l.length by simpa [fH] using h l []
 intro l
 induction l with
 | nil=>intro s;simp
 | cons x l ih=>intro s;have h1:=ih (dX s x .nix);have h2:=Fp s x;simp only[List.foldl_cons,List.length_cons];omega
theorem M0{w:World}{v:Value}{n:Nat}{l:List Ad}(h:Rd w 2 v n (aQ l))(hn:n=l.length){b:Nat}(hb:w.heap.size≤b):¬(0<n/\v.ownBlock=some b):=fun ⟨h0,e⟩=>by
 have:=h.lt (by rw[qP];omega);obtain⟨b',hb',hlt⟩:=this;rw[e] at hb';cases hb';omega
def M4(w:World)(l:List Ad)(e:Ending)(w':World):Prop:=∃b,e=.returned (.map (some b))/\cN eM adV eS w' b (fH l)/\w.heap.size≤b/\aA aB w w'
theorem Cg(w:World)(v:Value)(l:List Ad)(ho:jU l)(hr:Rd w 2 v l.length (aQ l)):Calls Tryz.prog 57 #[v] w (M4 w l):=by
 have hmm:=@run_makeMap Tryz.prog;obtain⟨av,cv,rfl,hlc,hlm⟩:=hr.form;have hlen:l.length≤maxLen:=by omega
 unfold maxLen at hlen;clear hlc hlm;obtain⟨n,hn⟩:∃n,l.length=n:=⟨_,rfl⟩
 have HR:=O hr;have HN:=O hn;clear hr;rw[hn] at HR hlen ⊢;clear hn;go_in;go_wp2_with fail;obtain⟨w2,hw2⟩:∃w2,w.alloc (.map #[] 0)=w2:=⟨_,rfl⟩
 have hk2:aA aB w w2:=by rw[←hw2];exact(aA.refl _ _).alloc _
 have hs2:w2.heap.size=w.heap.size+1:=by rw[←hw2,World.size_alloc]
 have hm2:cN eM adV eS w2 w.heap.size (fH []):=by rw[←hw2];exact cN.made _
 rw[hw2];have HK2:=O hk2;have HM2:=O hm2;clear hw2 hk2 hm2 hmm
 go_loopw [9] (fun i wr=>∃k:Nat,k≤n/\i=.int .i64 k/\Hid (cN eM adV eS wr w.heap.size (fH (l.take k)))/\Hid (aA (fun j=>j=w.heap.size) w2 wr)) (fun i _=>n-(intOf i).toNat)
 case atStart=>exact⟨0,Nat.zero_le _,rfl,HM2,O (aA.refl _ _)⟩
 case round =>
  obtain⟨k,hk,rfl,HM,HK⟩:=hrel
  by_cases hlt:k<n
  ·obtain⟨x,hx⟩:∃x,l[k]?=some x:=⟨l[k]'(by rw[HN.out];exact hlt),List.getElem?_eq_getElem _⟩
   have hxo:eM x:=ho x (List.mem_of_getElem? hx);have hkw:aA (fun j=>j=w.heap.size) w wr:=HK2.out.trans' HK.out (fun _ _ h=>h.elim) (fun _ _ h=>h);have hrw:=HR.out.keep hkw (fun b hb e=>M0 HR.out HN.out.symm (Nat.le_of_eq e.symm) ⟨by omega,hb⟩);rw[←HN.out] at hrw;obtain⟨g,o,cap,hv,hcells⟩:=iX hrw hx;have hvv:av=some ⟨g,o,none⟩:=by cases hv;rfl
   subst hvv;have HC:=O hcells;have HXO:=O hxo;have HTK:Hid (fH (l.take (k+1))=dX (fH (l.take k)) x .nix):=O (by rw[List.take_add_one,hx,←Fo];rfl);have hxv:adV x=.agg (aO x).toArray:=rfl;obtain⟨xc,hxc⟩:∃xc,aO x=xc:=⟨_,rfl⟩
   have HXC:=O hxc;have HSX:Hid ((Tryz.prog.info? 82).map (·.size)=some xc.length):=O (by rw[←hxc];exact bW);have HXL:Hid (xc.length=2):=O (by rw[←hxc];rfl);have HXE:Hid (∀u∈xc,u.oneCell'=true):=O (by rw[←hxc];exact bL x);have HXV:Hid (adV x=.agg xc.toArray):=O (by rw[←hxc];rfl);rw[hxc] at HC;have hwr:=HK.out.size;clear hx hxo hkw hrw hv hcells hxv hxc
   go_wp2_with (first
    | ((with_reducible show WL (some 12) (.load 82 (.tmp 11)));refine wpList_load_mid rfl 82 (.tmp 11) rfl g (o+k*2) rfl xc _ HC.out bS rfl HSX.out ?_)
    | ((with_reducible show WL (some 5) (.alloc 82));refine aR rfl 82 rfl eF eC #[.int .i64 0,.int .i64 0] rfl ?_)
    | ((with_reducible show WL none (.store 82 (.tmp 5) (.tmp 12)));refine aP rfl 82 (.tmp 5) (.tmp 12) rfl wr.heap.size 0 xc rfl rfl #[.int .i64 0,.int .i64 0] 82 (heap_alloc_new _ _) (by rw[HXL.out];exact Nat.le_refl _) HSX.out HXE.out ?_
       intro w3 hb3 hk3;rw[aI _ _ (by rw[HXL.out];rfl)] at hb3;have hkr:aA aB wr w3:=((aA.refl aB wr).alloc _).trans' hk3 (fun _ _ h=>h) (fun i hi e=>by omega);have HB3:=O hb3;have HKR:=O hkr;have HM3:=O (HM.out.keep hkr id);clear hb3 hk3 hkr)
    | ((with_reducible show WL (some 14) (.load 82 (.tmp 5)));refine wpList_load_mid rfl 82 (.tmp 5) rfl wr.heap.size 0 rfl xc _ (aD HB3.out) bS rfl HSX.out ?_)
    | ((with_reducible show WL none (.mapUpdate 122 (.tmp 13) (.tmp 14) (.tmp 15)));refine lY rfl rfl (.tmp 13) (.tmp 14) (.tmp 15) 122 rfl Lq Tryz.underlying122 x HXO.out Nix.nix rfl HXV.out.symm rfl HM3.out ?_
       intro w4 hm4 hk4;have HM4:=O hm4;have HK4:=O hk4;clear hm4 hk4))
   have HME:=O (show cN eM adV eS w4 w.heap.size (fH (l.take (k+1))) by rw[HTK.out];exact HM4.out);have HKE:=O ((HK.out.trans' HKR.out (fun _ _ h=>h) (fun _ _ h=>h.elim)).trans' HK4.out (U:=fun j=>j=w.heap.size) (fun _ _ h=>h) (fun _ _ h=>h));clear HM4 HK4 HM3 HKR HK HM HB3 HC
   go_roundw
   case rel=>exact⟨k+1,by omega,by go_num,HME,HKE⟩
   case measure=>simp[intOf];omega
  ·obtain rfl:k=n:=by omega
   have HMN:Hid (cN eM adV eS wr w.heap.size (fH l)):=O (by have:=HM.out;rwa [List.take_of_length_le (by rw[HN.out];exact Nat.le_refl _)] at this);go_wp2;go_ret;exact⟨_,rfl,HMN.out,Nat.le_refl _,HK2.out.trans' HK.out (fun _ _ h=>h) (fun i hi e=>by omega)⟩
def cI(s:List (Ad×Nix)):List Ad:=s.map (·.1)
def pG(w:World)(l:List Ad)(e:Ending)(w':World):Prop:=∃v,e=.returned v/\w'.ownsRow w.heap.size 82 2 v l.length (aQ l)/\aA aB w w'
theorem tP(l:List Ad):(gU l).length=l.length:=List.length_mergeSort _
theorem Ch(w:World)(b:Nat)(s:List (Ad×Nix))(h:cN eM adV eS w b s)(hl:s.length≤65536):Calls Tryz.prog 61 #[.map (some b)] w (pG w (gU (cI s))):=by
 obtain⟨w1,hw1⟩:∃w1,w.alloc (.cells #[.map (some b)] 122)=w1:=⟨_,rfl⟩
 have hk1:aA aB w w1:=by rw[←hw1];exact(aA.refl _ _).alloc _
 have hb1:w1.heap[w.heap.size]?=some (.cells #[.map (some b)] 122 (0,0)):=by rw[←hw1];exact heap_alloc_new _ _
 have C:=O (JD w1 s w.heap.size b hb1 (h.keep hk1 id) hl);have HK1:=O hk1;have HW1:=O hw1;have hs1:=hk1.size;have K:=O (D1 (some b) w);clear h hk1 hb1 hw1;go_in;go_wp2_with fail;refine K.out.mono ?_;rintro e w2 ⟨rfl,rfl⟩;rw[HW1.out];go_wp2_with fail;refine C.out.mono ?_;rintro e w3 ⟨v,rfl,ho,hk⟩;rw[List.length_map] at ho;obtain⟨a,c,rfl,-,-⟩:=(Rd.of_owns ho).form;have HO:=O ho;have HK:=O (HK1.out.trans hk);clear ho hk;go_wp2;go_ret;refine⟨_,rfl,?_,HK.out⟩;rw[tP,show (cI s).length=s.length from List.length_map _];exact aV HO.out hs1
theorem JE(w:World)(v:Value)(l:List Ad)(ho:jU l)(hr:Rd w 2 v l.length (aQ l))(hl:l.length≤65536):Calls Tryz.prog 31 #[v] w (pG w (gU (cI (fH l)))):=by
 have OA:=O (Cg w v l ho hr);obtain⟨av,cv,rfl,-,hlen⟩:=hr.form;have hsl:(fH l).length≤65536:=Nat.le_trans (AL l) hl;obtain⟨n,hn⟩:∃n,l.length=n:=⟨_,rfl⟩
 rw[hn] at OA ⊢;clear hr hlen hn hl;go_in;go_wp2_with fail;refine OA.out.mono ?_;rintro e w1 ⟨b,rfl,hm,hb,hk⟩;have L:=O (Ch w1 b _ hm hsl);have HK:=O hk;have hs:=hk.size;clear hm hk;go_wp2_with fail;refine L.out.mono ?_;rintro e w2 ⟨v2,rfl,ho2,hk2⟩;obtain⟨a,c,rfl,-,-⟩:=(Rd.of_owns ho2).form;have HO:=O ho2;have HK2:=O (HK.out.trans hk2);clear ho2 hk2;go_wp2;go_ret;exact⟨_,rfl,aV HO.out hs,HK2.out⟩
def vG(l:List Ad):Prop:=l.Pairwise fun x y=>fD x y=true
theorem Fq{x y:Ad}(h:fD x y=true):fD y x=false:=by rw[pF] at h;rw[jT];omega
theorem ED{x y:Ad}(h:fD x y=true):x≠y:=by
 intro e;subst e;rw[vZ] at h;cases h
theorem AM:∀{l m:List Ad},vG l->vG m->(∀x,x∈l↔x∈m)->l=m
 | [],[],_,_,_=>rfl
 | [],y::m,_,_,h=>absurd ((h y).2 (by simp)) (by simp)
 | x::l,[],_,_,h=>absurd ((h x).1 (by simp)) (by simp)
 | x::l,y::m,hl,hm,h=>by
   unfold vG at hl hm;rw[List.pairwise_cons] at hl hm
   have hxy:x=y:=by
    have h1:x=y\/x∈m:=by simpa using (h x).1 (by simp)
    have h2:y=x\/y∈l:=by simpa using (h y).2 (by simp)
    rcases h1 with h1|h1
    ·exact h1
    ·rcases h2 with h2|h2
     ·exact h2.symm
     ·have a:=hm.1 x h1
      rw[Fq (hl.1 y h2)] at a;cases a
   subst hxy
   have:l=m:=AM hl.2 hm.2 fun z=>by
    constructor
    ·intro hz
     have:z=x\/z∈m:=by simpa using (h z).1 (by simp[hz])
     exact this.resolve_left fun e=>ED (hl.1 z hz) e.symm
    ·intro hz
     have:z=x\/z∈l:=by simpa using (h z).2 (by simp[hz])
     exact this.resolve_left fun e=>ED (hm.1 z hz) e.symm
   rw[this]
theorem qC(l:List (Ad×Nix))(a x:Ad)(v:Nix):x∈cI (dX l a v)↔x∈cI l\/x=a:=by
 unfold dX cI;split
 ·rename_i h
  have hk:(l.map fun p=>if p.1=a then (a,v) else p).map (·.1)=l.map (·.1):=by
   rw[List.map_map];apply List.map_congr_left;intro p _;simp only[Function.comp];split
   ·rename_i e;exact e.symm
   ·rfl
  rw[hk];constructor
  ·exact fun h=>.inl h
  ·rintro (h'|rfl)
   ·exact h'
   ·obtain⟨p,hp,he⟩:=List.any_eq_true.1 h
    exact List.mem_map.2 ⟨p,hp,of_decide_eq_true he⟩
 ·simp
theorem Ci{l:List (Ad×Nix)}(h:(cI l).Nodup)(a:Ad)(v:Nix):(cI (dX l a v)).Nodup:=by
 unfold dX cI at *;split
 ·have hk:(l.map fun p=>if p.1=a then (a,v) else p).map (·.1)=l.map (·.1):=by
   rw[List.map_map];apply List.map_congr_left;intro p _;simp only[Function.comp];split
   ·rename_i e;exact e.symm
   ·rfl
  rw[hk];exact h
 ·rename_i hn
  rw[List.map_append,List.nodup_append];refine⟨h,by simp,?_⟩;intro x hx y hy e;simp only[List.map_cons,List.map_nil,List.mem_singleton] at hy;subst hy;subst e;obtain⟨p,hp,he⟩:=List.mem_map.1 hx;exact hn (List.any_eq_true.2 ⟨p,hp,decide_eq_true he⟩)
theorem oN(l:List Ad):(cI (fH l)).Nodup/\∀x,x∈cI (fH l)↔x∈l:=by
 suffices h:∀(l:List Ad) (s:List (Ad×Nix)),(cI s).Nodup->(cI (l.foldl (fun s a=>dX s a .nix) s)).Nodup/\∀x,x∈cI (l.foldl (fun s a=>dX s a .nix) s)↔x∈cI s\/x∈l by
  have:=h l [] (by simp[cI]);exact⟨this.1,fun x=>by rw[show fH l=l.foldl (fun s a=>dX s a .nix) [] from rfl,this.2 x];simp[cI]⟩
 intro l
 induction l with
 | nil=>intro s hs;exact⟨hs,fun x=>by simp⟩
 | cons a l ih =>
   intro s hs;have:=ih (dX s a .nix) (Ci hs a .nix);refine⟨this.1,fun x=>?_⟩;rw[List.foldl_cons,this.2 x,qC,List.mem_cons];constructor
   ·rintro ((h|h)|h)<;>simp[h]
   ·rintro (h|h|h)<;>simp[h]
theorem wC{l:List Ad}(h:l.Nodup):vG (gU l):=by
 have h1:(gU l).Pairwise fun x y=>(!fD y x)=true:=List.pairwise_mergeSort wV tN l
 have h2:(gU l).Nodup:=(List.mergeSort_perm l _).nodup_iff.2 h;refine(List.Pairwise.and h1 h2).imp fun {x y} ⟨p,q⟩=>?_
 simp only[Bool.not_eq_true'] at p;cases e:fD x y
 ·exact absurd (rX e p) q
 ·rfl
def iY(l:List Ad):List Ad:=gU (cI (fH l))
theorem D3(l:List Ad):vG (iY l):=wC (oN l).1
theorem tQ{l:List Ad}{x:Ad}:x∈iY l↔x∈l:=by unfold iY;rw[AK];exact(oN l).2 x
theorem JF{l m:List Ad}(h:vG l)(hm:∀x,x∈l↔x∈m):l=iY m:=AM h (D3 m) fun x=>by rw[tQ];exact hm x
theorem AN(l:List Ad):(iY l).length≤l.length:=by
 unfold iY;rw[tP];unfold cI;rw[List.length_map];exact AL l
theorem yE{s:List (Ad×Nix)}(h:(cI s).Nodup){l:List Ad}(hm:∀x,x∈cI s↔x∈l):gU (cI s)=iY l:=JF (wC h) fun x=>by rw[AK];exact hm x
end
section
def dR(L:List Ad)(d s:Nat):Bool:=decide ((⟨(d:Int),(s:Int)⟩:Ad)∈L)
def fX(L:List Ad)(d s:Nat):Bool:=decide (5≤s) && !dR L d s
def aY(L:List Ad)(d k:Nat):List Int:=((List.range k).filter (fX L d)).map fun(s:Nat)=>(s:Int)
theorem qQ(L:List Ad)(d k:Nat):aY L d (k+1)=aY L d k++if fX L d k then [(k:Int)] else []:=by
 unfold aY;rw[List.range_succ,List.filter_append,List.map_append]
 congr 1
 cases h:fX L d k<;>simp[h]
theorem D4(L:List Ad)(d:Nat):aY L d 5=[]:=by
 unfold aY
 have:(List.range 5).filter (fX L d)=[]:=by
  rw[List.filter_eq_nil_iff];intro s hs;have:=List.mem_range.1 hs;unfold fX;rw[decide_eq_false (by omega:¬5≤s)];simp
 rw[this];rfl
theorem rY{L:List Ad}{d k:Nat}{x:Int}:x∈aY L d k↔∃s:Nat,x=(s:Int)/\s<k/\5≤s/\dR L d s=false:=by
 unfold aY;rw[List.mem_map];constructor
 ·rintro⟨s,hs,rfl⟩
  obtain⟨h1,h2⟩:=List.mem_filter.1 hs;unfold fX at h2;rw[Bool.and_eq_true] at h2;exact⟨s,rfl,List.mem_range.1 h1,of_decide_eq_true h2.1,by simpa using h2.2⟩
 ·rintro⟨s,rfl,h1,h2,h3⟩
  refine⟨s,List.mem_filter.2 ⟨List.mem_range.2 h1,?_⟩,rfl⟩;unfold fX;rw[decide_eq_true h2,h3];rfl
theorem Cj(L:List Ad)(d k:Nat):(aY L d k).Pairwise (·<·):=by
 unfold aY;rw[List.pairwise_map];refine(List.Pairwise.filter _ List.pairwise_lt_range).imp ?_;intro a b h;exact Int.ofNat_lt.2 h
theorem rZ(L:List Ad)(d k:Nat):(aY L d k).length≤k-5:=by
 induction k with
 | zero=>simp[aY]
 | succ k ih =>
   rw[qQ,List.length_append];cases h:fX L d k
   ·simp only[Bool.false_eq_true,if_false,List.length_nil];omega
   ·unfold fX at h
    rw[Bool.and_eq_true] at h;have:=of_decide_eq_true h.1;simp only[if_true,List.length_singleton];omega
theorem pH{L M:List Ad}{d k:Nat}(h:∀s,s<k->5≤s->dR L d s=dR M d s):aY L d k=aY M d k:=by
 unfold aY;rw[List.filter_congr];intro s hs;unfold fX
 by_cases h5:5≤s
 ·rw[h s (List.mem_range.1 hs) h5]
 ·rw[decide_eq_false h5];rfl
theorem D5{L M:List Ad}(h:∀x,x∈L↔x∈M)(d s:Nat):dR L d s=dR M d s:=by
 unfold dR;rw[decide_eq_decide];exact h _
theorem oO(L:List Ad)(e t d s:Nat):dR (L++[⟨(e:Int),(t:Int)⟩]) d s=(dR L d s || (decide (d=e) && decide (s=t))):=by
 unfold dR;rw[Bool.eq_iff_iff];simp only[List.mem_append,List.mem_singleton,decide_eq_true_eq,Bool.or_eq_true,Bool.and_eq_true,Ad.mk.injEq];constructor
 ·rintro (h|⟨h1,h2⟩)
  ·exact .inl h
  ·exact .inr ⟨by omega,by omega⟩
 ·rintro (h|⟨h1,h2⟩)
  ·exact .inl h
  ·exact .inr ⟨by omega,by omega⟩
theorem nA{L:List Ad}{d S:Nat}{x:Int}{r:List Int}(h:aY L d S=x::r):∃t:Nat,x=(t:Int)/\t<S/\5≤t/\dR L d t=false/\(∀s,5≤s->s<t->dR L d s=true)/\aY (L++[⟨(d:Int),x⟩]) d S=r:=by
 have hm:x∈aY L d S:=by rw[h];exact List.mem_cons_self ..
 obtain⟨t,rfl,h1,h2,h3⟩:=rY.1 hm;have hr:=Cj L d S;rw[h,List.pairwise_cons] at hr;refine⟨t,rfl,h1,h2,h3,fun s hs1 hs2=>?_,?_⟩
 ·cases hu:dR L d s with
  | true=>rfl
  | false =>
    have:(s:Int)∈aY L d S:=rY.2 ⟨s,rfl,by omega,hs1,hu⟩;rw[h] at this;rcases List.mem_cons.1 this with e|e
    ·omega
    ·have:=hr.1 _ e
     omega
 ·have e:aY (L++[⟨(d:Int),(t:Int)⟩]) d S=(aY L d S).filter fun y=>!decide (y=(t:Int)):=by
   unfold aY;rw[List.filter_map,List.filter_filter]
   congr 1
   refine List.filter_congr fun s hs=>?_
   unfold fX;rw[oO];simp only[Function.comp,decide_true,Bool.true_and]
   by_cases e:s=t
   ·subst e;simp
   ·have:¬(s:Int)=(t:Int):=by omega
    simp[e,this]
  rw[e,h,List.filter_cons];rw[if_neg (by simp)];refine List.filter_eq_self.2 fun y hy=>?_
  have:=hr.1 y hy;have hne:¬y=(t:Int):=by omega
  simp[hne]
theorem Ck{L:List Ad}{d e t S:Nat}(h:d≠e):aY (L++[⟨(e:Int),(t:Int)⟩]) d S=aY L d S:=pH fun s _ _=>by
 rw[oO,decide_eq_false h];simp
def dZ(x:Ad)(D S:Nat):Prop:=0≤x.1/\x.1<(D:Int)/\5≤x.2/\x.2<(S:Int)
def bX(L:List Ad)(D S:Nat):List Int:=(List.range D).map fun d=>((aY L d S).length:Int)
theorem jG(L:List Ad)(D S:Nat):(bX L D S).length=D:=by simp[bX]
theorem qD(L:List Ad){D S d:Nat}(h:d<D):(bX L D S).getD d 0=((aY L d S).length:Int):=by
 unfold bX;rw[List.getD_eq_getElem?_getD,List.getElem?_map,List.getElem?_range h];rfl
end
section
open Go.RowKit Go.Maps Go.ChangeMaps
def wv(x:BitVec 64):Value:=.int .u64 (x.toNat:Int)
theorem nC(x:BitVec 64):BitVec.ofInt 64 (x.toNat:Int)=x:=by simp
theorem wW(n:Nat)(h:n<18446744073709551616):IntKind.u64.wrap (n:Int)=(n:Int):=by
 show ((n:Int) % 18446744073709551616)=n;omega
theorem Hb(x:BitVec 64):x.toNat<18446744073709551616:=x.isLt
theorem Cm(x y:BitVec 64):bits .and .u64 (x.toNat:Int) (y.toNat:Int)=((x &&& y).toNat:Int):=by
 show IntKind.u64.wrap ((BitVec.ofInt 64 (x.toNat:Int) &&& BitVec.ofInt 64 (y.toNat:Int)).toNat:Int)=_;rw[nC,nC,wW _ (Hb _)]
theorem LI(i:Nat)(h:i<64):IntKind.u64.wrap ((2:Int) ^ i)=((BitVec.twoPow 64 i).toNat:Int):=by
 rw[BitVec.toNat_twoPow,Nat.mod_eq_of_lt (Nat.pow_lt_pow_right (by decide) h)];have:((2:Int) ^ i)=((2 ^ i:Nat):Int):=by simp
 rw[this,wW _ (Nat.pow_lt_pow_right (by decide) h)]
theorem EE(x:BitVec 64)(i:Nat):(x.toNat:Int) / 2 ^ i=((x >>> i).toNat:Int):=by
 rw[BitVec.toNat_ushiftRight,Nat.shiftRight_eq_div_pow];simp
theorem EF(x:BitVec 64)(i:Nat):decide (((x >>> i &&& 1#64).toNat:Int)=1)=x.getLsbD i:=by
 have h:x >>> i &&& 1#64=if x.getLsbD i then 1#64 else 0#64:=by
  apply BitVec.eq_of_getLsbD_eq;intro j hj;rw[BitVec.getLsbD_and,BitVec.getLsbD_ushiftRight]
  by_cases h0:j=0
  ·subst h0
   cases x.getLsbD i<;>simp
  ·have:(1#64).getLsbD j=false:=by simp[BitVec.getLsbD_one,h0]
   rw[this];cases x.getLsbD i<;>simp[BitVec.getLsbD_one,h0]
 rw[h];cases x.getLsbD i<;>rfl
theorem JG(x y:BitVec 64):bits .xor .u64 (x.toNat:Int) (y.toNat:Int)=((x ^^^ y).toNat:Int):=by
 show IntKind.u64.wrap ((BitVec.ofInt 64 (x.toNat:Int) ^^^ BitVec.ofInt 64 (y.toNat:Int)).toNat:Int)=_;rw[nC,nC,wW _ (Hb _)]
theorem JH(x:BitVec 64)(i j:Nat)(hi:i<64):(x ^^^ BitVec.twoPow 64 i).getLsbD j=(x.getLsbD j != decide (i=j)):=by
 rw[BitVec.getLsbD_xor,BitVec.getLsbD_twoPow];simp[hi]
structure bK(w:World)(b:Nat)(c:Nat->Option Nat)(D:Nat)(L:List Ad):Prop where
 row:∃cs:Array Value,w.heap[b]?=some (.cells cs 253 (0,0))/\cs.size=D*65 /\
  (∀d,d<D->∀k,k<64->∃x:BitVec 64,cs[d*65+k]?=some (wv x)/\∀j,j<64->x.getLsbD j=dR L d (64*k+j)) /\
  ∀d,d<D->cs[d*65+64]?=some (.chan (c d))
theorem bK.keep{S:Nat->Prop}{w w':World}{b D:Nat}{c:Nat->Option Nat}{L:List Ad}(h:bK w b c D L)(k:aA S w w')(hS:¬S b):bK w' b c D L:=by
 obtain⟨cs,h1,h2⟩:=h.row;exact⟨cs,k.blk h1 hS,h2⟩
theorem bK.congr{w:World}{b D:Nat}{c:Nat->Option Nat}{L M:List Ad}(h:bK w b c D L)(he:∀x,x∈L↔x∈M):bK w b c D M:=by
 obtain⟨cs,h1,h2,h3,h4⟩:=h.row;refine⟨cs,h1,h2,fun d hd k hk=>?_,h4⟩;obtain⟨x,h5,h6⟩:=h3 d hd k hk;exact⟨x,h5,fun j hj=>by rw[h6 j hj,D5 he]⟩
theorem bK.lt{w:World}{b D:Nat}{c:Nat->Option Nat}{L:List Ad}(h:bK w b c D L):b<w.heap.size:=by
 obtain⟨cs,h1,-⟩:=h.row;exact(Array.getElem?_eq_some_iff.1 h1).1
theorem bK.word{w:World}{b D:Nat}{c:Nat->Option Nat}{L:List Ad}(h:bK w b c D L){d s:Nat}(hd:d<D)(hs:s<4096):∃x:BitVec 64,w.cell? ⟨b,d*65+s / 64,none⟩=some (wv x)/\x.getLsbD (s % 64)=dR L d s:=by
 obtain⟨cs,h1,h2,h3,h4⟩:=h.row;obtain⟨x,h5,h6⟩:=h3 d hd (s / 64) (by omega);refine⟨x,aC h1 h5,?_⟩;rw[h6 _ (Nat.mod_lt _ (by decide)),Nat.div_add_mod]
theorem bK.chan{w:World}{b D:Nat}{c:Nat->Option Nat}{L:List Ad}(h:bK w b c D L){d:Nat}(hd:d<D):w.cell? ⟨b,d*65+64,none⟩=some (.chan (c d)):=by
 obtain⟨cs,h1,h2,h3,h4⟩:=h.row;exact aC h1 (h4 d hd)
theorem bK.free{w:World}{b D:Nat}{c:Nat->Option Nat}{L:List Ad}(h:bK w b c D L)(i:Nat):w.frozen? ⟨b,i,none⟩=false:=by
 obtain⟨cs,h1,-⟩:=h.row;exact cV h1 i
theorem Oi{d e k l:Nat}(hk:k<65)(hl:l<65)(h:d*65+k=e*65+l):d=e/\k=l:=by omega
theorem bK.flip{w:World}{b D:Nat}{c:Nat->Option Nat}{L M:List Ad}(h:bK w b c D L){d s:Nat}(hd:d<D)(hs:s<4096){x:BitVec 64}(hx:w.cell? ⟨b,d*65+s / 64,none⟩=some (wv x))
 (hM:∀e t,e<D->t<4096->dR M e t=(dR L e t != (decide (e=d) && decide (t=s)))) :
 bK (w.setCell ⟨b,d*65+s / 64,none⟩ (wv (x ^^^ BitVec.twoPow 64 (s % 64)))) b c D M/\aA (fun k=>k=b) w (w.setCell ⟨b,d*65+s / 64,none⟩ (wv (x ^^^ BitVec.twoPow 64 (s % 64)))):=by
 obtain⟨cs,h1,h2,h3,h4⟩:=h.row;have hb:=dO h1 (d*65+s / 64) (wv (x ^^^ BitVec.twoPow 64 (s % 64)))
 have hsz:d*65+s / 64<cs.size:=by
  rw[h2];have:d*65+65≤D*65:=by omega
  omega
 have hxc:cs[d*65+s / 64]?=some (wv x):=by
  obtain⟨y,h5,-⟩:=h3 d hd (s / 64) (by omega);have:=aC h1 h5;rw[hx] at this;rw[h5,←this]
 refine⟨⟨_,hb,by rw[Array.size_setIfInBounds];exact h2,fun e he k hk=>?_,fun e he=>?_⟩,(aA.refl (fun k=>k=b) w).setCell (p:=⟨b,_,none⟩) (fun _=>rfl) _⟩
 ·obtain⟨y,h5,h6⟩:=h3 e he k hk
  by_cases hek:d*65+s / 64=e*65+k
  ·obtain⟨rfl,rfl⟩:=Oi (by omega) (by omega) hek
   refine⟨_,by rw[Array.getElem?_setIfInBounds_self_of_lt hsz],fun j hj=>?_⟩;rw[hxc] at h5
   have hxy:x=y:=by
    have e1:wv x=wv y:=Option.some.inj h5;unfold wv at e1;injection e1 with _ e2
    exact BitVec.eq_of_toNat_eq (by omega)
   subst hxy;rw[JH _ _ _ (Nat.mod_lt _ (by decide)),h6 j hj,hM _ _ hd (by omega),decide_eq_true rfl,Bool.true_and]
   congr 1
   rw[decide_eq_decide];omega
  ·refine⟨y,by rw[Array.getElem?_setIfInBounds_ne hek];exact h5,fun j hj=>?_⟩
   rw[h6 j hj,hM _ _ he (by omega)]
   have:(decide (e=d) && decide (64*k+j=s))=false:=by
    rw[Bool.and_eq_false_iff,decide_eq_false_iff_not,decide_eq_false_iff_not]
    by_cases e1:e=d
    ·subst e1
     refine .inr fun e2=>hek ?_
     omega
    ·exact .inl e1
   rw[this];simp
 ·rw[Array.getElem?_setIfInBounds_ne (by omega)]
  exact h4 e he
theorem bK.lay{w:World}{b D:Nat}{c:Nat->Option Nat}{L:List Ad}(h:bK w b c D L){d:Nat}(hd:d<D)(v:Option Nat) :
 bK (w.setCell ⟨b,d*65+64,none⟩ (.chan v)) b (fun e=>if e=d then v else c e) D L/\aA (fun k=>k=b) w (w.setCell ⟨b,d*65+64,none⟩ (.chan v)):=by
 obtain⟨cs,h1,h2,h3,h4⟩:=h.row;have hb:=dO h1 (d*65+64) (.chan v)
 have hsz:d*65+64<cs.size:=by
  rw[h2];have:d*65+65≤D*65:=by omega
  omega
 refine⟨⟨_,hb,by rw[Array.size_setIfInBounds];exact h2,fun e he k hk=>?_,fun e he=>?_⟩,(aA.refl (fun k=>k=b) w).setCell (p:=⟨b,_,none⟩) (fun _=>rfl) _⟩
 ·obtain⟨y,h5,h6⟩:=h3 e he k hk
  exact⟨y,by rw[Array.getElem?_setIfInBounds_ne (by omega)];exact h5,h6⟩
 ·by_cases e1:e=d
  ·subst e1
   rw[Array.getElem?_setIfInBounds_self_of_lt hsz,if_pos rfl]
  ·rw[Array.getElem?_setIfInBounds_ne (by omega),if_neg e1]
   exact h4 e he
theorem JI(w:World)(b D:Nat)(c:Nat->Option Nat)(L:List Ad)(h:bK w b c D L)(d s:Nat)(hd:d<D)(hs:s<4096) :
 Calls Tryz.prog 178 #[.pointer (some ⟨b,d*65,none⟩),.int .i64 (s:Int)] w fun e w'=>e=.returned (.bool (dR L d s))/\w=w':=by
 obtain⟨x,hc,hx⟩:=h.word hd hs;obtain⟨q,hqd⟩:∃q,s / 64=q:=⟨_,rfl⟩
 obtain⟨r,hrd⟩:∃q,s % 64=q:=⟨_,rfl⟩
 have hq64:q<64:=by omega
 have hr64:r<64:=by omega
 rw[hqd] at hc;rw[hrd] at hx;have h1:=EE x r;have h2:=Cm (x >>> r) 1#64;have h3:=EF x r;rw[hx] at h3;obtain⟨xv,hxv⟩:∃n:Int,(x.toNat:Int)=n:=⟨_,rfl⟩
 obtain⟨sv,hsv⟩:∃n:Int,((x >>> r).toNat:Int)=n:=⟨_,rfl⟩
 obtain⟨rv,hrv⟩:∃n:Int,((x >>> r &&& 1#64).toNat:Int)=n:=⟨_,rfl⟩
 obtain⟨bb,hbb⟩:∃b,dR L d s=b:=⟨_,rfl⟩
 have e1:(((1#64:BitVec 64).toNat:Nat):Int)=1:=rfl;unfold wv at hc;rw[e1] at h2;rw[hxv] at hc h1;rw[hsv] at h1 h2;rw[hrv] at h2 h3;rw[hbb] at h3 ⊢;have h3':(rv == 1)=bb:=h3;obtain⟨o,ho⟩:∃o,d*65=o:=⟨_,rfl⟩
 rw[ho] at hc ⊢;have hq:(s:Int) / 64=(q:Int):=by omega
 have hm:(s:Int) % 64=(r:Int):=by omega
 have hs0:(0:Int)≤(s:Int):=by omega
 have hqd2:(s:Int).tdiv 64=(q:Int):=by rw[Int.tdiv_eq_ediv_of_nonneg (by omega)];omega
 have hmd2:(s:Int).tmod 64=(r:Int):=by rw[Int.tmod_eq_emod_of_nonneg (by omega)];omega
 have hwq:IntKind.i64.wrap (q:Int)=(q:Int):=by rw[IntWalk.i64_in _ (by omega)]
 have hwr:IntKind.i64.wrap (r:Int)=(r:Int):=by rw[IntWalk.i64_in _ (by omega)]
 have hq0:(0:Int)≤(q:Int):=by omega
 have hq1:(q:Int)<64:=by omega
 have hr0:(0:Int)≤(r:Int):=by omega
 have hr1:(r:Int)<64:=by omega
 clear h hx hxv hsv hrv hbb e1 ho hqd hrd;go_in;go_wp2;go_ret;exact⟨rfl,rfl⟩
end
section
open Go.RowKit
theorem pI{P:Program}{ops:Array Oper}{S:World->Prop}{op:Oper}{a:Act}(hw:Region.wanted op (yielded ops a.tmps)=true)(t:TypeId)(x y:Operand)(rt:TypeId)(ho:op.op=.binOp .neq t x y rt)
 (xs ys:Array Value) (hx:a.eval x=.agg xs) (hy:a.eval y=.agg ys) (hg:P.eqGuardType P.depth t=false){b:Bool}(h:∀w,(binOp .neq t (.agg xs) (.agg ys)).run P w=.ok (.bool b) w):YieldsIf P ops S op (.bool b) a:=
 .inl ⟨hw,fun w _=>by
  unfold execOp;simp only[ho,hx,hy,Sem.run_bind,Sem.run_pure,Result.andThen_ok,run_eqGuard_agg w .neq t x y xs ys hg,h w]⟩
theorem LJ:Tryz.prog.eqGuardType Tryz.prog.depth 82=false:=by kernel_rfl
theorem LK:Tryz.prog.stoodInHeld 82=false:=by kernel_rfl
theorem Oj(a b:Ad)(w:World):Sem.run Tryz.prog (binOp .eql 82 (.agg (aO a).toArray) (.agg (aO b).toArray)) w=.ok (.bool (decide (a=b))) w:=by
 have e:decide (a=b)=(decide (a.dev=b.dev) && decide (a.sec=b.sec)):=by rw[Bool.eq_iff_iff];simp[Ad.ext_iff]
 rw[e,run_eql_struct,run_equalIn_agg w 9999 82 _ _ bS LK,tL,Jz];have hi:∀x y:Int,(Op.equalIn 9999 3 (.int .i64 x) (.int .i64 y)).run Tryz.prog w=.ok (x == y) w:=fun x y=>run_equalIn_int w 9998 3 .i64 .i64 x y Tryz.underlying3
 have hd:∀x y:Int,(x == y)=decide (x=y):=fun x y=>by rw[Bool.eq_iff_iff];simp
 have a0:(aO a).toArray[0]?=some (.int .i64 a.dev):=rfl;have a1:(aO a).toArray[1]?=some (.int .i64 a.sec):=rfl;have b0:(aO b).toArray[0]?=some (.int .i64 b.dev):=rfl;have b1:(aO b).toArray[1]?=some (.int .i64 b.sec):=rfl;simp only[eqT,ne_eq,String.reduceEq,not_false_eq_true,if_true,Sem.run_bind,Sem.run_ite,Sem.run_pure,Result.andThen_ok,rW _ 0 _ a0,rW _ 0 _ b0,rW _ 1 _ a1,rW _ 1 _ b1,hi,hd];cases decide (a.dev=b.dev)<;>cases decide (a.sec=b.sec)<;>rfl
theorem NT(a b:Ad)(w:World):Sem.run Tryz.prog (binOp .neq 82 (.agg (aO a).toArray) (.agg (aO b).toArray)) w=.ok (.bool (!decide (a=b))) w:=yC (Oj a b w)
def eV(a:Ad)(devs sectors:Int):Bool:=decide (2≤devs) && decide (devs≤8) && decide (8≤sectors) && decide (sectors≤4096) && decide (0≤a.dev) && decide (a.dev<devs) && decide (5≤a.sec) && decide (a.sec<sectors)
theorem EG(a:Ad)(devs sectors:Int)(w:World):Calls Tryz.prog 207 #[adV a,.int .i64 devs,.int .i64 sectors] w fun e w'=>e=.returned (.bool (eV a devs sectors))/\aA aB w w':=by
 obtain⟨w1,hw1,hk1,hb1,hs1⟩:=aT w (aO a).toArray 82;obtain⟨dv,sc⟩:=a;have c0:w1.cell? ⟨w.heap.size,0,none⟩=some (.int .i64 dv):=aC hb1 rfl;have c1:w1.cell? ⟨w.heap.size,1,none⟩=some (.int .i64 sc):=aC hb1 rfl;have HK:=O hk1;obtain⟨r,hr⟩:∃r,eV ⟨dv,sc⟩ devs sectors=r:=⟨_,rfl⟩
 have HR:=O hr;rw[hr];clear hk1 hb1 hs1 hr;unfold adV;unfold aO at hw1 ⊢
 by_cases h0:2≤devs
 rotate_left
 ·have e:r=false:=by rw[←HR.out];simp[eV];omega
  subst e;go_in;go_wp2;go_ret;exact⟨rfl,HK.out⟩
 by_cases h1:devs≤8
 rotate_left
 ·have e:r=false:=by rw[←HR.out];simp[eV];omega
  subst e;go_in;go_wp2;go_ret;exact⟨rfl,HK.out⟩
 by_cases h2:8≤sectors
 rotate_left
 ·have e:r=false:=by rw[←HR.out];simp[eV];omega
  subst e;go_in;go_wp2;go_ret;exact⟨rfl,HK.out⟩
 by_cases h3:sectors≤4096
 rotate_left
 ·have e:r=false:=by rw[←HR.out];simp[eV];omega
  subst e;go_in;go_wp2;go_ret;exact⟨rfl,HK.out⟩
 by_cases h4:0≤dv
 rotate_left
 ·have e:r=false:=by rw[←HR.out];simp[eV];omega
  subst e;go_in;go_wp2;go_ret;exact⟨rfl,HK.out⟩
 by_cases h5:dv<devs
 rotate_left
 ·have e:r=false:=by rw[←HR.out];simp[eV];omega
  subst e;go_in;go_wp2;go_ret;exact⟨rfl,HK.out⟩
 by_cases h6:5≤sc
 rotate_left
 ·have e:r=false:=by rw[←HR.out];simp[eV];omega
  subst e;go_in;go_wp2;go_ret;exact⟨rfl,HK.out⟩
 by_cases h7:sc<sectors
 rotate_left
 ·have e:r=false:=by rw[←HR.out];simp[eV];omega
  subst e;go_in;go_wp2;go_ret;exact⟨rfl,HK.out⟩
 have e:r=true:=by rw[←HR.out];simp[eV];omega
 subst e;go_in;go_wp2;go_ret;exact⟨rfl,HK.out⟩
theorem LL(a b:Int)(w:World):(Instr.build 82 #[(0,.int .i64 a),(1,.int .i64 b)]).run Tryz.prog w=.ok (.agg #[.int .i64 a,.int .i64 b]) w:=by kernel_rfl
end
section
open Go.RowKit Go.Maps Go.ChangeMaps
theorem MG(w:World):(zeroValue 125).run Tryz.prog w=.ok (.agg #[]) w:=by kernel_rfl
theorem cN.lt{w:World}{b:Nat}{l:List (Ad×Nix)}(h:cN eM adV eS w b l):b<w.heap.size:=by
 obtain⟨es,clock,hb,-⟩:=h;exact lt_of_block hb
theorem Es{w:World}{b:Nat}{l:List (Ad×Nix)}(h:cN eM adV eS w b l):(cI l).Nodup:=by
 obtain⟨es,clock,hb,hm⟩:=h;exact hm.2.2.2.1
def KZ(w:World)(d:Nat)(dst lst:List (Ad×Nix))(e:Ending)(w':World):Prop:=e=.returned (.tuple #[])/\∃s,cN eM adV eS w' d s/\(∀q,q∈cI s↔q∈cI dst\/q∈cI lst)/\aA (fun k=>k=d) w w'
theorem K5(w:World)(d b:Nat)(dst lst:List (Ad×Nix))(hd:cN eM adV eS w d dst)(hm:cN eM adV eS w b lst)(hdl:d<w.heap.size)(hdb:d≠b) :
 Calls Tryz.prog 181 #[.map (some d),.map (some b)] w (KZ w d dst lst):=by
 have HM:=O hm;have HD:=O hd;clear hm hd;go_in
 go_wp2_with (first
  | ((with_reducible show WL _ (.range _ _));refine zI rfl (.tmp 6) 122 rfl Tryz.underlying122 rfl HM.out ?_
     intro w1 hi1 hk1 hs1;have HI:=O hi1;have HK1:=O hk1;have HD1:=O (HD.out.keep hk1 id);have hs1':w.heap.size<w1.heap.size:=by omega
     clear hi1 hk1 hs1))
 go_frame
 go_loopw [9] (fun _ wr=>∃(left cur:List (Ad×Nix)) (pre:List Ad),Hid (dK eM adV eS wr b w.heap.size lst left)/\Hid (cN eM adV eS wr d cur)/\Hid ((pre++cI left).Perm (cI lst))/\Hid (∀q,q∈cI cur↔q∈cI dst\/q∈pre)/\Hid (aA (fun k=>k=d) w wr)) (fun _ wr=>wr.rangeLeft b w.heap.size)
 case atStart=>exact⟨lst,dst,[],HI,HD1,O (by simp),O (fun q=>by simp),O (HK1.out.any)⟩
 case round =>
 obtain⟨left,cur,pre,HI2,HD2,HP,HQ,HKR⟩:=hrel;have HCNT:=O HI2.out.count;have hsr:=HKR.out.size;have hdw:d<w.heap.size:=hdl;have hne:d≠b:=hdb
 go_wp2_with (first
  | ((with_reducible show WL _ (.next _ _));refine AC rfl (.tmp 7) rfl rfl HI2.out ?_ ?_))
 ·intro hl
  go_wp2_with fail
  go_end0
  subst hl;exact⟨rfl,cur,HD2.out,fun q=>by rw[HQ.out q,←HP.out.mem_iff];simp[cI],HKR.out⟩
 ·intro i x v w2 hxi hxo hi2 hk2 hs2 he2
  have hpe:(cI left).Perm (x::cI (left.eraseIdx i)):=by have:=(oF hxi).map (fun p:Ad×Nix=>p.1);exact this
  have HP2:Hid (((pre++[x])++cI (left.eraseIdx i)).Perm (cI lst)):=O (by
   refine List.Perm.trans ?_ HP.out;rw[List.append_assoc,List.singleton_append];exact(hpe.append_left pre).symm)
  have hkr:aA (fun k=>k=d) w w2:=HKR.out.trans' hk2 (fun _ _ h=>h) (fun i hi e=>by omega);have HI3:=O hi2;have HE3:=O he2;have HKR2:=O hkr;have HXO:=O hxo;have HD3:=O (HD2.out.keep hk2 (by omega));have HLT:=O (List.getElem?_eq_some_iff.1 hxi).1;have hs2':wr.heap.size≤w2.heap.size:=hk2.size;have hu:∀x:Nix,eS x=.agg #[]:=fun _=>rfl
  have HU:=O hu;clear hxi hxo hi2 hk2 hs2 he2 hpe hkr hu;unfold adV;rw[HU.out]
  go_wp2_with (first
   | ((with_reducible show WL _ (.entry _));refine zJ rfl (.tmp 7) rfl rfl HE3.out ?_;show wpList _ _ _ _ (Act.put _ _ (Value.tuple #[.agg (aO x).toArray,.agg #[]])) _)
   | ((with_reducible show WL (some 4) (.alloc 82));refine aR rfl 82 rfl eF eC #[.int .i64 0,.int .i64 0] rfl ?_)
   | ((with_reducible show WL (some 5) (.alloc 125));refine aR rfl 125 rfl (.agg #[]) MG #[] rfl ?_)
   | ((with_reducible show WL none (.store 82 (.tmp 4) (.tmp 11)));refine aP rfl 82 (.tmp 4) (.tmp 11) rfl w2.heap.size 0 (aO x) rfl rfl #[.int .i64 0,.int .i64 0] 82 (heap_alloc2_old _ _ _) (Nat.le_refl _) bW (bL _) ?_
      intro w3 hb3 hk3;rw[aI _ _ (by rfl)] at hb3;have hk4:aA aB w2 w3:=(((aA.refl aB w2).alloc _).alloc _).trans' hk3 (fun _ _ h=>h) (fun i hi e=>by omega);have hn3:=hk3.blk (heap_alloc2_new w2 (.cells #[.int .i64 0,.int .i64 0] 82) (.cells #[] 125)) (by omega);have HB3:=O hb3;have HN3:=O hn3;have HK4:=O hk4;have hs4:=hk4.size;clear hb3 hk3 hk4 hn3)
   | ((with_reducible show WL _ (.load 82 (.tmp 4)));refine wpList_load_mid rfl 82 (.tmp 4) rfl w2.heap.size 0 rfl (aO x) _ (aD HB3.out) bS rfl bW ?_)
   | ((with_reducible show WL none (.mapUpdate 122 (.tmp 13) (.tmp 14) (.tmp 15)));refine lY rfl rfl (.tmp 13) (.tmp 14) (.tmp 15) 122 rfl Lq Tryz.underlying122 x HXO.out Nix.nix rfl rfl rfl (HD3.out.keep HK4.out id) ?_
      intro w4 hm4 hk4;have HD5:=O hm4;have HI5:=O ((HI3.out.keep HK4.out id id).keep hk4 (fun e=>hne e.symm) (by omega));have HKR5:=O ((HKR2.out.trans' HK4.out (U:=fun k=>k=d) (fun _ _ h=>h) (fun _ _ h=>h.elim)).trans' hk4 (U:=fun k=>k=d) (fun _ _ h=>h) (fun _ _ h=>h));clear hm4 hk4))
  have HQ3:Hid (∀q,q∈cI (dX cur x Nix.nix)↔q∈cI dst\/q∈pre++[x]):=O (fun q=>by
   rw[qC,HQ.out q,List.mem_append,List.mem_singleton,or_assoc])
  go_roundw
  case rel=>exact⟨_,_,_,HI5,HD5,HP2,HQ3,HKR5⟩
  case measure=>rw[HI5.out.count,HCNT.out,List.length_eraseIdx_of_lt HLT.out];have:=HLT.out;omega
theorem Ja(w:World)(v vb:Value)(xs ys:List Ad)(ho:jU xs)(hoy:jU ys)(hr:Rd w 2 v xs.length (aQ xs))(hrb:Rd w 2 vb ys.length (aQ ys))(hl:xs.length+ys.length≤65536):Calls Tryz.prog 122 #[v,vb] w (pG w (iY (xs++ys))):=by
 have HO:=O (fun w v (h:Rd w 2 v xs.length (aQ xs))=>Cg w v xs ho h);obtain⟨U,hU⟩:∃U,iY (xs++ys)=U:=⟨_,rfl⟩
 have HUE:=O hU;rw[hU];clear hU;have HOB:=O (fun w v (h:Rd w 2 v ys.length (aQ ys))=>Cg w v ys hoy h);obtain⟨oa,ca,rfl,-,hmm⟩:=hr.form;have hmx_n:xs.length≤maxLen:=by have h:=hr.2;obtain⟨a',cap',h1,h2,h3,-⟩:=h;omega
 unfold maxLen at hmx_n;clear hmm;have HR:=O hr;obtain⟨n,hn_n⟩:∃n,xs.length=n:=⟨_,rfl⟩
 have HN:=O hn_n;rw[hn_n] at HR hmx_n
 try rw[hn_n]
 clear hr hn_n;obtain⟨ob,cb,rfl,-,hmm⟩:=hrb.form;have hmx_m:ys.length≤maxLen:=by have h:=hrb.2;obtain⟨a',cap',h1,h2,h3,-⟩:=h;omega
 unfold maxLen at hmx_m;clear hmm;have HRB:=O hrb;obtain⟨m,hn_m⟩:∃n,ys.length=n:=⟨_,rfl⟩
 have HMN:=O hn_m;rw[hn_m] at HRB hmx_m
 try rw[hn_m]
 clear hrb hn_m;have hbnd:xs.length+ys.length≤65536:=by exact hl
 go_in;go_wp2_with fail;refine(HO.out w _ (by rw[HN.out];exact HR.out)).mono ?_;rintro e w1 ⟨b1,rfl,hm1,hb1,hk1⟩;have hl1:=hm1.lt;have HM1:=O hm1;have HK1:=O hk1;have HRB1:=O (HRB.out.keep hk1 fun _ _=>id);clear hm1 hk1;go_wp2_with fail;refine(HOB.out w1 _ (by rw[HMN.out];exact HRB1.out)).mono ?_;rintro e w2 ⟨b2,rfl,hm2,hb2,hk2⟩;have hl2:=hm2.lt;have hs2:=hk2.size;have HM2:=O hm2;have HM1:=O (HM1.out.keep hk2 id);have HK2:=O (HK1.out.trans hk2);clear hm2 hk2;go_wp2_with fail;refine(K5 w2 b1 b2 (fH xs) (fH ys) HM1.out HM2.out (by omega) (by omega)).mono ?_;rintro e w4 ⟨rfl,s,hm4,hq4,hk4⟩;have HM4:=O hm4;have HQ:Hid (∀q,q∈cI s↔q∈xs++ys):=O (fun q=>by rw[hq4 q,(oN xs).2 q,(oN ys).2 q,List.mem_append]);have HKW:=O (HK2.out.trans' hk4 (U:=aB) (fun _ _ h=>h) (fun i hi e=>by omega));clear hm4 hq4 hk4;go_wp2_with fail;have hnd:=Es HM4.out;have hcs:=(yE hnd HQ.out).trans HUE.out
 have hlen:s.length≤65536:=by
  have h1:(gU (cI s)).length=s.length:=by rw[tP];exact List.length_map _
  rw[←h1,yE hnd HQ.out];exact Nat.le_trans (AN _) (by simp only[List.length_append];omega)
 have L:=Ch w4 b1 s HM4.out hlen;rw[hcs] at L;have L:=O L;have hsz:=HKW.out.size;clear hnd hcs hlen;go_wp2_with fail;refine L.out.mono ?_;rintro e wf ⟨v,rfl,ho2,hk2⟩;obtain⟨va,vc,rfl,-,-⟩:=(Rd.of_owns ho2).form;have HOF:=O (aV ho2 hsz);have HKF:=O (HKW.out.trans hk2);clear ho2 hk2;go_wp2;go_ret;exact⟨_,rfl,HOF.out,HKF.out⟩
end
end Go.Proofs.YtiinnfhjpaeffaaGreat
