import Derived.Test.YthihofpfonfjfaaGreatK1
import Derived.Test.YthihofpfonfjfaaGreatK7
import Derived.Test.YthihofpfonfjfaaGreatLaySort
namespace Go.Proofs.YthihofpfonfjfaaGreat
set_option maxHeartbeats 64000000
set_option maxRecDepth 100000
set_option linter.unusedVariables false
section
open Go.RowKit Go.Sort Go.Maps
instance:Inhabited Adr:=⟨⟨⟨0,0⟩,by unfold eL Cx;exact⟨⟨by decide,by decide⟩,by decide,by decide⟩⟩⟩
def oQ(x:Adr):List Value:=aP x.1
theorem uB(x:Adr):(oQ x).length=2:=rfl
theorem Hq(x:Adr):∀v∈oQ x,v.oneCell'=true:=bM _
def Av(x y:Adr):Int:=vT x.1 y.1
theorem Cz(x y:Adr):ltOf Av x y=fC x.1 y.1:=JU x.1 y.1
theorem wR(a:Ad):fC a a=false:=by rw[jY];omega
theorem FH{a b c:Ad}(h:fC a b=true)(k:fC b c=true):fC a c=true:=by rw[pN] at *;omega
theorem sH{a b:Ad}(h:fC a b=false)(k:fC b a=false):a=b:=by
 rw[jY] at *;exact Ad.ext (by omega) (by omega)
theorem N7:SWO (ltOf Av) where
 irrefl x:=by rw[Cz];exact wR _
 trans x y z h k:=by rw[Cz] at *;exact FH h k
 ntrans x y z h k:=by
  rw[Cz] at *;rw[jY] at *;omega
def gV(l:List Ad):List Ad:=l.mergeSort fun x y=>!fC y x
theorem xK(x y z:Ad):(!fC y x)=true->(!fC z y)=true->(!fC z x)=true:=by
 simp only[Bool.not_eq_true',jY];omega
theorem uC(x y:Ad):(!fC y x || !fC x y)=true:=by
 cases h:fC y x
 ·rfl
 ·have:fC x y=false:=by rw[pN] at h;rw[jY];omega
  rw[this];rfl
theorem FJ{a b:List Ad}(h:a.Perm b):gV a=gV b:=by
 refine List.Perm.eq_of_pairwise (le:=fun x y=>(!fC y x)=true) ?_ (List.pairwise_mergeSort xK uC a) (List.pairwise_mergeSort xK uC b) (((List.mergeSort_perm a _).trans h).trans (List.mergeSort_perm b _).symm);intro x y _ _ h k;simp only[Bool.not_eq_true'] at h k;exact sH k h
theorem A7{a:List Ad}{x:Ad}:x∈gV a↔x∈a:=(List.mergeSort_perm a _).mem_iff
theorem L4(w:World):(isAgg 56).run Tryz.prog w=.ok true w:=by kernel_rfl
theorem JW(w:World):(Go.sizeOf 56).run Tryz.prog w=.ok 2 w:=by kernel_rfl
theorem Hr(blk off size:Nat)(w:World):CmpLays Tryz.prog 98 #[] oQ 2 Av blk off size w:=
 fun m os dk hs x y=>by
  have:=Hp x.1 y.1 (sortWorldK oQ 2 w blk off m dk os);exact this.mono fun e w' h=>h
theorem Hs(ys:List Adr):(ys.mergeSort fun x y=>!(ltOf Av) y x).map (·.1)=gV (ys.map (·.1)):=
 List.map_mergeSort fun a _ b _=>by rw[Cz]
theorem uD(ys:List Adr):ys.flatMap oQ=aS (ys.map (·.1)):=by
 unfold aS oQ;rw[List.flatMap_map]
theorem FK(w:World)(base:Nat)(v:Value)(ys:List Adr)(ho:w.ownsRow base 56 2 v ys.length (aS (ys.map (·.1))))(hl:ys.length≤65536) :
 Calls Tryz.prog 144 #[v,.func (.func 98) #[] #[]] w fun e w'=>e=.returned (.tuple #[])/\w'.ownsRow base 56 2 v ys.length (aS (gV (ys.map (·.1))))/\aA (fun k=>v.ownBlock=some k) w w':=by
 rcases ho.2 with⟨rfl,h0⟩|⟨g,cap,cur,rfl,hb,hh,h1,h2,h3,h4⟩
 ·have hy:ys=[]:=List.eq_nil_of_length_eq_zero h0
  subst hy;have hc:=AnyF.slices_SortFunc_none sortAddr none 0 (.func (.func 98) #[] #[]) w;change Calls Tryz.prog 144 _ _ _ at hc;refine hc.mono ?_;rintro e w' ⟨rfl,rfl⟩;exact⟨rfl,by simpa [gV] using ho,aA.refl _ _⟩
 ·have eg:∀args w,(callFunc 98 args).run Tryz.prog w=.ok (.enter 98 args) w:=enters_of Tryz.func98 (by kernel_rfl) rfl
  have hH:HoldsK oQ 2 w g 0 ys.toArray:=Hk uB (by decide) hh (by rw[h4,uD])
  have hc:=AnyQ.slices_SortFunc_total sortAddr 2 L4 JW oQ uB Hq Av N7 98 #[] g 0 cap ys.toArray w eg (Hr g 0 _ w) hH (Array.getElem?_eq_some_iff.1 hh).1 (by simp;omega)
   (fun x y hx hy=>by rw[Cz] at hx hy;exact Subtype.ext (sH hx hy))
  change Calls Tryz.prog 144 _ _ _ at hc;rw[List.size_toArray] at hc;refine hc.mono ?_;rintro e w' ⟨rfl,n,os,rfl⟩;refine⟨rfl,?_,?_⟩
  ·have:=En (m:=n) (os:=os) uB (by decide) ho (dk:=(ys.mergeSort fun x y=>!(ltOf Av) y x).toArray) (by simp)
   rw[List.toList_toArray,uD,Hs] at this;exact this
  ·exact(Em oQ 2 w g n _ os).mono fun k _ h=>by rw[h];rfl
theorem Ht(w:World)(lst:List (Ad×Nix))(B1 b:Nat)(h1:w.heap[B1]?=some (.cells #[.map (some b)] 117 (0,0)))(h2:cP eL adV eS w b lst)(hlen:lst.length≤65536) :
 Calls Tryz.prog 143 #[.func (.func 145) #[] #[.pointer (some ⟨B1,0,none⟩)]] w (As w (lst.map (·.1))):=by
 have C:=O (Ep w lst B1 b h1 h2 hlen);clear h1 h2;go_in;go_wp2_with fail;refine C.out.mono ?_;rintro e w' ⟨v,ys,rfl,hp,ho,hk⟩;obtain⟨a,c,rfl,-,-⟩:=(Rd.of_owns ho).form;have HP:=O hp;have HO:=O ho;have HK:=O hk;clear hp ho hk;go_wp2;go_ret;exact⟨_,ys,rfl,HP.out,HO.out,HK.out⟩
def FL(w:World)(l:List Ad)(e:Ending)(w':World):Prop:=
 ∃v,e=.returned v/\w'.ownsRow w.heap.size 56 2 v l.length (aS (gV l))/\aA aB w w'
theorem JX(w:World)(lst:List (Ad×Nix))(B1 b:Nat)(h1:w.heap[B1]?=some (.cells #[.map (some b)] 117 (0,0)))(h2:cP eL adV eS w b lst)(hlen:lst.length≤65536) :
 Calls Tryz.prog 96 #[.func (.func 145) #[] #[.pointer (some ⟨B1,0,none⟩)],.func (.func 98) #[] #[]] w (FL w (lst.map (·.1))):=by
 have C:=O (Ht w lst B1 b h1 h2 hlen)
 have hok:∀y∈lst.map (·.1),eL y:=by
  obtain⟨es,clock,-,hm⟩:=h2;intro y hy;obtain⟨p,hp,rfl⟩:=List.mem_map.1 hy;exact hm.2.2.2.2 p hp
 have HOK:=O hok;clear h1 h2 hok;go_in;go_wp2_with fail;refine C.out.mono ?_;rintro e w1 ⟨v,ys,rfl,hp,ho,hk⟩;obtain⟨a,c,rfl,-,-⟩:=(Rd.of_owns ho).form;obtain⟨zs,rfl⟩:∃zs:List Adr,zs.map (·.1)=ys:=⟨ys.attach.map fun y=>⟨y.1,HOK.out _ (hp.subset y.2)⟩,by simp⟩
 have hzl:(zs.map (·.1)).length=zs.length:=List.length_map _;have hzn:zs.length≤65536:=by have:=hp.length_eq;simp only[List.length_map] at this;omega
 rw[hzl] at ho;have D:=O (FK w1 w.heap.size _ zs ho hzn);have HP:=O hp;have HK:=O hk
 have hob:∀k,w.heap.size≤k\/¬(Value.slice a zs.length c).ownBlock=some k:=fun k=>by
  by_cases e:(Value.slice a zs.length c).ownBlock=some k
  ·exact .inl (bJ ho e)
  ·exact .inr e
 have HOB:=O hob;clear hp ho hk hob;rw[hzl];go_wp2_with fail;refine D.out.mono ?_;rintro e w2 ⟨rfl,ho2,hk2⟩;have HO2:=O ho2;have HK2:=O hk2;clear ho2 hk2;go_wp2;go_ret;refine⟨_,rfl,?_,HK.out.trans' HK2.out (fun _ _ h=>h) fun i hi e=>?_⟩
 ·have e1:=HP.out.length_eq
  rw[←FJ HP.out,←e1,hzl];exact HO2.out
 ·rcases HOB.out i with h|h
  ·omega
  ·exact h e
end
section
open Go.RowKit Go.Maps Go.ChangeMaps
def jZ(l:List Ad):Prop:=∀x∈l,eL x
theorem qX(l:List Ad):(aS l).length=l.length*2:=pL bE l
theorem FM{l:List Ad}{k:Nat}{x:Ad}(h:l[k]?=some x){j:Nat}(hj:j<2):(aS l)[k*2+j]?=(aP x)[j]?:=by
 unfold aS;rw[xJ bE (by decide),show (k*2+j) / 2=k by omega,show (k*2+j) % 2=j by omega,h,Option.bind_some]
theorem jB{w:World}{v:Value}{l:List Ad}(h:Rd w 2 v l.length (aS l)){k:Nat}{x:Ad}(hk:l[k]?=some x) :
 ∃g o cap,v=.slice (some ⟨g,o,none⟩) l.length cap/\w.rangeAt g (o+k*2) (aP x):=by
 obtain⟨h0,a,cap,rfl,h1,h2,h3,h4⟩:=h;have hlt:=(List.getElem?_eq_some_iff.1 hk).1;obtain⟨g,o,rfl,hc⟩:=h4 (by rw[qX];omega);refine⟨g,o,cap,rfl,fun j u hj=>?_⟩;have hj2:j<2:=(List.getElem?_eq_some_iff.1 hj).1;have:=hc (k*2+j) u (by rw[FM hk hj2];exact hj)
 rwa [←Nat.add_assoc] at this
theorem mI(a b:List Ad):aS (a++b)=aS a++aS b:=by simp[aS]
theorem wS(x:Ad):aS [x]=aP x:=by simp[aS]
theorem wT(l:List Ad):∀u∈aS l,u.oneCell'=true:=by
 intro u hu;obtain⟨x,_,hx⟩:=List.mem_flatMap.1 hu;exact bM x u hx
def fG(l:List Ad):List (Ad×Nix):=l.foldl (fun s a=>dW s a .nix) []
theorem FN(l:List Ad)(x:Ad):fG (l++[x])=dW (fG l) x .nix:=by simp[fG]
theorem FO(s:List (Ad×Nix))(a:Ad):(dW s a .nix).length≤s.length+1:=by
 unfold dW;split<;>simp
theorem A8(l:List Ad):(fG l).length≤l.length:=by
 suffices h:∀(l:List Ad) (s:List (Ad×Nix)),(l.foldl (fun s a=>dW s a .nix) s).length≤s.length+l.length by simpa [fG] using h l []
 intro l
 induction l with
 | nil=>intro s;simp
 | cons x l ih=>intro s;have h1:=ih (dW s x .nix);have h2:=FO s x;simp only[List.foldl_cons,List.length_cons];omega
theorem Ni{w:World}{v:Value}{n:Nat}{l:List Ad}(h:Rd w 2 v n (aS l))(hn:n=l.length){b:Nat}(hb:w.heap.size≤b):¬(0<n/\v.ownBlock=some b):=fun ⟨h0,e⟩=>by
 have:=h.lt (by rw[qX];omega);obtain⟨b',hb',hlt⟩:=this;rw[e] at hb';cases hb';omega
def Nj(w:World)(l:List Ad)(e:Ending)(w':World):Prop:=∃b,e=.returned (.map (some b))/\cP eL adV eS w' b (fG l)/\w.heap.size≤b/\aA aB w w'
theorem CA(w:World)(v:Value)(l:List Ad)(ho:jZ l)(hr:Rd w 2 v l.length (aS l)):Calls Tryz.prog 48 #[v] w (Nj w l):=by
 have hmm:=@run_makeMap Tryz.prog;obtain⟨av,cv,rfl,hlc,hlm⟩:=hr.form;have hlen:l.length≤maxLen:=by omega
 unfold maxLen at hlen;clear hlc hlm;obtain⟨n,hn⟩:∃n,l.length=n:=⟨_,rfl⟩
 have HR:=O hr;have HN:=O hn;clear hr;rw[hn] at HR hlen ⊢;clear hn;go_in;go_wp2_with fail;obtain⟨w2,hw2⟩:∃w2,w.alloc (.map #[] 0)=w2:=⟨_,rfl⟩
 have hk2:aA aB w w2:=by rw[←hw2];exact(aA.refl _ _).alloc _
 have hs2:w2.heap.size=w.heap.size+1:=by rw[←hw2,World.size_alloc]
 have hm2:cP eL adV eS w2 w.heap.size (fG []):=by rw[←hw2];exact cP.made _
 rw[hw2];have HK2:=O hk2;have HM2:=O hm2;clear hw2 hk2 hm2 hmm
 go_loopw [9] (fun i wr=>∃k:Nat,k≤n/\i=.int .i64 k/\Hid (cP eL adV eS wr w.heap.size (fG (l.take k)))/\Hid (aA (fun j=>j=w.heap.size) w2 wr)) (fun i _=>n-(intOf i).toNat)
 case atStart=>exact⟨0,Nat.zero_le _,rfl,HM2,O (aA.refl _ _)⟩
 case round =>
  obtain⟨k,hk,rfl,HM,HK⟩:=hrel
  by_cases hlt:k<n
  ·obtain⟨x,hx⟩:∃x,l[k]?=some x:=⟨l[k]'(by rw[HN.out];exact hlt),List.getElem?_eq_getElem _⟩
   have hxo:eL x:=ho x (List.mem_of_getElem? hx);have hkw:aA (fun j=>j=w.heap.size) w wr:=HK2.out.trans' HK.out (fun _ _ h=>h.elim) (fun _ _ h=>h);have hrw:=HR.out.keep hkw (fun b hb e=>Ni HR.out HN.out.symm (Nat.le_of_eq e.symm) ⟨by omega,hb⟩);rw[←HN.out] at hrw;obtain⟨g,o,cap,hv,hcells⟩:=jB hrw hx;have hvv:av=some ⟨g,o,none⟩:=by cases hv;rfl
   subst hvv;have HC:=O hcells;have HXO:=O hxo;have HTK:Hid (fG (l.take (k+1))=dW (fG (l.take k)) x .nix):=O (by rw[List.take_add_one,hx,←FN];rfl);have hxv:adV x=.agg (aP x).toArray:=rfl;obtain⟨xc,hxc⟩:∃xc,aP x=xc:=⟨_,rfl⟩
   have HXC:=O hxc;have HSX:Hid ((Tryz.prog.info? 56).map (·.size)=some xc.length):=O (by rw[←hxc];exact bY);have HXL:Hid (xc.length=2):=O (by rw[←hxc];rfl);have HXE:Hid (∀u∈xc,u.oneCell'=true):=O (by rw[←hxc];exact bM x);have HXV:Hid (adV x=.agg xc.toArray):=O (by rw[←hxc];rfl);rw[hxc] at HC;have hwr:=HK.out.size;clear hx hxo hkw hrw hv hcells hxv hxc
   go_wp2_with (first
    | ((with_reducible show WL (some 12) (.load 56 (.tmp 11)));refine wpList_load_mid rfl 56 (.tmp 11) rfl g (o+k*2) rfl xc _ HC.out bU rfl HSX.out ?_)
    | ((with_reducible show WL (some 5) (.alloc 56));refine aU rfl 56 rfl eC eA #[.int .i64 0,.int .i64 0] rfl ?_)
    | ((with_reducible show WL none (.store 56 (.tmp 5) (.tmp 12)));refine aQ rfl 56 (.tmp 5) (.tmp 12) rfl wr.heap.size 0 xc rfl rfl #[.int .i64 0,.int .i64 0] 56 (heap_alloc_new _ _) (by rw[HXL.out];exact Nat.le_refl _) HSX.out HXE.out ?_
       intro w3 hb3 hk3;rw[aJ _ _ (by rw[HXL.out];rfl)] at hb3;have hkr:aA aB wr w3:=((aA.refl aB wr).alloc _).trans' hk3 (fun _ _ h=>h) (fun i hi e=>by omega);have HB3:=O hb3;have HKR:=O hkr;have HM3:=O (HM.out.keep hkr id);clear hb3 hk3 hkr)
    | ((with_reducible show WL (some 14) (.load 56 (.tmp 5)));refine wpList_load_mid rfl 56 (.tmp 5) rfl wr.heap.size 0 rfl xc _ (aD HB3.out) bU rfl HSX.out ?_)
    | ((with_reducible show WL none (.mapUpdate 117 (.tmp 13) (.tmp 14) (.tmp 15)));refine mC rfl rfl (.tmp 13) (.tmp 14) (.tmp 15) 117 rfl LL Tryz.underlying117 x HXO.out Nix.nix rfl HXV.out.symm rfl HM3.out ?_
       intro w4 hm4 hk4;have HM4:=O hm4;have HK4:=O hk4;clear hm4 hk4))
   have HME:=O (show cP eL adV eS w4 w.heap.size (fG (l.take (k+1))) by rw[HTK.out];exact HM4.out);have HKE:=O ((HK.out.trans' HKR.out (fun _ _ h=>h) (fun _ _ h=>h.elim)).trans' HK4.out (U:=fun j=>j=w.heap.size) (fun _ _ h=>h) (fun _ _ h=>h));clear HM4 HK4 HM3 HKR HK HM HB3 HC
   go_roundw
   case rel=>exact⟨k+1,by omega,by go_num,HME,HKE⟩
   case measure=>simp[intOf];omega
  ·obtain rfl:k=n:=by omega
   have HMN:Hid (cP eL adV eS wr w.heap.size (fG l)):=O (by have:=HM.out;rwa [List.take_of_length_le (by rw[HN.out];exact Nat.le_refl _)] at this);go_wp2;go_ret;exact⟨_,rfl,HMN.out,Nat.le_refl _,HK2.out.trans' HK.out (fun _ _ h=>h) (fun i hi e=>by omega)⟩
def cJ(s:List (Ad×Nix)):List Ad:=s.map (·.1)
def pO(w:World)(l:List Ad)(e:Ending)(w':World):Prop:=∃v,e=.returned v/\w'.ownsRow w.heap.size 56 2 v l.length (aS l)/\aA aB w w'
theorem uE(l:List Ad):(gV l).length=l.length:=List.length_mergeSort _
theorem CB(w:World)(b:Nat)(s:List (Ad×Nix))(h:cP eL adV eS w b s)(hl:s.length≤65536):Calls Tryz.prog 52 #[.map (some b)] w (pO w (gV (cJ s))):=by
 obtain⟨w1,hw1⟩:∃w1,w.alloc (.cells #[.map (some b)] 117)=w1:=⟨_,rfl⟩
 have hk1:aA aB w w1:=by rw[←hw1];exact(aA.refl _ _).alloc _
 have hb1:w1.heap[w.heap.size]?=some (.cells #[.map (some b)] 117 (0,0)):=by rw[←hw1];exact heap_alloc_new _ _
 have C:=O (JX w1 s w.heap.size b hb1 (h.keep hk1 id) hl);have HK1:=O hk1;have HW1:=O hw1;have hs1:=hk1.size;have K:=O (Eo (some b) w);clear h hk1 hb1 hw1;go_in;go_wp2_with fail;refine K.out.mono ?_;rintro e w2 ⟨rfl,rfl⟩;rw[HW1.out];go_wp2_with fail;refine C.out.mono ?_;rintro e w3 ⟨v,rfl,ho,hk⟩;rw[List.length_map] at ho;obtain⟨a,c,rfl,-,-⟩:=(Rd.of_owns ho).form;have HO:=O ho;have HK:=O (HK1.out.trans hk);clear ho hk;go_wp2;go_ret;refine⟨_,rfl,?_,HK.out⟩;rw[uE,show (cJ s).length=s.length from List.length_map _];exact aV HO.out hs1
theorem JY(w:World)(v:Value)(l:List Ad)(ho:jZ l)(hr:Rd w 2 v l.length (aS l))(hl:l.length≤65536):Calls Tryz.prog 53 #[v] w (pO w (gV (cJ (fG l)))):=by
 have OA:=O (CA w v l ho hr);obtain⟨av,cv,rfl,-,hlen⟩:=hr.form;have hsl:(fG l).length≤65536:=Nat.le_trans (A8 l) hl;obtain⟨n,hn⟩:∃n,l.length=n:=⟨_,rfl⟩
 rw[hn] at OA ⊢;clear hr hlen hn hl;go_in;go_wp2_with fail;refine OA.out.mono ?_;rintro e w1 ⟨b,rfl,hm,hb,hk⟩;have L:=O (CB w1 b _ hm hsl);have HK:=O hk;have hs:=hk.size;clear hm hk;go_wp2_with fail;refine L.out.mono ?_;rintro e w2 ⟨v2,rfl,ho2,hk2⟩;obtain⟨a,c,rfl,-,-⟩:=(Rd.of_owns ho2).form;have HO:=O ho2;have HK2:=O (HK.out.trans hk2);clear ho2 hk2;go_wp2;go_ret;exact⟨_,rfl,aV HO.out hs,HK2.out⟩
def vU(l:List Ad):Prop:=l.Pairwise fun x y=>fC x y=true
theorem FP{x y:Ad}(h:fC x y=true):fC y x=false:=by rw[pN] at h;rw[jY];omega
theorem E1{x y:Ad}(h:fC x y=true):x≠y:=by
 intro e;subst e;rw[wR] at h;cases h
theorem A9:∀{l m:List Ad},vU l->vU m->(∀x,x∈l↔x∈m)->l=m
 | [],[],_,_,_=>rfl
 | [],y::m,_,_,h=>absurd ((h y).2 (by simp)) (by simp)
 | x::l,[],_,_,h=>absurd ((h x).1 (by simp)) (by simp)
 | x::l,y::m,hl,hm,h=>by
   unfold vU at hl hm;rw[List.pairwise_cons] at hl hm
   have hxy:x=y:=by
    have h1:x=y\/x∈m:=by simpa using (h x).1 (by simp)
    have h2:y=x\/y∈l:=by simpa using (h y).2 (by simp)
    rcases h1 with h1|h1
    ·exact h1
    ·rcases h2 with h2|h2
     ·exact h2.symm
     ·have a:=hm.1 x h1
      rw[FP (hl.1 y h2)] at a;cases a
   subst hxy
   have:l=m:=A9 hl.2 hm.2 fun z=>by
    constructor
    ·intro hz
     have:z=x\/z∈m:=by simpa using (h z).1 (by simp[hz])
     exact this.resolve_left fun e=>E1 (hl.1 z hz) e.symm
    ·intro hz
     have:z=x\/z∈l:=by simpa using (h z).2 (by simp[hz])
     exact this.resolve_left fun e=>E1 (hm.1 z hz) e.symm
   rw[this]
theorem qI(l:List (Ad×Nix))(a x:Ad)(v:Nix):x∈cJ (dW l a v)↔x∈cJ l\/x=a:=by
 unfold dW cJ;split
 ·rename_i h
  have hk:(l.map fun p=>if p.1=a then (a,v) else p).map (·.1)=l.map (·.1):=by
   rw[List.map_map];apply List.map_congr_left;intro p _;simp only[Function.comp];split
   ·rename_i e;exact e.symm
   ·rfl
  rw[hk];constructor
  ·exact fun h=>.inl h
  ·rintro (h'|rfl)
   ·exact h'
   ·obtain⟨p,hp,he⟩:=List.any_eq_true.1 h
    exact List.mem_map.2 ⟨p,hp,of_decide_eq_true he⟩
 ·simp
theorem CD{l:List (Ad×Nix)}(h:(cJ l).Nodup)(a:Ad)(v:Nix):(cJ (dW l a v)).Nodup:=by
 unfold dW cJ at *;split
 ·have hk:(l.map fun p=>if p.1=a then (a,v) else p).map (·.1)=l.map (·.1):=by
   rw[List.map_map];apply List.map_congr_left;intro p _;simp only[Function.comp];split
   ·rename_i e;exact e.symm
   ·rfl
  rw[hk];exact h
 ·rename_i hn
  rw[List.map_append,List.nodup_append];refine⟨h,by simp,?_⟩;intro x hx y hy e;simp only[List.map_cons,List.map_nil,List.mem_singleton] at hy;subst hy;subst e;obtain⟨p,hp,he⟩:=List.mem_map.1 hx;exact hn (List.any_eq_true.2 ⟨p,hp,decide_eq_true he⟩)
theorem oR(l:List Ad):(cJ (fG l)).Nodup/\∀x,x∈cJ (fG l)↔x∈l:=by
 suffices h:∀(l:List Ad) (s:List (Ad×Nix)),(cJ s).Nodup->(cJ (l.foldl (fun s a=>dW s a .nix) s)).Nodup/\∀x,x∈cJ (l.foldl (fun s a=>dW s a .nix) s)↔x∈cJ s\/x∈l by
  have:=h l [] (by simp[cJ]);exact⟨this.1,fun x=>by rw[show fG l=l.foldl (fun s a=>dW s a .nix) [] from rfl,this.2 x];simp[cJ]⟩
 intro l
 induction l with
 | nil=>intro s hs;exact⟨hs,fun x=>by simp⟩
 | cons a l ih =>
   intro s hs;have:=ih (dW s a .nix) (CD hs a .nix);refine⟨this.1,fun x=>?_⟩;rw[List.foldl_cons,this.2 x,qI,List.mem_cons];constructor
   ·rintro ((h|h)|h)<;>simp[h]
   ·rintro (h|h|h)<;>simp[h]
theorem wU{l:List Ad}(h:l.Nodup):vU (gV l):=by
 have h1:(gV l).Pairwise fun x y=>(!fC y x)=true:=List.pairwise_mergeSort xK uC l
 have h2:(gV l).Nodup:=(List.mergeSort_perm l _).nodup_iff.2 h;refine(List.Pairwise.and h1 h2).imp fun {x y} ⟨p,q⟩=>?_
 simp only[Bool.not_eq_true'] at p;cases e:fC x y
 ·exact absurd (sH e p) q
 ·rfl
def jC(l:List Ad):List Ad:=gV (cJ (fG l))
theorem Er(l:List Ad):vU (jC l):=wU (oR l).1
theorem uF{l:List Ad}{x:Ad}:x∈jC l↔x∈l:=by unfold jC;rw[A7];exact(oR l).2 x
theorem JZ{l m:List Ad}(h:vU l)(hm:∀x,x∈l↔x∈m):l=jC m:=A9 h (Er m) fun x=>by rw[uF];exact hm x
theorem Ba(l:List Ad):(jC l).length≤l.length:=by
 unfold jC;rw[uE];unfold cJ;rw[List.length_map];exact A8 l
theorem yU{s:List (Ad×Nix)}(h:(cJ s).Nodup){l:List Ad}(hm:∀x,x∈cJ s↔x∈l):gV (cJ s)=jC l:=JZ (wU h) fun x=>by rw[A7];exact hm x
end
section
def dQ(L:List Ad)(d s:Nat):Bool:=decide ((⟨(d:Int),(s:Int)⟩:Ad)∈L)
def fW(L:List Ad)(d s:Nat):Bool:=decide (5≤s) && !dQ L d s
def aZ(L:List Ad)(d k:Nat):List Int:=((List.range k).filter (fW L d)).map fun(s:Nat)=>(s:Int)
theorem qY(L:List Ad)(d k:Nat):aZ L d (k+1)=aZ L d k++if fW L d k then [(k:Int)] else []:=by
 unfold aZ;rw[List.range_succ,List.filter_append,List.map_append]
 congr 1
 cases h:fW L d k<;>simp[h]
theorem Es(L:List Ad)(d:Nat):aZ L d 5=[]:=by
 unfold aZ
 have:(List.range 5).filter (fW L d)=[]:=by
  rw[List.filter_eq_nil_iff];intro s hs;have:=List.mem_range.1 hs;unfold fW;rw[decide_eq_false (by omega:¬5≤s)];simp
 rw[this];rfl
theorem sI{L:List Ad}{d k:Nat}{x:Int}:x∈aZ L d k↔∃s:Nat,x=(s:Int)/\s<k/\5≤s/\dQ L d s=false:=by
 unfold aZ;rw[List.mem_map];constructor
 ·rintro⟨s,hs,rfl⟩
  obtain⟨h1,h2⟩:=List.mem_filter.1 hs;unfold fW at h2;rw[Bool.and_eq_true] at h2;exact⟨s,rfl,List.mem_range.1 h1,of_decide_eq_true h2.1,by simpa using h2.2⟩
 ·rintro⟨s,rfl,h1,h2,h3⟩
  refine⟨s,List.mem_filter.2 ⟨List.mem_range.2 h1,?_⟩,rfl⟩;unfold fW;rw[decide_eq_true h2,h3];rfl
theorem CE(L:List Ad)(d k:Nat):(aZ L d k).Pairwise (·<·):=by
 unfold aZ;rw[List.pairwise_map];refine(List.Pairwise.filter _ List.pairwise_lt_range).imp ?_;intro a b h;exact Int.ofNat_lt.2 h
theorem sJ(L:List Ad)(d k:Nat):(aZ L d k).length≤k-5:=by
 induction k with
 | zero=>simp[aZ]
 | succ k ih =>
   rw[qY,List.length_append];cases h:fW L d k
   ·simp only[Bool.false_eq_true,if_false,List.length_nil];omega
   ·unfold fW at h
    rw[Bool.and_eq_true] at h;have:=of_decide_eq_true h.1;simp only[if_true,List.length_singleton];omega
theorem pP{L M:List Ad}{d k:Nat}(h:∀s,s<k->5≤s->dQ L d s=dQ M d s):aZ L d k=aZ M d k:=by
 unfold aZ;rw[List.filter_congr];intro s hs;unfold fW
 by_cases h5:5≤s
 ·rw[h s (List.mem_range.1 hs) h5]
 ·rw[decide_eq_false h5];rfl
theorem Et{L M:List Ad}(h:∀x,x∈L↔x∈M)(d s:Nat):dQ L d s=dQ M d s:=by
 unfold dQ;rw[decide_eq_decide];exact h _
theorem oS(L:List Ad)(e t d s:Nat):dQ (L++[⟨(e:Int),(t:Int)⟩]) d s=(dQ L d s || (decide (d=e) && decide (s=t))):=by
 unfold dQ;rw[Bool.eq_iff_iff];simp only[List.mem_append,List.mem_singleton,decide_eq_true_eq,Bool.or_eq_true,Bool.and_eq_true,Ad.mk.injEq];constructor
 ·rintro (h|⟨h1,h2⟩)
  ·exact .inl h
  ·exact .inr ⟨by omega,by omega⟩
 ·rintro (h|⟨h1,h2⟩)
  ·exact .inl h
  ·exact .inr ⟨by omega,by omega⟩
theorem nF{L:List Ad}{d S:Nat}{x:Int}{r:List Int}(h:aZ L d S=x::r):∃t:Nat,x=(t:Int)/\t<S/\5≤t/\dQ L d t=false/\(∀s,5≤s->s<t->dQ L d s=true)/\aZ (L++[⟨(d:Int),x⟩]) d S=r:=by
 have hm:x∈aZ L d S:=by rw[h];exact List.mem_cons_self ..
 obtain⟨t,rfl,h1,h2,h3⟩:=sI.1 hm;have hr:=CE L d S;rw[h,List.pairwise_cons] at hr;refine⟨t,rfl,h1,h2,h3,fun s hs1 hs2=>?_,?_⟩
 ·cases hu:dQ L d s with
  | true=>rfl
  | false =>
    have:(s:Int)∈aZ L d S:=sI.2 ⟨s,rfl,by omega,hs1,hu⟩;rw[h] at this;rcases List.mem_cons.1 this with e|e
    ·omega
    ·have:=hr.1 _ e
     omega
 ·have e:aZ (L++[⟨(d:Int),(t:Int)⟩]) d S=(aZ L d S).filter fun y=>!decide (y=(t:Int)):=by
   unfold aZ;rw[List.filter_map,List.filter_filter]
   congr 1
   refine List.filter_congr fun s hs=>?_
   unfold fW;rw[oS];simp only[Function.comp,decide_true,Bool.true_and]
   by_cases e:s=t
   ·subst e;simp
   ·have:¬(s:Int)=(t:Int):=by omega
    simp[e,this]
  rw[e,h,List.filter_cons];rw[if_neg (by simp)];refine List.filter_eq_self.2 fun y hy=>?_
  have:=hr.1 y hy;have hne:¬y=(t:Int):=by omega
  simp[hne]
theorem CF{L:List Ad}{d e t S:Nat}(h:d≠e):aZ (L++[⟨(e:Int),(t:Int)⟩]) d S=aZ L d S:=pP fun s _ _=>by
 rw[oS,decide_eq_false h];simp
def dY(x:Ad)(D S:Nat):Prop:=0≤x.1/\x.1<(D:Int)/\5≤x.2/\x.2<(S:Int)
def bZ(L:List Ad)(D S:Nat):List Int:=(List.range D).map fun d=>((aZ L d S).length:Int)
theorem jK(L:List Ad)(D S:Nat):(bZ L D S).length=D:=by simp[bZ]
theorem qJ(L:List Ad){D S d:Nat}(h:d<D):(bZ L D S).getD d 0=((aZ L d S).length:Int):=by
 unfold bZ;rw[List.getD_eq_getElem?_getD,List.getElem?_map,List.getElem?_range h];rfl
end
section
open Go.RowKit Go.Maps Go.ChangeMaps
def wv(x:BitVec 64):Value:=.int .u64 (x.toNat:Int)
theorem nG(x:BitVec 64):BitVec.ofInt 64 (x.toNat:Int)=x:=by simp
theorem xL(n:Nat)(h:n<18446744073709551616):IntKind.u64.wrap (n:Int)=(n:Int):=by
 show ((n:Int) % 18446744073709551616)=n;omega
theorem Hu(x:BitVec 64):x.toNat<18446744073709551616:=x.isLt
theorem CG(x y:BitVec 64):bits .and .u64 (x.toNat:Int) (y.toNat:Int)=((x &&& y).toNat:Int):=by
 show IntKind.u64.wrap ((BitVec.ofInt 64 (x.toNat:Int) &&& BitVec.ofInt 64 (y.toNat:Int)).toNat:Int)=_;rw[nG,nG,xL _ (Hu _)]
theorem L5(i:Nat)(h:i<64):IntKind.u64.wrap ((2:Int) ^ i)=((BitVec.twoPow 64 i).toNat:Int):=by
 rw[BitVec.toNat_twoPow,Nat.mod_eq_of_lt (Nat.pow_lt_pow_right (by decide) h)];have:((2:Int) ^ i)=((2 ^ i:Nat):Int):=by simp
 rw[this,xL _ (Nat.pow_lt_pow_right (by decide) h)]
theorem E2(x:BitVec 64)(i:Nat):(x.toNat:Int) / 2 ^ i=((x >>> i).toNat:Int):=by
 rw[BitVec.toNat_ushiftRight,Nat.shiftRight_eq_div_pow];simp
theorem E3(x:BitVec 64)(i:Nat):decide (((x >>> i &&& 1#64).toNat:Int)=1)=x.getLsbD i:=by
 have h:x >>> i &&& 1#64=if x.getLsbD i then 1#64 else 0#64:=by
  apply BitVec.eq_of_getLsbD_eq;intro j hj;rw[BitVec.getLsbD_and,BitVec.getLsbD_ushiftRight]
  by_cases h0:j=0
  ·subst h0
   cases x.getLsbD i<;>simp
  ·have:(1#64).getLsbD j=false:=by simp[BitVec.getLsbD_one,h0]
   rw[this];cases x.getLsbD i<;>simp[BitVec.getLsbD_one,h0]
 rw[h];cases x.getLsbD i<;>rfl
theorem J0(x y:BitVec 64):bits .xor .u64 (x.toNat:Int) (y.toNat:Int)=((x ^^^ y).toNat:Int):=by
 show IntKind.u64.wrap ((BitVec.ofInt 64 (x.toNat:Int) ^^^ BitVec.ofInt 64 (y.toNat:Int)).toNat:Int)=_;rw[nG,nG,xL _ (Hu _)]
theorem J1(x:BitVec 64)(i j:Nat)(hi:i<64):(x ^^^ BitVec.twoPow 64 i).getLsbD j=(x.getLsbD j != decide (i=j)):=by
 rw[BitVec.getLsbD_xor,BitVec.getLsbD_twoPow];simp[hi]
structure bL(w:World)(b:Nat)(c:Nat->Option Nat)(D:Nat)(L:List Ad):Prop where
 row:∃cs:Array Value,w.heap[b]?=some (.cells cs 252 (0,0))/\cs.size=D*65 /\
  (∀d,d<D->∀k,k<64->∃x:BitVec 64,cs[d*65+k]?=some (wv x)/\∀j,j<64->x.getLsbD j=dQ L d (64*k+j)) /\
  ∀d,d<D->cs[d*65+64]?=some (.chan (c d))
theorem bL.keep{S:Nat->Prop}{w w':World}{b D:Nat}{c:Nat->Option Nat}{L:List Ad}(h:bL w b c D L)(k:aA S w w')(hS:¬S b):bL w' b c D L:=by
 obtain⟨cs,h1,h2⟩:=h.row;exact⟨cs,k.blk h1 hS,h2⟩
theorem bL.congr{w:World}{b D:Nat}{c:Nat->Option Nat}{L M:List Ad}(h:bL w b c D L)(he:∀x,x∈L↔x∈M):bL w b c D M:=by
 obtain⟨cs,h1,h2,h3,h4⟩:=h.row;refine⟨cs,h1,h2,fun d hd k hk=>?_,h4⟩;obtain⟨x,h5,h6⟩:=h3 d hd k hk;exact⟨x,h5,fun j hj=>by rw[h6 j hj,Et he]⟩
theorem bL.lt{w:World}{b D:Nat}{c:Nat->Option Nat}{L:List Ad}(h:bL w b c D L):b<w.heap.size:=by
 obtain⟨cs,h1,-⟩:=h.row;exact(Array.getElem?_eq_some_iff.1 h1).1
theorem bL.word{w:World}{b D:Nat}{c:Nat->Option Nat}{L:List Ad}(h:bL w b c D L){d s:Nat}(hd:d<D)(hs:s<4096):∃x:BitVec 64,w.cell? ⟨b,d*65+s / 64,none⟩=some (wv x)/\x.getLsbD (s % 64)=dQ L d s:=by
 obtain⟨cs,h1,h2,h3,h4⟩:=h.row;obtain⟨x,h5,h6⟩:=h3 d hd (s / 64) (by omega);refine⟨x,aC h1 h5,?_⟩;rw[h6 _ (Nat.mod_lt _ (by decide)),Nat.div_add_mod]
theorem bL.chan{w:World}{b D:Nat}{c:Nat->Option Nat}{L:List Ad}(h:bL w b c D L){d:Nat}(hd:d<D):w.cell? ⟨b,d*65+64,none⟩=some (.chan (c d)):=by
 obtain⟨cs,h1,h2,h3,h4⟩:=h.row;exact aC h1 (h4 d hd)
theorem bL.free{w:World}{b D:Nat}{c:Nat->Option Nat}{L:List Ad}(h:bL w b c D L)(i:Nat):w.frozen? ⟨b,i,none⟩=false:=by
 obtain⟨cs,h1,-⟩:=h.row;exact cY h1 i
theorem Ow{d e k l:Nat}(hk:k<65)(hl:l<65)(h:d*65+k=e*65+l):d=e/\k=l:=by omega
theorem bL.flip{w:World}{b D:Nat}{c:Nat->Option Nat}{L M:List Ad}(h:bL w b c D L){d s:Nat}(hd:d<D)(hs:s<4096){x:BitVec 64}(hx:w.cell? ⟨b,d*65+s / 64,none⟩=some (wv x))
 (hM:∀e t,e<D->t<4096->dQ M e t=(dQ L e t != (decide (e=d) && decide (t=s)))) :
 bL (w.setCell ⟨b,d*65+s / 64,none⟩ (wv (x ^^^ BitVec.twoPow 64 (s % 64)))) b c D M/\aA (fun k=>k=b) w (w.setCell ⟨b,d*65+s / 64,none⟩ (wv (x ^^^ BitVec.twoPow 64 (s % 64)))):=by
 obtain⟨cs,h1,h2,h3,h4⟩:=h.row;have hb:=dN h1 (d*65+s / 64) (wv (x ^^^ BitVec.twoPow 64 (s % 64)))
 have hsz:d*65+s / 64<cs.size:=by
  rw[h2];have:d*65+65≤D*65:=by omega
  omega
 have hxc:cs[d*65+s / 64]?=some (wv x):=by
  obtain⟨y,h5,-⟩:=h3 d hd (s / 64) (by omega);have:=aC h1 h5;rw[hx] at this;rw[h5,←this]
 refine⟨⟨_,hb,by rw[Array.size_setIfInBounds];exact h2,fun e he k hk=>?_,fun e he=>?_⟩,(aA.refl (fun k=>k=b) w).setCell (p:=⟨b,_,none⟩) (fun _=>rfl) _⟩
 ·obtain⟨y,h5,h6⟩:=h3 e he k hk
  by_cases hek:d*65+s / 64=e*65+k
  ·obtain⟨rfl,rfl⟩:=Ow (by omega) (by omega) hek
   refine⟨_,by rw[Array.getElem?_setIfInBounds_self_of_lt hsz],fun j hj=>?_⟩;rw[hxc] at h5
   have hxy:x=y:=by
    have e1:wv x=wv y:=Option.some.inj h5;unfold wv at e1;injection e1 with _ e2
    exact BitVec.eq_of_toNat_eq (by omega)
   subst hxy;rw[J1 _ _ _ (Nat.mod_lt _ (by decide)),h6 j hj,hM _ _ hd (by omega),decide_eq_true rfl,Bool.true_and]
   congr 1
   rw[decide_eq_decide];omega
  ·refine⟨y,by rw[Array.getElem?_setIfInBounds_ne hek];exact h5,fun j hj=>?_⟩
   rw[h6 j hj,hM _ _ he (by omega)]
   have:(decide (e=d) && decide (64*k+j=s))=false:=by
    rw[Bool.and_eq_false_iff,decide_eq_false_iff_not,decide_eq_false_iff_not]
    by_cases e1:e=d
    ·subst e1
     refine .inr fun e2=>hek ?_
     omega
    ·exact .inl e1
   rw[this];simp
 ·rw[Array.getElem?_setIfInBounds_ne (by omega)]
  exact h4 e he
theorem bL.lay{w:World}{b D:Nat}{c:Nat->Option Nat}{L:List Ad}(h:bL w b c D L){d:Nat}(hd:d<D)(v:Option Nat) :
 bL (w.setCell ⟨b,d*65+64,none⟩ (.chan v)) b (fun e=>if e=d then v else c e) D L/\aA (fun k=>k=b) w (w.setCell ⟨b,d*65+64,none⟩ (.chan v)):=by
 obtain⟨cs,h1,h2,h3,h4⟩:=h.row;have hb:=dN h1 (d*65+64) (.chan v)
 have hsz:d*65+64<cs.size:=by
  rw[h2];have:d*65+65≤D*65:=by omega
  omega
 refine⟨⟨_,hb,by rw[Array.size_setIfInBounds];exact h2,fun e he k hk=>?_,fun e he=>?_⟩,(aA.refl (fun k=>k=b) w).setCell (p:=⟨b,_,none⟩) (fun _=>rfl) _⟩
 ·obtain⟨y,h5,h6⟩:=h3 e he k hk
  exact⟨y,by rw[Array.getElem?_setIfInBounds_ne (by omega)];exact h5,h6⟩
 ·by_cases e1:e=d
  ·subst e1
   rw[Array.getElem?_setIfInBounds_self_of_lt hsz,if_pos rfl]
  ·rw[Array.getElem?_setIfInBounds_ne (by omega),if_neg e1]
   exact h4 e he
theorem J2(w:World)(b D:Nat)(c:Nat->Option Nat)(L:List Ad)(h:bL w b c D L)(d s:Nat)(hd:d<D)(hs:s<4096) :
 Calls Tryz.prog 174 #[.pointer (some ⟨b,d*65,none⟩),.int .i64 (s:Int)] w fun e w'=>e=.returned (.bool (dQ L d s))/\w=w':=by
 obtain⟨x,hc,hx⟩:=h.word hd hs;obtain⟨q,hqd⟩:∃q,s / 64=q:=⟨_,rfl⟩
 obtain⟨r,hrd⟩:∃q,s % 64=q:=⟨_,rfl⟩
 have hq64:q<64:=by omega
 have hr64:r<64:=by omega
 rw[hqd] at hc;rw[hrd] at hx;have h1:=E2 x r;have h2:=CG (x >>> r) 1#64;have h3:=E3 x r;rw[hx] at h3;obtain⟨xv,hxv⟩:∃n:Int,(x.toNat:Int)=n:=⟨_,rfl⟩
 obtain⟨sv,hsv⟩:∃n:Int,((x >>> r).toNat:Int)=n:=⟨_,rfl⟩
 obtain⟨rv,hrv⟩:∃n:Int,((x >>> r &&& 1#64).toNat:Int)=n:=⟨_,rfl⟩
 obtain⟨bb,hbb⟩:∃b,dQ L d s=b:=⟨_,rfl⟩
 have e1:(((1#64:BitVec 64).toNat:Nat):Int)=1:=rfl;unfold wv at hc;rw[e1] at h2;rw[hxv] at hc h1;rw[hsv] at h1 h2;rw[hrv] at h2 h3;rw[hbb] at h3 ⊢;have h3':(rv == 1)=bb:=h3;obtain⟨o,ho⟩:∃o,d*65=o:=⟨_,rfl⟩
 rw[ho] at hc ⊢;have hq:(s:Int) / 64=(q:Int):=by omega
 have hm:(s:Int) % 64=(r:Int):=by omega
 have hs0:(0:Int)≤(s:Int):=by omega
 have hqd2:(s:Int).tdiv 64=(q:Int):=by rw[Int.tdiv_eq_ediv_of_nonneg (by omega)];omega
 have hmd2:(s:Int).tmod 64=(r:Int):=by rw[Int.tmod_eq_emod_of_nonneg (by omega)];omega
 have hwq:IntKind.i64.wrap (q:Int)=(q:Int):=by rw[IntWalk.i64_in _ (by omega)]
 have hwr:IntKind.i64.wrap (r:Int)=(r:Int):=by rw[IntWalk.i64_in _ (by omega)]
 have hq0:(0:Int)≤(q:Int):=by omega
 have hq1:(q:Int)<64:=by omega
 have hr0:(0:Int)≤(r:Int):=by omega
 have hr1:(r:Int)<64:=by omega
 clear h hx hxv hsv hrv hbb e1 ho hqd hrd;go_in;go_wp2;go_ret;exact⟨rfl,rfl⟩
end
section
open Go.RowKit
theorem pQ{P:Program}{ops:Array Oper}{S:World->Prop}{op:Oper}{a:Act}(hw:Region.wanted op (yielded ops a.tmps)=true)(t:TypeId)(x y:Operand)(rt:TypeId)(ho:op.op=.binOp .neq t x y rt)
 (xs ys:Array Value) (hx:a.eval x=.agg xs) (hy:a.eval y=.agg ys) (hg:P.eqGuardType P.depth t=false){b:Bool}(h:∀w,(binOp .neq t (.agg xs) (.agg ys)).run P w=.ok (.bool b) w):YieldsIf P ops S op (.bool b) a:=
 .inl ⟨hw,fun w _=>by
  unfold execOp;simp only[ho,hx,hy,Sem.run_bind,Sem.run_pure,Result.andThen_ok,run_eqGuard_agg w .neq t x y xs ys hg,h w]⟩
theorem L6:Tryz.prog.eqGuardType Tryz.prog.depth 56=false:=by kernel_rfl
theorem L7:Tryz.prog.stoodInHeld 56=false:=by kernel_rfl
theorem Ox(a b:Ad)(w:World):Sem.run Tryz.prog (binOp .eql 56 (.agg (aP a).toArray) (.agg (aP b).toArray)) w=.ok (.bool (decide (a=b))) w:=by
 have e:decide (a=b)=(decide (a.dev=b.dev) && decide (a.sec=b.sec)):=by rw[Bool.eq_iff_iff];simp[Ad.ext_iff]
 rw[e,run_eql_struct,run_equalIn_agg w 9999 56 _ _ bU L7,uA,JT];have hi:∀x y:Int,(Op.equalIn 9999 3 (.int .i64 x) (.int .i64 y)).run Tryz.prog w=.ok (x == y) w:=fun x y=>run_equalIn_int w 9998 3 .i64 .i64 x y Tryz.underlying3
 have hd:∀x y:Int,(x == y)=decide (x=y):=fun x y=>by rw[Bool.eq_iff_iff];simp
 have a0:(aP a).toArray[0]?=some (.int .i64 a.dev):=rfl;have a1:(aP a).toArray[1]?=some (.int .i64 a.sec):=rfl;have b0:(aP b).toArray[0]?=some (.int .i64 b.dev):=rfl;have b1:(aP b).toArray[1]?=some (.int .i64 b.sec):=rfl;simp only[eqT,ne_eq,String.reduceEq,not_false_eq_true,if_true,Sem.run_bind,Sem.run_ite,Sem.run_pure,Result.andThen_ok,sG _ 0 _ a0,sG _ 0 _ b0,sG _ 1 _ a1,sG _ 1 _ b1,hi,hd];cases decide (a.dev=b.dev)<;>cases decide (a.sec=b.sec)<;>rfl
theorem N9(a b:Ad)(w:World):Sem.run Tryz.prog (binOp .neq 56 (.agg (aP a).toArray) (.agg (aP b).toArray)) w=.ok (.bool (!decide (a=b))) w:=yS (Ox a b w)
def eV(a:Ad)(devs sectors:Int):Bool:=decide (2≤devs) && decide (devs≤8) && decide (8≤sectors) && decide (sectors≤4096) && decide (0≤a.dev) && decide (a.dev<devs) && decide (5≤a.sec) && decide (a.sec<sectors)
theorem E4(a:Ad)(devs sectors:Int)(w:World):Calls Tryz.prog 200 #[adV a,.int .i64 devs,.int .i64 sectors] w fun e w'=>e=.returned (.bool (eV a devs sectors))/\aA aB w w':=by
 obtain⟨w1,hw1,hk1,hb1,hs1⟩:=aR w (aP a).toArray 56;obtain⟨dv,sc⟩:=a;have c0:w1.cell? ⟨w.heap.size,0,none⟩=some (.int .i64 dv):=aC hb1 rfl;have c1:w1.cell? ⟨w.heap.size,1,none⟩=some (.int .i64 sc):=aC hb1 rfl;have HK:=O hk1;obtain⟨r,hr⟩:∃r,eV ⟨dv,sc⟩ devs sectors=r:=⟨_,rfl⟩
 have HR:=O hr;rw[hr];clear hk1 hb1 hs1 hr;unfold adV;unfold aP at hw1 ⊢
 by_cases h0:2≤devs
 rotate_left
 ·have e:r=false:=by rw[←HR.out];simp[eV];omega
  subst e;go_in;go_wp2;go_ret;exact⟨rfl,HK.out⟩
 by_cases h1:devs≤8
 rotate_left
 ·have e:r=false:=by rw[←HR.out];simp[eV];omega
  subst e;go_in;go_wp2;go_ret;exact⟨rfl,HK.out⟩
 by_cases h2:8≤sectors
 rotate_left
 ·have e:r=false:=by rw[←HR.out];simp[eV];omega
  subst e;go_in;go_wp2;go_ret;exact⟨rfl,HK.out⟩
 by_cases h3:sectors≤4096
 rotate_left
 ·have e:r=false:=by rw[←HR.out];simp[eV];omega
  subst e;go_in;go_wp2;go_ret;exact⟨rfl,HK.out⟩
 by_cases h4:0≤dv
 rotate_left
 ·have e:r=false:=by rw[←HR.out];simp[eV];omega
  subst e;go_in;go_wp2;go_ret;exact⟨rfl,HK.out⟩
 by_cases h5:dv<devs
 rotate_left
 ·have e:r=false:=by rw[←HR.out];simp[eV];omega
  subst e;go_in;go_wp2;go_ret;exact⟨rfl,HK.out⟩
 by_cases h6:5≤sc
 rotate_left
 ·have e:r=false:=by rw[←HR.out];simp[eV];omega
  subst e;go_in;go_wp2;go_ret;exact⟨rfl,HK.out⟩
 by_cases h7:sc<sectors
 rotate_left
 ·have e:r=false:=by rw[←HR.out];simp[eV];omega
  subst e;go_in;go_wp2;go_ret;exact⟨rfl,HK.out⟩
 have e:r=true:=by rw[←HR.out];simp[eV];omega
 subst e;go_in;go_wp2;go_ret;exact⟨rfl,HK.out⟩
theorem L8(a b:Int)(w:World):(Instr.build 56 #[(0,.int .i64 a),(1,.int .i64 b)]).run Tryz.prog w=.ok (.agg #[.int .i64 a,.int .i64 b]) w:=by kernel_rfl
end
section
open Go.RowKit Go.Maps Go.ChangeMaps
theorem MY(w:World):(zeroValue 120).run Tryz.prog w=.ok (.agg #[]) w:=by kernel_rfl
theorem cP.lt{w:World}{b:Nat}{l:List (Ad×Nix)}(h:cP eL adV eS w b l):b<w.heap.size:=by
 obtain⟨es,clock,hb,-⟩:=h;exact lt_of_block hb
theorem EP{w:World}{b:Nat}{l:List (Ad×Nix)}(h:cP eL adV eS w b l):(cJ l).Nodup:=by
 obtain⟨es,clock,hb,hm⟩:=h;exact hm.2.2.2.1
def Lo(w:World)(d:Nat)(dst lst:List (Ad×Nix))(e:Ending)(w':World):Prop:=e=.returned (.tuple #[])/\∃s,cP eL adV eS w' d s/\(∀q,q∈cJ s↔q∈cJ dst\/q∈cJ lst)/\aA (fun k=>k=d) w w'
theorem Lp(w:World)(d b:Nat)(dst lst:List (Ad×Nix))(hd:cP eL adV eS w d dst)(hm:cP eL adV eS w b lst)(hdl:d<w.heap.size)(hdb:d≠b) :
 Calls Tryz.prog 177 #[.map (some d),.map (some b)] w (Lo w d dst lst):=by
 have HM:=O hm;have HD:=O hd;clear hm hd;go_in
 go_wp2_with (first
  | ((with_reducible show WL _ (.range _ _));refine zZ rfl (.tmp 6) 117 rfl Tryz.underlying117 rfl HM.out ?_
     intro w1 hi1 hk1 hs1;have HI:=O hi1;have HK1:=O hk1;have HD1:=O (HD.out.keep hk1 id);have hs1':w.heap.size<w1.heap.size:=by omega
     clear hi1 hk1 hs1))
 go_frame
 go_loopw [9] (fun _ wr=>∃(left cur:List (Ad×Nix)) (pre:List Ad),Hid (dK eL adV eS wr b w.heap.size lst left)/\Hid (cP eL adV eS wr d cur)/\Hid ((pre++cJ left).Perm (cJ lst))/\Hid (∀q,q∈cJ cur↔q∈cJ dst\/q∈pre)/\Hid (aA (fun k=>k=d) w wr)) (fun _ wr=>wr.rangeLeft b w.heap.size)
 case atStart=>exact⟨lst,dst,[],HI,HD1,O (by simp),O (fun q=>by simp),O (HK1.out.any)⟩
 case round =>
 obtain⟨left,cur,pre,HI2,HD2,HP,HQ,HKR⟩:=hrel;have HCNT:=O HI2.out.count;have hsr:=HKR.out.size;have hdw:d<w.heap.size:=hdl;have hne:d≠b:=hdb
 go_wp2_with (first
  | ((with_reducible show WL _ (.next _ _));refine AT rfl (.tmp 7) rfl rfl HI2.out ?_ ?_))
 ·intro hl
  go_wp2_with fail
  go_end0
  subst hl;exact⟨rfl,cur,HD2.out,fun q=>by rw[HQ.out q,←HP.out.mem_iff];simp[cJ],HKR.out⟩
 ·intro i x v w2 hxi hxo hi2 hk2 hs2 he2
  have hpe:(cJ left).Perm (x::cJ (left.eraseIdx i)):=by have:=(oI hxi).map (fun p:Ad×Nix=>p.1);exact this
  have HP2:Hid (((pre++[x])++cJ (left.eraseIdx i)).Perm (cJ lst)):=O (by
   refine List.Perm.trans ?_ HP.out;rw[List.append_assoc,List.singleton_append];exact(hpe.append_left pre).symm)
  have hkr:aA (fun k=>k=d) w w2:=HKR.out.trans' hk2 (fun _ _ h=>h) (fun i hi e=>by omega);have HI3:=O hi2;have HE3:=O he2;have HKR2:=O hkr;have HXO:=O hxo;have HD3:=O (HD2.out.keep hk2 (by omega));have HLT:=O (List.getElem?_eq_some_iff.1 hxi).1;have hs2':wr.heap.size≤w2.heap.size:=hk2.size;have hu:∀x:Nix,eS x=.agg #[]:=fun _=>rfl
  have HU:=O hu;clear hxi hxo hi2 hk2 hs2 he2 hpe hkr hu;unfold adV;rw[HU.out]
  go_wp2_with (first
   | ((with_reducible show WL _ (.entry _));refine Aa rfl (.tmp 7) rfl rfl HE3.out ?_;show wpList _ _ _ _ (Act.put _ _ (Value.tuple #[.agg (aP x).toArray,.agg #[]])) _)
   | ((with_reducible show WL (some 4) (.alloc 56));refine aU rfl 56 rfl eC eA #[.int .i64 0,.int .i64 0] rfl ?_)
   | ((with_reducible show WL (some 5) (.alloc 120));refine aU rfl 120 rfl (.agg #[]) MY #[] rfl ?_)
   | ((with_reducible show WL none (.store 56 (.tmp 4) (.tmp 11)));refine aQ rfl 56 (.tmp 4) (.tmp 11) rfl w2.heap.size 0 (aP x) rfl rfl #[.int .i64 0,.int .i64 0] 56 (heap_alloc2_old _ _ _) (Nat.le_refl _) bY (bM _) ?_
      intro w3 hb3 hk3;rw[aJ _ _ (by rfl)] at hb3;have hk4:aA aB w2 w3:=(((aA.refl aB w2).alloc _).alloc _).trans' hk3 (fun _ _ h=>h) (fun i hi e=>by omega);have hn3:=hk3.blk (heap_alloc2_new w2 (.cells #[.int .i64 0,.int .i64 0] 56) (.cells #[] 120)) (by omega);have HB3:=O hb3;have HN3:=O hn3;have HK4:=O hk4;have hs4:=hk4.size;clear hb3 hk3 hk4 hn3)
   | ((with_reducible show WL _ (.load 56 (.tmp 4)));refine wpList_load_mid rfl 56 (.tmp 4) rfl w2.heap.size 0 rfl (aP x) _ (aD HB3.out) bU rfl bY ?_)
   | ((with_reducible show WL none (.mapUpdate 117 (.tmp 13) (.tmp 14) (.tmp 15)));refine mC rfl rfl (.tmp 13) (.tmp 14) (.tmp 15) 117 rfl LL Tryz.underlying117 x HXO.out Nix.nix rfl rfl rfl (HD3.out.keep HK4.out id) ?_
      intro w4 hm4 hk4;have HD5:=O hm4;have HI5:=O ((HI3.out.keep HK4.out id id).keep hk4 (fun e=>hne e.symm) (by omega));have HKR5:=O ((HKR2.out.trans' HK4.out (U:=fun k=>k=d) (fun _ _ h=>h) (fun _ _ h=>h.elim)).trans' hk4 (U:=fun k=>k=d) (fun _ _ h=>h) (fun _ _ h=>h));clear hm4 hk4))
  have HQ3:Hid (∀q,q∈cJ (dW cur x Nix.nix)↔q∈cJ dst\/q∈pre++[x]):=O (fun q=>by
   rw[qI,HQ.out q,List.mem_append,List.mem_singleton,or_assoc])
  go_roundw
  case rel=>exact⟨_,_,_,HI5,HD5,HP2,HQ3,HKR5⟩
  case measure=>rw[HI5.out.count,HCNT.out,List.length_eraseIdx_of_lt HLT.out];have:=HLT.out;omega
theorem Jr(w:World)(v vb:Value)(xs ys:List Ad)(ho:jZ xs)(hoy:jZ ys)(hr:Rd w 2 v xs.length (aS xs))(hrb:Rd w 2 vb ys.length (aS ys))(hl:xs.length+ys.length≤65536):Calls Tryz.prog 119 #[v,vb] w (pO w (jC (xs++ys))):=by
 have HO:=O (fun w v (h:Rd w 2 v xs.length (aS xs))=>CA w v xs ho h);obtain⟨U,hU⟩:∃U,jC (xs++ys)=U:=⟨_,rfl⟩
 have HUE:=O hU;rw[hU];clear hU;have HOB:=O (fun w v (h:Rd w 2 v ys.length (aS ys))=>CA w v ys hoy h);obtain⟨oa,ca,rfl,-,hmm⟩:=hr.form;have hmx_n:xs.length≤maxLen:=by have h:=hr.2;obtain⟨a',cap',h1,h2,h3,-⟩:=h;omega
 unfold maxLen at hmx_n;clear hmm;have HR:=O hr;obtain⟨n,hn_n⟩:∃n,xs.length=n:=⟨_,rfl⟩
 have HN:=O hn_n;rw[hn_n] at HR hmx_n
 try rw[hn_n]
 clear hr hn_n;obtain⟨ob,cb,rfl,-,hmm⟩:=hrb.form;have hmx_m:ys.length≤maxLen:=by have h:=hrb.2;obtain⟨a',cap',h1,h2,h3,-⟩:=h;omega
 unfold maxLen at hmx_m;clear hmm;have HRB:=O hrb;obtain⟨m,hn_m⟩:∃n,ys.length=n:=⟨_,rfl⟩
 have HMN:=O hn_m;rw[hn_m] at HRB hmx_m
 try rw[hn_m]
 clear hrb hn_m;have hbnd:xs.length+ys.length≤65536:=by exact hl
 go_in;go_wp2_with fail;refine(HO.out w _ (by rw[HN.out];exact HR.out)).mono ?_;rintro e w1 ⟨b1,rfl,hm1,hb1,hk1⟩;have hl1:=hm1.lt;have HM1:=O hm1;have HK1:=O hk1;have HRB1:=O (HRB.out.keep hk1 fun _ _=>id);clear hm1 hk1;go_wp2_with fail;refine(HOB.out w1 _ (by rw[HMN.out];exact HRB1.out)).mono ?_;rintro e w2 ⟨b2,rfl,hm2,hb2,hk2⟩;have hl2:=hm2.lt;have hs2:=hk2.size;have HM2:=O hm2;have HM1:=O (HM1.out.keep hk2 id);have HK2:=O (HK1.out.trans hk2);clear hm2 hk2;go_wp2_with fail;refine(Lp w2 b1 b2 (fG xs) (fG ys) HM1.out HM2.out (by omega) (by omega)).mono ?_;rintro e w4 ⟨rfl,s,hm4,hq4,hk4⟩;have HM4:=O hm4;have HQ:Hid (∀q,q∈cJ s↔q∈xs++ys):=O (fun q=>by rw[hq4 q,(oR xs).2 q,(oR ys).2 q,List.mem_append]);have HKW:=O (HK2.out.trans' hk4 (U:=aB) (fun _ _ h=>h) (fun i hi e=>by omega));clear hm4 hq4 hk4;go_wp2_with fail;have hnd:=EP HM4.out;have hcs:=(yU hnd HQ.out).trans HUE.out
 have hlen:s.length≤65536:=by
  have h1:(gV (cJ s)).length=s.length:=by rw[uE];exact List.length_map _
  rw[←h1,yU hnd HQ.out];exact Nat.le_trans (Ba _) (by simp only[List.length_append];omega)
 have L:=CB w4 b1 s HM4.out hlen;rw[hcs] at L;have L:=O L;have hsz:=HKW.out.size;clear hnd hcs hlen;go_wp2_with fail;refine L.out.mono ?_;rintro e wf ⟨v,rfl,ho2,hk2⟩;obtain⟨va,vc,rfl,-,-⟩:=(Rd.of_owns ho2).form;have HOF:=O (aV ho2 hsz);have HKF:=O (HKW.out.trans hk2);clear ho2 hk2;go_wp2;go_ret;exact⟨_,rfl,HOF.out,HKF.out⟩
end
end Go.Proofs.YthihofpfonfjfaaGreat
