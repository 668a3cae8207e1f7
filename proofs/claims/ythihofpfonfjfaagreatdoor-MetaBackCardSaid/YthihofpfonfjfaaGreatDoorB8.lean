/- A part of the proof. Conditions: those told. -/
import Derived.Test.YthihofpfonfjfaaGreatDoorB1
import Derived.Test.YthihofpfonfjfaaGreatDoorB7
import Derived.Test.YthihofpfonfjfaaGreatDoorLaySort
namespace Go.Proofs.YthihofpfonfjfaaGreatDoor
set_option maxHeartbeats 64000000
set_option maxRecDepth 100000
set_option linter.unusedVariables false
section
open Go.RowKit Go.Sort Go.Maps
instance:Inhabited Adr:=⟨⟨⟨0,0⟩,by unfold eH BZ;exact⟨⟨by decide,by decide⟩,by decide,by decide⟩⟩⟩
def nS(x:Adr):List Value:=aN x.1
theorem sU(x:Adr):(nS x).length=2:=rfl
theorem Gq(x:Adr):∀v∈nS x,v.oneCell'=true:=bH _
def zN(x y:Adr):Int:=uL x.1 y.1
theorem B6(x y:Adr):ltOf zN x y=eY x.1 y.1:=IY x.1 y.1
theorem vE(a:Ad):eY a a=false:=by rw[jM];omega
theorem EN{a b c:Ad}(h:eY a b=true)(k:eY b c=true):eY a c=true:=by rw[oQ] at *;omega
theorem qZ{a b:Ad}(h:eY a b=false)(k:eY b a=false):a=b:=by
 rw[jM] at *;exact Ad.ext (by omega) (by omega)
theorem MY:SWO (ltOf zN) where
 irrefl x:=by rw[B6];exact vE _
 trans x y z h k:=by rw[B6] at *;exact EN h k
 ntrans x y z h k:=by
  rw[B6] at *;rw[jM] at *;omega
def iD(l:List Ad):List Ad:=l.mergeSort fun x y=>!eY y x
theorem wB(x y z:Ad):(!eY y x)=true->(!eY z y)=true->(!eY z x)=true:=by
 simp only[Bool.not_eq_true',jM];omega
theorem sV(x y:Ad):(!eY y x || !eY x y)=true:=by
 cases h:eY y x
 ·rfl
 ·have:eY x y=false:=by rw[oQ] at h;rw[jM];omega
  rw[this];rfl
theorem EO{a b:List Ad}(h:a.Perm b):iD a=iD b:=by
 refine List.Perm.eq_of_pairwise (le:=fun x y=>(!eY y x)=true) ?_ (List.pairwise_mergeSort wB sV a) (List.pairwise_mergeSort wB sV b) (((List.mergeSort_perm a _).trans h).trans (List.mergeSort_perm b _).symm);intro x y _ _ h k;simp only[Bool.not_eq_true'] at h k;exact qZ k h
theorem AE{a:List Ad}{x:Ad}:x∈iD a↔x∈a:=(List.mergeSort_perm a _).mem_iff
theorem K9(w:World):(isAgg 49).run Tryz.prog w=.ok true w:=by kernel_rfl
theorem I0(w:World):(Go.sizeOf 49).run Tryz.prog w=.ok 2 w:=by kernel_rfl
theorem Gs(blk off size:Nat)(w:World):CmpLays Tryz.prog 182 #[] nS 2 zN blk off size w:=
 fun m os dk hs x y=>by
  have:=Gp x.1 y.1 (sortWorldK nS 2 w blk off m dk os);exact this.mono fun e w' h=>h
theorem Gt(ys:List Adr):(ys.mergeSort fun x y=>!(ltOf zN) y x).map (·.1)=iD (ys.map (·.1)):=
 List.map_mergeSort fun a _ b _=>by rw[B6]
theorem sW(ys:List Adr):ys.flatMap nS=aT (ys.map (·.1)):=by
 unfold aT nS;rw[List.flatMap_map]
theorem EP(w:World)(base:Nat)(v:Value)(ys:List Adr)(ho:w.ownsRow base 49 2 v ys.length (aT (ys.map (·.1))))(hl:ys.length≤65536) :
 Calls Tryz.prog 213 #[v,.func (.func 182) #[] #[]] w fun e w'=>e=.returned (.tuple #[])/\w'.ownsRow base 49 2 v ys.length (aT (iD (ys.map (·.1))))/\aA (fun k=>v.ownBlock=some k) w w':=by
 rcases ho.2 with⟨rfl,h0⟩|⟨g,cap,cur,rfl,hb,hh,h1,h2,h3,h4⟩
 ·have hy:ys=[]:=List.eq_nil_of_length_eq_zero h0
  subst hy;have hc:=AnyF.slices_SortFunc_none sortAddr none 0 (.func (.func 182) #[] #[]) w;change Calls Tryz.prog 213 _ _ _ at hc;refine hc.mono ?_;rintro e w' ⟨rfl,rfl⟩;exact⟨rfl,by simpa [iD] using ho,aA.refl _ _⟩
 ·have eg:∀args w,(callFunc 182 args).run Tryz.prog w=.ok (.enter 182 args) w:=enters_of Tryz.func182 (by kernel_rfl) rfl
  have hH:HoldsK nS 2 w g 0 ys.toArray:=Gl sU (by decide) hh (by rw[h4,sW])
  have hc:=AnyQ.slices_SortFunc_total sortAddr 2 K9 I0 nS sU Gq zN MY 182 #[] g 0 cap ys.toArray w eg (Gs g 0 _ w) hH (Array.getElem?_eq_some_iff.1 hh).1 (by simp;omega)
   (fun x y hx hy=>by rw[B6] at hx hy;exact Subtype.ext (qZ hx hy))
  change Calls Tryz.prog 213 _ _ _ at hc;rw[List.size_toArray] at hc;refine hc.mono ?_;rintro e w' ⟨rfl,n,os,rfl⟩;refine⟨rfl,?_,?_⟩
  ·have:=Dy (m:=n) (os:=os) sU (by decide) ho (dk:=(ys.mergeSort fun x y=>!(ltOf zN) y x).toArray) (by simp)
   rw[List.toList_toArray,sW,Gt] at this;exact this
  ·exact(Dx nS 2 w g n _ os).mono fun k _ h=>by rw[h];rfl
theorem Gu(w:World)(lst:List (Ad×Nix))(B1 b:Nat)(h1:w.heap[B1]?=some (.cells #[.map (some b)] 200 (0,0)))(h2:bW eH adV eO w b lst)(hlen:lst.length≤65536) :
 Calls Tryz.prog 212 #[.func (.func 214) #[] #[.pointer (some ⟨B1,0,none⟩)]] w (zL w (lst.map (·.1))):=by
 have C:=O (DA w lst B1 b h1 h2 hlen);clear h1 h2;go_enter Tryz.func212,Tryz.ntmps212;go_wp2_with fail;refine C.out.mono ?_;rintro e w' ⟨v,ys,rfl,hp,ho,hk⟩;obtain⟨a,c,rfl,-,-⟩:=(Rd.of_owns ho).form;have HP:=O hp;have HO:=O ho;have HK:=O hk;clear hp ho hk;go_wp2_with fail;go_ret;exact⟨_,ys,rfl,HP.out,HO.out,HK.out⟩
def EQ(w:World)(l:List Ad)(e:Ending)(w':World):Prop:=
 ∃v,e=.returned v/\w'.ownsRow w.heap.size 49 2 v l.length (aT (iD l))/\aA aB w w'
theorem I1(w:World)(lst:List (Ad×Nix))(B1 b:Nat)(h1:w.heap[B1]?=some (.cells #[.map (some b)] 200 (0,0)))(h2:bW eH adV eO w b lst)(hlen:lst.length≤65536) :
 Calls Tryz.prog 180 #[.func (.func 214) #[] #[.pointer (some ⟨B1,0,none⟩)],.func (.func 182) #[] #[]] w (EQ w (lst.map (·.1))):=by
 have C:=O (Gu w lst B1 b h1 h2 hlen)
 have hok:∀y∈lst.map (·.1),eH y:=by
  obtain⟨es,clock,-,hm⟩:=h2;intro y hy;obtain⟨p,hp,rfl⟩:=List.mem_map.1 hy;exact hm.2.2.2.2 p hp
 have HOK:=O hok;clear h1 h2 hok;go_enter Tryz.func180,Tryz.ntmps180;go_wp2_with fail;refine C.out.mono ?_;rintro e w1 ⟨v,ys,rfl,hp,ho,hk⟩;obtain⟨a,c,rfl,-,-⟩:=(Rd.of_owns ho).form;obtain⟨zs,rfl⟩:∃zs:List Adr,zs.map (·.1)=ys:=⟨ys.attach.map fun y=>⟨y.1,HOK.out _ (hp.subset y.2)⟩,by simp⟩
 have hzl:(zs.map (·.1)).length=zs.length:=List.length_map _;have hzn:zs.length≤65536:=by have:=hp.length_eq;simp only[List.length_map] at this;omega
 rw[hzl] at ho;have D:=O (EP w1 w.heap.size _ zs ho hzn);have HP:=O hp;have HK:=O hk
 have hob:∀k,w.heap.size≤k\/¬(Value.slice a zs.length c).ownBlock=some k:=fun k=>by
  by_cases e:(Value.slice a zs.length c).ownBlock=some k
  ·exact .inl (bE ho e)
  ·exact .inr e
 have HOB:=O hob;clear hp ho hk hob;rw[hzl];go_wp2_with fail;refine D.out.mono ?_;rintro e w2 ⟨rfl,ho2,hk2⟩;have HO2:=O ho2;have HK2:=O hk2;clear ho2 hk2;go_wp2_with fail;go_ret;refine⟨_,rfl,?_,HK.out.trans' HK2.out (fun _ _ h=>h) fun i hi e=>?_⟩
 ·have e1:=HP.out.length_eq
  rw[←EO HP.out,←e1,hzl];exact HO2.out
 ·rcases HOB.out i with h|h
  ·omega
  ·exact h e
end
section
open Go.RowKit Go.Maps Go.ChangeMaps
def lC(l:List Ad):Prop:=∀x∈l,eH x
theorem pU(l:List Ad):(aT l).length=l.length*2:=oO bA l
theorem ER{l:List Ad}{k:Nat}{x:Ad}(h:l[k]?=some x){j:Nat}(hj:j<2):(aT l)[k*2+j]?=(aN x)[j]?:=by
 unfold aT;rw[wA bA (by decide),show (k*2+j) / 2=k by omega,show (k*2+j) % 2=j by omega,h,Option.bind_some]
theorem mD{w:World}{v:Value}{l:List Ad}(h:Rd w 2 v l.length (aT l)){k:Nat}{x:Ad}(hk:l[k]?=some x) :
 ∃g o cap,v=.slice (some ⟨g,o,none⟩) l.length cap/\w.rangeAt g (o+k*2) (aN x):=by
 obtain⟨h0,a,cap,rfl,h1,h2,h3,h4⟩:=h;have hlt:=(List.getElem?_eq_some_iff.1 hk).1;obtain⟨g,o,rfl,hc⟩:=h4 (by rw[pU];omega);refine⟨g,o,cap,rfl,fun j u hj=>?_⟩;have hj2:j<2:=(List.getElem?_eq_some_iff.1 hj).1;have:=hc (k*2+j) u (by rw[ER hk hj2];exact hj)
 rwa [←Nat.add_assoc] at this
theorem qM(a b:List Ad):aT (a++b)=aT a++aT b:=by simp[aT]
theorem vF(x:Ad):aT [x]=aN x:=by simp[aT]
theorem DB(l:List Ad):∀u∈aT l,u.oneCell'=true:=by
 intro u hu;obtain⟨x,_,hx⟩:=List.mem_flatMap.1 hu;exact bH x u hx
def gD(l:List Ad):List (Ad×Nix):=l.foldl (fun s a=>dJ s a .nix) []
theorem ES(l:List Ad)(x:Ad):gD (l++[x])=dJ (gD l) x .nix:=by simp[gD]
theorem ET(s:List (Ad×Nix))(a:Ad):(dJ s a .nix).length≤s.length+1:=by
 unfold dJ;split<;>simp
theorem Gv(l:List Ad):(gD l).length≤l.length:=by
 suffices h:∀(l:List Ad) (s:List (Ad×Nix)),(l.foldl (fun s a=>dJ s a .nix) s).length≤s.length+l.length by simpa [gD] using h l []
 intro l
 induction l with
 | nil=>intro s;simp
 | cons x l ih=>intro s;have h1:=ih (dJ s x .nix);have h2:=ET s x;simp only[List.foldl_cons,List.length_cons];omega
theorem Mk{w:World}{v:Value}{n:Nat}{l:List Ad}(h:Rd w 2 v n (aT l))(hn:n=l.length){b:Nat}(hb:w.heap.size≤b):¬(0<n/\v.ownBlock=some b):=fun ⟨h0,e⟩=>by
 have:=h.lt (by rw[pU];omega);obtain⟨b',hb',hlt⟩:=this;rw[e] at hb';cases hb';omega
def Ml(w:World)(l:List Ad)(e:Ending)(w':World):Prop:=∃b,e=.returned (.map (some b))/\bW eH adV eO w' b (gD l)/\w.heap.size≤b/\aA aB w w'
theorem Gw(w:World)(v:Value)(l:List Ad)(ho:lC l)(hr:Rd w 2 v l.length (aT l)):Calls Tryz.prog 139 #[v] w (Ml w l):=by
 have hmm:=@run_makeMap Tryz.prog;obtain⟨av,cv,rfl,hlc,hlm⟩:=hr.form;have hlen:l.length≤maxLen:=by omega
 unfold maxLen at hlen;clear hlc hlm;obtain⟨n,hn⟩:∃n,l.length=n:=⟨_,rfl⟩
 have HR:=O hr;have HN:=O hn;clear hr;rw[hn] at HR hlen ⊢;clear hn;go_enter Tryz.func139,Tryz.ntmps139;go_wp2_with fail;obtain⟨w2,hw2⟩:∃w2,w.alloc (.map #[] 0)=w2:=⟨_,rfl⟩
 have hk2:aA aB w w2:=by rw[←hw2];exact(aA.refl _ _).alloc _
 have hs2:w2.heap.size=w.heap.size+1:=by rw[←hw2,World.size_alloc]
 have hm2:bW eH adV eO w2 w.heap.size (gD []):=by rw[←hw2];exact bW.made _
 rw[hw2];have HK2:=O hk2;have HM2:=O hm2;clear hw2 hk2 hm2 hmm
 go_loopw [9] (fun i wr=>∃k:Nat,k≤n/\i=.int .i64 k/\Hid (bW eH adV eO wr w.heap.size (gD (l.take k)))/\Hid (aA (fun j=>j=w.heap.size) w2 wr)) (fun i _=>n-(intOf i).toNat)
 case atStart=>exact⟨0,Nat.zero_le _,rfl,HM2,O (aA.refl _ _)⟩
 case round =>
  obtain⟨k,hk,rfl,HM,HK⟩:=hrel
  by_cases hlt:k<n
  ·obtain⟨x,hx⟩:∃x,l[k]?=some x:=⟨l[k]'(by rw[HN.out];exact hlt),List.getElem?_eq_getElem _⟩
   have hxo:eH x:=ho x (List.mem_of_getElem? hx);have hkw:aA (fun j=>j=w.heap.size) w wr:=HK2.out.trans' HK.out (fun _ _ h=>h.elim) (fun _ _ h=>h);have hrw:=HR.out.keep hkw (fun b hb e=>Mk HR.out HN.out.symm (Nat.le_of_eq e.symm) ⟨by omega,hb⟩);rw[←HN.out] at hrw;obtain⟨g,o,cap,hv,hcells⟩:=mD hrw hx;have hvv:av=some ⟨g,o,none⟩:=by cases hv;rfl
   subst hvv;have HC:=O hcells;have HXO:=O hxo;have HTK:Hid (gD (l.take (k+1))=dJ (gD (l.take k)) x .nix):=O (by rw[List.take_add_one,hx,←ES];rfl);have hxv:adV x=.agg (aN x).toArray:=rfl;obtain⟨xc,hxc⟩:∃xc,aN x=xc:=⟨_,rfl⟩
   have HXC:=O hxc;have HSX:Hid ((Tryz.prog.info? 49).map (·.size)=some xc.length):=O (by rw[←hxc];exact cE);have HXL:Hid (xc.length=2):=O (by rw[←hxc];rfl);have HXE:Hid (∀u∈xc,u.oneCell'=true):=O (by rw[←hxc];exact bH x);have HXV:Hid (adV x=.agg xc.toArray):=O (by rw[←hxc];rfl);rw[hxc] at HC;have hwr:=HK.out.size;clear hx hxo hkw hrw hv hcells hxv hxc
   go_wp2_with (first
    | ((with_reducible show WL (some 12) (.load 49 (.tmp 11)));refine wpList_load_mid rfl 49 (.tmp 11) rfl g (o+k*2) rfl xc _ HC.out bX rfl HSX.out ?_)
    | ((with_reducible show WL (some 5) (.alloc 49));refine aS rfl 49 rfl eE eA #[.int .i64 0,.int .i64 0] rfl ?_)
    | ((with_reducible show WL none (.store 49 (.tmp 5) (.tmp 12)));refine aM rfl 49 (.tmp 5) (.tmp 12) rfl wr.heap.size 0 xc rfl rfl #[.int .i64 0,.int .i64 0] 49 (heap_alloc_new _ _) (by rw[HXL.out];exact Nat.le_refl _) HSX.out HXE.out ?_
       intro w3 hb3 hk3;rw[aG _ _ (by rw[HXL.out];rfl)] at hb3;have hkr:aA aB wr w3:=((aA.refl aB wr).alloc _).trans' hk3 (fun _ _ h=>h) (fun i hi e=>by omega);have HB3:=O hb3;have HKR:=O hkr;have HM3:=O (HM.out.keep hkr id);clear hb3 hk3 hkr)
    | ((with_reducible show WL (some 14) (.load 49 (.tmp 5)));refine wpList_load_mid rfl 49 (.tmp 5) rfl wr.heap.size 0 rfl xc _ (aD HB3.out) bX rfl HSX.out ?_)
    | ((with_reducible show WL none (.mapUpdate 200 (.tmp 13) (.tmp 14) (.tmp 15)));refine lK rfl rfl (.tmp 13) (.tmp 14) (.tmp 15) 200 rfl KQ Tryz.underlying200 x HXO.out Nix.nix rfl HXV.out.symm rfl HM3.out ?_
       intro w4 hm4 hk4;have HM4:=O hm4;have HK4:=O hk4;clear hm4 hk4))
   have HME:=O (show bW eH adV eO w4 w.heap.size (gD (l.take (k+1))) by rw[HTK.out];exact HM4.out);have HKE:=O ((HK.out.trans' HKR.out (fun _ _ h=>h) (fun _ _ h=>h.elim)).trans' HK4.out (U:=fun j=>j=w.heap.size) (fun _ _ h=>h) (fun _ _ h=>h));clear HM4 HK4 HM3 HKR HK HM HB3 HC
   go_roundw
   case rel=>exact⟨k+1,by omega,by go_num,HME,HKE⟩
   case measure=>simp[intOf];omega
  ·obtain rfl:k=n:=by omega
   have HMN:Hid (bW eH adV eO wr w.heap.size (gD l)):=O (by have:=HM.out;rwa [List.take_of_length_le (by rw[HN.out];exact Nat.le_refl _)] at this);go_wp2_with fail;go_ret;exact⟨_,rfl,HMN.out,Nat.le_refl _,HK2.out.trans' HK.out (fun _ _ h=>h) (fun i hi e=>by omega)⟩
def cF(s:List (Ad×Nix)):List Ad:=s.map (·.1)
def B7(w:World)(l:List Ad)(e:Ending)(w':World):Prop:=∃v,e=.returned v/\w'.ownsRow w.heap.size 49 2 v l.length (aT l)/\aA aB w w'
theorem sX(l:List Ad):(iD l).length=l.length:=List.length_mergeSort _
theorem I2(w:World)(b:Nat)(s:List (Ad×Nix))(h:bW eH adV eO w b s)(hl:s.length≤65536):Calls Tryz.prog 141 #[.map (some b)] w (B7 w (iD (cF s))):=by
 obtain⟨w1,hw1⟩:∃w1,w.alloc (.cells #[.map (some b)] 200)=w1:=⟨_,rfl⟩
 have hk1:aA aB w w1:=by rw[←hw1];exact(aA.refl _ _).alloc _
 have hb1:w1.heap[w.heap.size]?=some (.cells #[.map (some b)] 200 (0,0)):=by rw[←hw1];exact heap_alloc_new _ _
 have C:=O (I1 w1 s w.heap.size b hb1 (h.keep hk1 id) hl);have HK1:=O hk1;have HW1:=O hw1;have hs1:=hk1.size;have K:=O (Dz (some b) w);clear h hk1 hb1 hw1;go_enter Tryz.func141,Tryz.ntmps141;go_wp2_with fail;refine K.out.mono ?_;rintro e w2 ⟨rfl,rfl⟩;rw[HW1.out];go_wp2_with fail;refine C.out.mono ?_;rintro e w3 ⟨v,rfl,ho,hk⟩;rw[List.length_map] at ho;obtain⟨a,c,rfl,-,-⟩:=(Rd.of_owns ho).form;have HO:=O ho;have HK:=O (HK1.out.trans hk);clear ho hk;go_wp2_with fail;go_ret;refine⟨_,rfl,?_,HK.out⟩;rw[sX,show (cF s).length=s.length from List.length_map _];exact aP HO.out hs1
end
section
open Go.RowKit
theorem wC{P:Program}{ops:Array Oper}{S:World->Prop}{op:Oper}{a:Act}(hw:Region.wanted op (yielded ops a.tmps)=true)(t:TypeId)(x y:Operand)(rt:TypeId)(ho:op.op=.binOp .neq t x y rt)
 (xs ys:Array Value) (hx:a.eval x=.agg xs) (hy:a.eval y=.agg ys) (hg:P.eqGuardType P.depth t=false){b:Bool}(h:∀w,(binOp .neq t (.agg xs) (.agg ys)).run P w=.ok (.bool b) w):YieldsIf P ops S op (.bool b) a:=
 .inl ⟨hw,fun w _=>by
  unfold execOp;simp only[ho,hx,hy,Sem.run_bind,Sem.run_pure,Result.andThen_ok,run_eqGuard_agg w .neq t x y xs ys hg,h w]⟩
def eT(a:Ad)(devs sectors:Int):Bool:=decide (2≤devs) && decide (devs≤8) && decide (8≤sectors) && decide (sectors≤4096) && decide (0≤a.dev) && decide (a.dev<devs) && decide (5≤a.sec) && decide (a.sec<sectors)
theorem Ed(a:Ad)(devs sectors:Int)(w:World):Calls Tryz.prog 178 #[adV a,.int .i64 devs,.int .i64 sectors] w fun e w'=>e=.returned (.bool (eT a devs sectors))/\aA aB w w':=by
 obtain⟨w1,hw1,hk1,hb1,hs1⟩:=aU w (aN a).toArray 49;obtain⟨dv,sc⟩:=a;have c0:w1.cell? ⟨w.heap.size,0,none⟩=some (.int .i64 dv):=aC hb1 rfl;have c1:w1.cell? ⟨w.heap.size,1,none⟩=some (.int .i64 sc):=aC hb1 rfl;have HK:=O hk1;obtain⟨r,hr⟩:∃r,eT ⟨dv,sc⟩ devs sectors=r:=⟨_,rfl⟩
 have HR:=O hr;rw[hr];clear hk1 hb1 hs1 hr;unfold adV;unfold aN at hw1 ⊢
 by_cases h0:2≤devs
 rotate_left
 ·have e:r=false:=by rw[←HR.out];simp[eT];omega
  subst e;go_enter Tryz.func178,Tryz.ntmps178;go_wp2_with fail;go_ret;exact⟨rfl,HK.out⟩
 by_cases h1:devs≤8
 rotate_left
 ·have e:r=false:=by rw[←HR.out];simp[eT];omega
  subst e;go_enter Tryz.func178,Tryz.ntmps178;go_wp2_with fail;go_ret;exact⟨rfl,HK.out⟩
 by_cases h2:8≤sectors
 rotate_left
 ·have e:r=false:=by rw[←HR.out];simp[eT];omega
  subst e;go_enter Tryz.func178,Tryz.ntmps178;go_wp2_with fail;go_ret;exact⟨rfl,HK.out⟩
 by_cases h3:sectors≤4096
 rotate_left
 ·have e:r=false:=by rw[←HR.out];simp[eT];omega
  subst e;go_enter Tryz.func178,Tryz.ntmps178;go_wp2_with fail;go_ret;exact⟨rfl,HK.out⟩
 by_cases h4:0≤dv
 rotate_left
 ·have e:r=false:=by rw[←HR.out];simp[eT];omega
  subst e;go_enter Tryz.func178,Tryz.ntmps178;go_wp2_with fail;go_ret;exact⟨rfl,HK.out⟩
 by_cases h5:dv<devs
 rotate_left
 ·have e:r=false:=by rw[←HR.out];simp[eT];omega
  subst e;go_enter Tryz.func178,Tryz.ntmps178;go_wp2_with fail;go_ret;exact⟨rfl,HK.out⟩
 by_cases h6:5≤sc
 rotate_left
 ·have e:r=false:=by rw[←HR.out];simp[eT];omega
  subst e;go_enter Tryz.func178,Tryz.ntmps178;go_wp2_with fail;go_ret;exact⟨rfl,HK.out⟩
 by_cases h7:sc<sectors
 rotate_left
 ·have e:r=false:=by rw[←HR.out];simp[eT];omega
  subst e;go_enter Tryz.func178,Tryz.ntmps178;go_wp2_with fail;go_ret;exact⟨rfl,HK.out⟩
 have e:r=true:=by rw[←HR.out];simp[eT];omega
 subst e;go_enter Tryz.func178,Tryz.ntmps178;go_wp2_with fail;go_ret;exact⟨rfl,HK.out⟩
theorem La(a b:Int)(w:World):(Instr.build 49 #[(0,.int .i64 a),(1,.int .i64 b)]).run Tryz.prog w=.ok (.agg #[.int .i64 a,.int .i64 b]) w:=by kernel_rfl
end
section
open Go.RowKit Go.Maps Go.ChangeMaps
def uQ(l:List Ad):Prop:=l.Pairwise fun x y=>eY x y=true
theorem Ff{x y:Ad}(h:eY x y=true):eY y x=false:=by rw[oQ] at h;rw[jM];omega
theorem Es{x y:Ad}(h:eY x y=true):x≠y:=by
 intro e;subst e;rw[vE] at h;cases h
theorem AN:∀{l m:List Ad},uQ l->uQ m->(∀x,x∈l↔x∈m)->l=m
 | [],[],_,_,_=>rfl
 | [],y::m,_,_,h=>absurd ((h y).2 (by simp)) (by simp)
 | x::l,[],_,_,h=>absurd ((h x).1 (by simp)) (by simp)
 | x::l,y::m,hl,hm,h=>by
   unfold uQ at hl hm;rw[List.pairwise_cons] at hl hm
   have hxy:x=y:=by
    have h1:x=y\/x∈m:=by simpa using (h x).1 (by simp)
    have h2:y=x\/y∈l:=by simpa using (h y).2 (by simp)
    rcases h1 with h1|h1
    ·exact h1
    ·rcases h2 with h2|h2
     ·exact h2.symm
     ·have a:=hm.1 x h1
      rw[Ff (hl.1 y h2)] at a;cases a
   subst hxy
   have:l=m:=AN hl.2 hm.2 fun z=>by
    constructor
    ·intro hz
     have:z=x\/z∈m:=by simpa using (h z).1 (by simp[hz])
     exact this.resolve_left fun e=>Es (hl.1 z hz) e.symm
    ·intro hz
     have:z=x\/z∈l:=by simpa using (h z).2 (by simp[hz])
     exact this.resolve_left fun e=>Es (hm.1 z hz) e.symm
   rw[this]
theorem pN(l:List (Ad×Nix))(a x:Ad)(v:Nix):x∈cF (dJ l a v)↔x∈cF l\/x=a:=by
 unfold dJ cF;split
 ·rename_i h
  have hk:(l.map fun p=>if p.1=a then (a,v) else p).map (·.1)=l.map (·.1):=by
   rw[List.map_map];apply List.map_congr_left;intro p _;simp only[Function.comp];split
   ·rename_i e;exact e.symm
   ·rfl
  rw[hk];constructor
  ·exact fun h=>.inl h
  ·rintro (h'|rfl)
   ·exact h'
   ·obtain⟨p,hp,he⟩:=List.any_eq_true.1 h
    exact List.mem_map.2 ⟨p,hp,of_decide_eq_true he⟩
 ·simp
theorem Cy{l:List (Ad×Nix)}(h:(cF l).Nodup)(a:Ad)(v:Nix):(cF (dJ l a v)).Nodup:=by
 unfold dJ cF at *;split
 ·have hk:(l.map fun p=>if p.1=a then (a,v) else p).map (·.1)=l.map (·.1):=by
   rw[List.map_map];apply List.map_congr_left;intro p _;simp only[Function.comp];split
   ·rename_i e;exact e.symm
   ·rfl
  rw[hk];exact h
 ·rename_i hn
  rw[List.map_append,List.nodup_append];refine⟨h,by simp,?_⟩;intro x hx y hy e;simp only[List.map_cons,List.map_nil,List.mem_singleton] at hy;subst hy;subst e;obtain⟨p,hp,he⟩:=List.mem_map.1 hx;exact hn (List.any_eq_true.2 ⟨p,hp,decide_eq_true he⟩)
theorem nX(l:List Ad):(cF (gD l)).Nodup/\∀x,x∈cF (gD l)↔x∈l:=by
 suffices h:∀(l:List Ad) (s:List (Ad×Nix)),(cF s).Nodup->(cF (l.foldl (fun s a=>dJ s a .nix) s)).Nodup/\∀x,x∈cF (l.foldl (fun s a=>dJ s a .nix) s)↔x∈cF s\/x∈l by
  have:=h l [] (by simp[cF]);exact⟨this.1,fun x=>by rw[show gD l=l.foldl (fun s a=>dJ s a .nix) [] from rfl,this.2 x];simp[cF]⟩
 intro l
 induction l with
 | nil=>intro s hs;exact⟨hs,fun x=>by simp⟩
 | cons a l ih =>
   intro s hs;have:=ih (dJ s a .nix) (Cy hs a .nix);refine⟨this.1,fun x=>?_⟩;rw[List.foldl_cons,this.2 x,pN,List.mem_cons];constructor
   ·rintro ((h|h)|h)<;>simp[h]
   ·rintro (h|h|h)<;>simp[h]
theorem vI{l:List Ad}(h:l.Nodup):uQ (iD l):=by
 have h1:(iD l).Pairwise fun x y=>(!eY y x)=true:=List.pairwise_mergeSort wB sV l
 have h2:(iD l).Nodup:=(List.mergeSort_perm l _).nodup_iff.2 h;refine(List.Pairwise.and h1 h2).imp fun {x y} ⟨p,q⟩=>?_
 simp only[Bool.not_eq_true'] at p;cases e:eY x y
 ·exact absurd (qZ e p) q
 ·rfl
def mF(l:List Ad):List Ad:=iD (cF (gD l))
theorem DH(l:List Ad):uQ (mF l):=vI (nX l).1
theorem AO{l:List Ad}{x:Ad}:x∈mF l↔x∈l:=by unfold mF;rw[AE];exact(nX l).2 x
theorem Jz{l m:List Ad}(h:uQ l)(hm:∀x,x∈l↔x∈m):l=mF m:=AN h (DH m) fun x=>by rw[AO];exact hm x
theorem G0(l:List Ad):(mF l).length≤l.length:=by
 unfold mF;rw[sX];unfold cF;rw[List.length_map];exact Gv l
theorem yD{s:List (Ad×Nix)}(h:(cF s).Nodup){l:List Ad}(hm:∀x,x∈cF s↔x∈l):iD (cF s)=mF l:=Jz (vI h) fun x=>by rw[AE];exact hm x
end
section
def dM(L:List Ad)(d s:Nat):Bool:=decide ((⟨(d:Int),(s:Int)⟩:Ad)∈L)
def fY(L:List Ad)(d s:Nat):Bool:=decide (5≤s) && !dM L d s
def aV(L:List Ad)(d k:Nat):List Int:=((List.range k).filter (fY L d)).map fun(s:Nat)=>(s:Int)
theorem qA(L:List Ad)(d k:Nat):aV L d (k+1)=aV L d k++if fY L d k then [(k:Int)] else []:=by
 unfold aV;rw[List.range_succ,List.filter_append,List.map_append]
 congr 1
 cases h:fY L d k<;>simp[h]
theorem DI(L:List Ad)(d:Nat):aV L d 5=[]:=by
 unfold aV
 have:(List.range 5).filter (fY L d)=[]:=by
  rw[List.filter_eq_nil_iff];intro s hs;have:=List.mem_range.1 hs;unfold fY;rw[decide_eq_false (by omega:¬5≤s)];simp
 rw[this];rfl
theorem rJ{L:List Ad}{d k:Nat}{x:Int}:x∈aV L d k↔∃s:Nat,x=(s:Int)/\s<k/\5≤s/\dM L d s=false:=by
 unfold aV;rw[List.mem_map];constructor
 ·rintro⟨s,hs,rfl⟩
  obtain⟨h1,h2⟩:=List.mem_filter.1 hs;unfold fY at h2;rw[Bool.and_eq_true] at h2;exact⟨s,rfl,List.mem_range.1 h1,of_decide_eq_true h2.1,by simpa using h2.2⟩
 ·rintro⟨s,rfl,h1,h2,h3⟩
  refine⟨s,List.mem_filter.2 ⟨List.mem_range.2 h1,?_⟩,rfl⟩;unfold fY;rw[decide_eq_true h2,h3];rfl
theorem Cz(L:List Ad)(d k:Nat):(aV L d k).Pairwise (·<·):=by
 unfold aV;rw[List.pairwise_map];refine(List.Pairwise.filter _ List.pairwise_lt_range).imp ?_;intro a b h;exact Int.ofNat_lt.2 h
theorem rK(L:List Ad)(d k:Nat):(aV L d k).length≤k-5:=by
 induction k with
 | zero=>simp[aV]
 | succ k ih =>
   rw[qA,List.length_append];cases h:fY L d k
   ·simp only[Bool.false_eq_true,if_false,List.length_nil];omega
   ·unfold fY at h
    rw[Bool.and_eq_true] at h;have:=of_decide_eq_true h.1;simp only[if_true,List.length_singleton];omega
theorem lE{L M:List Ad}{d k:Nat}(h:∀s,s<k->5≤s->dM L d s=dM M d s):aV L d k=aV M d k:=by
 unfold aV;rw[List.filter_congr];intro s hs;unfold fY
 by_cases h5:5≤s
 ·rw[h s (List.mem_range.1 hs) h5]
 ·rw[decide_eq_false h5];rfl
theorem vJ{L M:List Ad}(h:∀x,x∈L↔x∈M)(d s:Nat):dM L d s=dM M d s:=by
 unfold dM;rw[decide_eq_decide];exact h _
theorem nY(L:List Ad)(e t d s:Nat):dM (L++[⟨(e:Int),(t:Int)⟩]) d s=(dM L d s || (decide (d=e) && decide (s=t))):=by
 unfold dM;rw[Bool.eq_iff_iff];simp only[List.mem_append,List.mem_singleton,decide_eq_true_eq,Bool.or_eq_true,Bool.and_eq_true,Ad.mk.injEq];constructor
 ·rintro (h|⟨h1,h2⟩)
  ·exact .inl h
  ·exact .inr ⟨by omega,by omega⟩
 ·rintro (h|⟨h1,h2⟩)
  ·exact .inl h
  ·exact .inr ⟨by omega,by omega⟩
theorem mG{L:List Ad}{d S:Nat}{x:Int}{r:List Int}(h:aV L d S=x::r):∃t:Nat,x=(t:Int)/\t<S/\5≤t/\dM L d t=false/\(∀s,5≤s->s<t->dM L d s=true)/\aV (L++[⟨(d:Int),x⟩]) d S=r:=by
 have hm:x∈aV L d S:=by rw[h];exact List.mem_cons_self ..
 obtain⟨t,rfl,h1,h2,h3⟩:=rJ.1 hm;have hr:=Cz L d S;rw[h,List.pairwise_cons] at hr;refine⟨t,rfl,h1,h2,h3,fun s hs1 hs2=>?_,?_⟩
 ·cases hu:dM L d s with
  | true=>rfl
  | false =>
    have:(s:Int)∈aV L d S:=rJ.2 ⟨s,rfl,by omega,hs1,hu⟩;rw[h] at this;rcases List.mem_cons.1 this with e|e
    ·omega
    ·have:=hr.1 _ e
     omega
 ·have e:aV (L++[⟨(d:Int),(t:Int)⟩]) d S=(aV L d S).filter fun y=>!decide (y=(t:Int)):=by
   unfold aV;rw[List.filter_map,List.filter_filter]
   congr 1
   refine List.filter_congr fun s hs=>?_
   unfold fY;rw[nY];simp only[Function.comp,decide_true,Bool.true_and]
   by_cases e:s=t
   ·subst e;simp
   ·have:¬(s:Int)=(t:Int):=by omega
    simp[e,this]
  rw[e,h,List.filter_cons];rw[if_neg (by simp)];refine List.filter_eq_self.2 fun y hy=>?_
  have:=hr.1 y hy;have hne:¬y=(t:Int):=by omega
  simp[hne]
theorem CA{L:List Ad}{d e t S:Nat}(h:d≠e):aV (L++[⟨(e:Int),(t:Int)⟩]) d S=aV L d S:=lE fun s _ _=>by
 rw[nY,decide_eq_false h];simp
def dW(x:Ad)(D S:Nat):Prop:=0≤x.1/\x.1<(D:Int)/\5≤x.2/\x.2<(S:Int)
def bU(L:List Ad)(D S:Nat):List Int:=(List.range D).map fun d=>((aV L d S).length:Int)
theorem jF(L:List Ad)(D S:Nat):(bU L D S).length=D:=by simp[bU]
theorem pO(L:List Ad){D S d:Nat}(h:d<D):(bU L D S).getD d 0=((aV L d S).length:Int):=by
 unfold bU;rw[List.getD_eq_getElem?_getD,List.getElem?_map,List.getElem?_range h];rfl
end
section
open Go.RowKit Go.Maps Go.ChangeMaps
def wv(x:BitVec 64):Value:=.int .u64 (x.toNat:Int)
theorem mH(x:BitVec 64):BitVec.ofInt 64 (x.toNat:Int)=x:=by simp
theorem wK(n:Nat)(h:n<18446744073709551616):IntKind.u64.wrap (n:Int)=(n:Int):=by
 show ((n:Int) % 18446744073709551616)=n;omega
theorem G1(x:BitVec 64):x.toNat<18446744073709551616:=x.isLt
theorem CB(x y:BitVec 64):bits .and .u64 (x.toNat:Int) (y.toNat:Int)=((x &&& y).toNat:Int):=by
 show IntKind.u64.wrap ((BitVec.ofInt 64 (x.toNat:Int) &&& BitVec.ofInt 64 (y.toNat:Int)).toNat:Int)=_;rw[mH,mH,wK _ (G1 _)]
theorem LA(i:Nat)(h:i<64):IntKind.u64.wrap ((2:Int) ^ i)=((BitVec.twoPow 64 i).toNat:Int):=by
 rw[BitVec.toNat_twoPow,Nat.mod_eq_of_lt (Nat.pow_lt_pow_right (by decide) h)];have:((2:Int) ^ i)=((2 ^ i:Nat):Int):=by simp
 rw[this,wK _ (Nat.pow_lt_pow_right (by decide) h)]
theorem Et(x:BitVec 64)(i:Nat):(x.toNat:Int) / 2 ^ i=((x >>> i).toNat:Int):=by
 rw[BitVec.toNat_ushiftRight,Nat.shiftRight_eq_div_pow];simp
theorem Eu(x:BitVec 64)(i:Nat):decide (((x >>> i &&& 1#64).toNat:Int)=1)=x.getLsbD i:=by
 have h:x >>> i &&& 1#64=if x.getLsbD i then 1#64 else 0#64:=by
  apply BitVec.eq_of_getLsbD_eq;intro j hj;rw[BitVec.getLsbD_and,BitVec.getLsbD_ushiftRight]
  by_cases h0:j=0
  ·subst h0
   cases x.getLsbD i<;>simp
  ·have:(1#64).getLsbD j=false:=by simp[BitVec.getLsbD_one,h0]
   rw[this];cases x.getLsbD i<;>simp[BitVec.getLsbD_one,h0]
 rw[h];cases x.getLsbD i<;>rfl
theorem JA(x y:BitVec 64):bits .xor .u64 (x.toNat:Int) (y.toNat:Int)=((x ^^^ y).toNat:Int):=by
 show IntKind.u64.wrap ((BitVec.ofInt 64 (x.toNat:Int) ^^^ BitVec.ofInt 64 (y.toNat:Int)).toNat:Int)=_;rw[mH,mH,wK _ (G1 _)]
theorem JB(x:BitVec 64)(i j:Nat)(hi:i<64):(x ^^^ BitVec.twoPow 64 i).getLsbD j=(x.getLsbD j != decide (i=j)):=by
 rw[BitVec.getLsbD_xor,BitVec.getLsbD_twoPow];simp[hi]
structure bF(w:World)(b:Nat)(c:Nat->Option Nat)(D:Nat)(L:List Ad):Prop where
 row:∃cs:Array Value,w.heap[b]?=some (.cells cs 150 (0,0))/\cs.size=D*65 /\
  (∀d,d<D->∀k,k<64->∃x:BitVec 64,cs[d*65+k]?=some (wv x)/\∀j,j<64->x.getLsbD j=dM L d (64*k+j)) /\
  ∀d,d<D->cs[d*65+64]?=some (.chan (c d))
theorem bF.keep{S:Nat->Prop}{w w':World}{b D:Nat}{c:Nat->Option Nat}{L:List Ad}(h:bF w b c D L)(k:aA S w w')(hS:¬S b):bF w' b c D L:=by
 obtain⟨cs,h1,h2⟩:=h.row;exact⟨cs,k.blk h1 hS,h2⟩
theorem bF.congr{w:World}{b D:Nat}{c:Nat->Option Nat}{L M:List Ad}(h:bF w b c D L)(he:∀x,x∈L↔x∈M):bF w b c D M:=by
 obtain⟨cs,h1,h2,h3,h4⟩:=h.row;refine⟨cs,h1,h2,fun d hd k hk=>?_,h4⟩;obtain⟨x,h5,h6⟩:=h3 d hd k hk;exact⟨x,h5,fun j hj=>by rw[h6 j hj,vJ he]⟩
theorem bF.lt{w:World}{b D:Nat}{c:Nat->Option Nat}{L:List Ad}(h:bF w b c D L):b<w.heap.size:=by
 obtain⟨cs,h1,-⟩:=h.row;exact(Array.getElem?_eq_some_iff.1 h1).1
theorem bF.word{w:World}{b D:Nat}{c:Nat->Option Nat}{L:List Ad}(h:bF w b c D L){d s:Nat}(hd:d<D)(hs:s<4096):∃x:BitVec 64,w.cell? ⟨b,d*65+s / 64,none⟩=some (wv x)/\x.getLsbD (s % 64)=dM L d s:=by
 obtain⟨cs,h1,h2,h3,h4⟩:=h.row;obtain⟨x,h5,h6⟩:=h3 d hd (s / 64) (by omega);refine⟨x,aC h1 h5,?_⟩;rw[h6 _ (Nat.mod_lt _ (by decide)),Nat.div_add_mod]
theorem bF.chan{w:World}{b D:Nat}{c:Nat->Option Nat}{L:List Ad}(h:bF w b c D L){d:Nat}(hd:d<D):w.cell? ⟨b,d*65+64,none⟩=some (.chan (c d)):=by
 obtain⟨cs,h1,h2,h3,h4⟩:=h.row;exact aC h1 (h4 d hd)
theorem bF.free{w:World}{b D:Nat}{c:Nat->Option Nat}{L:List Ad}(h:bF w b c D L)(i:Nat):w.frozen? ⟨b,i,none⟩=false:=by
 obtain⟨cs,h1,-⟩:=h.row;exact cK h1 i
theorem Nl{d e k l:Nat}(hk:k<65)(hl:l<65)(h:d*65+k=e*65+l):d=e/\k=l:=by omega
theorem bF.flip{w:World}{b D:Nat}{c:Nat->Option Nat}{L M:List Ad}(h:bF w b c D L){d s:Nat}(hd:d<D)(hs:s<4096){x:BitVec 64}(hx:w.cell? ⟨b,d*65+s / 64,none⟩=some (wv x))
 (hM:∀e t,e<D->t<4096->dM M e t=(dM L e t != (decide (e=d) && decide (t=s)))) :
 bF (w.setCell ⟨b,d*65+s / 64,none⟩ (wv (x ^^^ BitVec.twoPow 64 (s % 64)))) b c D M/\aA (fun k=>k=b) w (w.setCell ⟨b,d*65+s / 64,none⟩ (wv (x ^^^ BitVec.twoPow 64 (s % 64)))):=by
 obtain⟨cs,h1,h2,h3,h4⟩:=h.row;have hb:=dC h1 (d*65+s / 64) (wv (x ^^^ BitVec.twoPow 64 (s % 64)))
 have hsz:d*65+s / 64<cs.size:=by
  rw[h2];have:d*65+65≤D*65:=by omega
  omega
 have hxc:cs[d*65+s / 64]?=some (wv x):=by
  obtain⟨y,h5,-⟩:=h3 d hd (s / 64) (by omega);have:=aC h1 h5;rw[hx] at this;rw[h5,←this]
 refine⟨⟨_,hb,by rw[Array.size_setIfInBounds];exact h2,fun e he k hk=>?_,fun e he=>?_⟩,(aA.refl (fun k=>k=b) w).setCell (p:=⟨b,_,none⟩) (fun _=>rfl) _⟩
 ·obtain⟨y,h5,h6⟩:=h3 e he k hk
  by_cases hek:d*65+s / 64=e*65+k
  ·obtain⟨rfl,rfl⟩:=Nl (by omega) (by omega) hek
   refine⟨_,by rw[Array.getElem?_setIfInBounds_self_of_lt hsz],fun j hj=>?_⟩;rw[hxc] at h5
   have hxy:x=y:=by
    have e1:wv x=wv y:=Option.some.inj h5;unfold wv at e1;injection e1 with _ e2
    exact BitVec.eq_of_toNat_eq (by omega)
   subst hxy;rw[JB _ _ _ (Nat.mod_lt _ (by decide)),h6 j hj,hM _ _ hd (by omega),decide_eq_true rfl,Bool.true_and]
   congr 1
   rw[decide_eq_decide];omega
  ·refine⟨y,by rw[Array.getElem?_setIfInBounds_ne hek];exact h5,fun j hj=>?_⟩
   rw[h6 j hj,hM _ _ he (by omega)]
   have:(decide (e=d) && decide (64*k+j=s))=false:=by
    rw[Bool.and_eq_false_iff,decide_eq_false_iff_not,decide_eq_false_iff_not]
    by_cases e1:e=d
    ·subst e1
     refine .inr fun e2=>hek ?_
     omega
    ·exact .inl e1
   rw[this];simp
 ·rw[Array.getElem?_setIfInBounds_ne (by omega)]
  exact h4 e he
theorem bF.lay{w:World}{b D:Nat}{c:Nat->Option Nat}{L:List Ad}(h:bF w b c D L){d:Nat}(hd:d<D)(v:Option Nat) :
 bF (w.setCell ⟨b,d*65+64,none⟩ (.chan v)) b (fun e=>if e=d then v else c e) D L/\aA (fun k=>k=b) w (w.setCell ⟨b,d*65+64,none⟩ (.chan v)):=by
 obtain⟨cs,h1,h2,h3,h4⟩:=h.row;have hb:=dC h1 (d*65+64) (.chan v)
 have hsz:d*65+64<cs.size:=by
  rw[h2];have:d*65+65≤D*65:=by omega
  omega
 refine⟨⟨_,hb,by rw[Array.size_setIfInBounds];exact h2,fun e he k hk=>?_,fun e he=>?_⟩,(aA.refl (fun k=>k=b) w).setCell (p:=⟨b,_,none⟩) (fun _=>rfl) _⟩
 ·obtain⟨y,h5,h6⟩:=h3 e he k hk
  exact⟨y,by rw[Array.getElem?_setIfInBounds_ne (by omega)];exact h5,h6⟩
 ·by_cases e1:e=d
  ·subst e1
   rw[Array.getElem?_setIfInBounds_self_of_lt hsz,if_pos rfl]
  ·rw[Array.getElem?_setIfInBounds_ne (by omega),if_neg e1]
   exact h4 e he
theorem JC(w:World)(b D:Nat)(c:Nat->Option Nat)(L:List Ad)(h:bF w b c D L)(d s:Nat)(hd:d<D)(hs:s<4096) :
 Calls Tryz.prog 136 #[.pointer (some ⟨b,d*65,none⟩),.int .i64 (s:Int)] w fun e w'=>e=.returned (.bool (dM L d s))/\w=w':=by
 obtain⟨x,hc,hx⟩:=h.word hd hs;obtain⟨q,hqd⟩:∃q,s / 64=q:=⟨_,rfl⟩
 obtain⟨r,hrd⟩:∃q,s % 64=q:=⟨_,rfl⟩
 have hq64:q<64:=by omega
 have hr64:r<64:=by omega
 rw[hqd] at hc;rw[hrd] at hx;have h1:=Et x r;have h2:=CB (x >>> r) 1#64;have h3:=Eu x r;rw[hx] at h3;obtain⟨xv,hxv⟩:∃n:Int,(x.toNat:Int)=n:=⟨_,rfl⟩
 obtain⟨sv,hsv⟩:∃n:Int,((x >>> r).toNat:Int)=n:=⟨_,rfl⟩
 obtain⟨rv,hrv⟩:∃n:Int,((x >>> r &&& 1#64).toNat:Int)=n:=⟨_,rfl⟩
 obtain⟨bb,hbb⟩:∃b,dM L d s=b:=⟨_,rfl⟩
 have e1:(((1#64:BitVec 64).toNat:Nat):Int)=1:=rfl;unfold wv at hc;rw[e1] at h2;rw[hxv] at hc h1;rw[hsv] at h1 h2;rw[hrv] at h2 h3;rw[hbb] at h3 ⊢;have h3':(rv == 1)=bb:=h3;obtain⟨o,ho⟩:∃o,d*65=o:=⟨_,rfl⟩
 rw[ho] at hc ⊢;have hq:(s:Int) / 64=(q:Int):=by omega
 have hm:(s:Int) % 64=(r:Int):=by omega
 have hs0:(0:Int)≤(s:Int):=by omega
 have hqd2:(s:Int).tdiv 64=(q:Int):=by rw[Int.tdiv_eq_ediv_of_nonneg (by omega)];omega
 have hmd2:(s:Int).tmod 64=(r:Int):=by rw[Int.tmod_eq_emod_of_nonneg (by omega)];omega
 have hwq:IntKind.i64.wrap (q:Int)=(q:Int):=by rw[IntWalk.i64_in _ (by omega)]
 have hwr:IntKind.i64.wrap (r:Int)=(r:Int):=by rw[IntWalk.i64_in _ (by omega)]
 have hq0:(0:Int)≤(q:Int):=by omega
 have hq1:(q:Int)<64:=by omega
 have hr0:(0:Int)≤(r:Int):=by omega
 have hr1:(r:Int)<64:=by omega
 clear h hx hxv hsv hrv hbb e1 ho hqd hrd;go_enter Tryz.func136,Tryz.ntmps136;go_wp2_with fail;go_ret;exact⟨rfl,rfl⟩
theorem L6(w:World):(zeroValue 203).run Tryz.prog w=.ok (.agg #[]) w:=by kernel_rfl
theorem bW.lt{w:World}{b:Nat}{l:List (Ad×Nix)}(h:bW eH adV eO w b l):b<w.heap.size:=by
 obtain⟨es,clock,hb,-⟩:=h;exact lt_of_block hb
theorem DX{w:World}{b:Nat}{l:List (Ad×Nix)}(h:bW eH adV eO w b l):(cF l).Nodup:=by
 obtain⟨es,clock,hb,hm⟩:=h;exact hm.2.2.2.1
def Kp(w:World)(d:Nat)(dst lst:List (Ad×Nix))(e:Ending)(w':World):Prop:=e=.returned (.tuple #[])/\∃s,bW eH adV eO w' d s/\(∀q,q∈cF s↔q∈cF dst\/q∈cF lst)/\aA (fun k=>k=d) w w'
theorem Kq(w:World)(d b:Nat)(dst lst:List (Ad×Nix))(hd:bW eH adV eO w d dst)(hm:bW eH adV eO w b lst)(hdl:d<w.heap.size)(hdb:d≠b) :
 Calls Tryz.prog 140 #[.map (some d),.map (some b)] w (Kp w d dst lst):=by
 have HM:=O hm;have HD:=O hd;clear hm hd;go_enter Tryz.func140,Tryz.ntmps140
 go_wp2_with (first
  | ((with_reducible show WL _ (.range _ _));refine yZ rfl (.tmp 6) 200 rfl Tryz.underlying200 rfl HM.out ?_
     intro w1 hi1 hk1 hs1;have HI:=O hi1;have HK1:=O hk1;have HD1:=O (HD.out.keep hk1 id);have hs1':w.heap.size<w1.heap.size:=by omega
     clear hi1 hk1 hs1))
 go_frame
 go_loopw [9] (fun _ wr=>∃(left cur:List (Ad×Nix)) (pre:List Ad),Hid (cR eH adV eO wr b w.heap.size lst left)/\Hid (bW eH adV eO wr d cur)/\Hid ((pre++cF left).Perm (cF lst))/\Hid (∀q,q∈cF cur↔q∈cF dst\/q∈pre)/\Hid (aA (fun k=>k=d) w wr)) (fun _ wr=>wr.rangeLeft b w.heap.size)
 case atStart=>exact⟨lst,dst,[],HI,HD1,O (by simp),O (fun q=>by simp),O (HK1.out.any)⟩
 case round =>
 obtain⟨left,cur,pre,HI2,HD2,HP,HQ,HKR⟩:=hrel;have HCNT:=O HI2.out.count;have hsr:=HKR.out.size;have hdw:d<w.heap.size:=hdl;have hne:d≠b:=hdb
 go_wp2_with (first
  | ((with_reducible show WL _ (.next _ _));refine Am rfl (.tmp 7) rfl rfl HI2.out ?_ ?_))
 ·intro hl
  go_wp2_with fail
  go_end0
  subst hl;exact⟨rfl,cur,HD2.out,fun q=>by rw[HQ.out q,←HP.out.mem_iff];simp[cF],HKR.out⟩
 ·intro i x v w2 hxi hxo hi2 hk2 hs2 he2
  have hpe:(cF left).Perm (x::cF (left.eraseIdx i)):=by have:=(nI hxi).map (fun p:Ad×Nix=>p.1);exact this
  have HP2:Hid (((pre++[x])++cF (left.eraseIdx i)).Perm (cF lst)):=O (by
   refine List.Perm.trans ?_ HP.out;rw[List.append_assoc,List.singleton_append];exact(hpe.append_left pre).symm)
  have hkr:aA (fun k=>k=d) w w2:=HKR.out.trans' hk2 (fun _ _ h=>h) (fun i hi e=>by omega);have HI3:=O hi2;have HE3:=O he2;have HKR2:=O hkr;have HXO:=O hxo;have HD3:=O (HD2.out.keep hk2 (by omega));have HLT:=O (List.getElem?_eq_some_iff.1 hxi).1;have hs2':wr.heap.size≤w2.heap.size:=hk2.size;have hu:∀x:Nix,eO x=.agg #[]:=fun _=>rfl
  have HU:=O hu;clear hxi hxo hi2 hk2 hs2 he2 hpe hkr hu;unfold adV;rw[HU.out]
  go_wp2_with (first
   | ((with_reducible show WL _ (.entry _));refine zA rfl (.tmp 7) rfl rfl HE3.out ?_;show wpList _ _ _ _ (Act.put _ _ (Value.tuple #[.agg (aN x).toArray,.agg #[]])) _)
   | ((with_reducible show WL (some 4) (.alloc 49));refine aS rfl 49 rfl eE eA #[.int .i64 0,.int .i64 0] rfl ?_)
   | ((with_reducible show WL (some 5) (.alloc 203));refine aS rfl 203 rfl (.agg #[]) L6 #[] rfl ?_)
   | ((with_reducible show WL none (.store 49 (.tmp 4) (.tmp 11)));refine aM rfl 49 (.tmp 4) (.tmp 11) rfl w2.heap.size 0 (aN x) rfl rfl #[.int .i64 0,.int .i64 0] 49 (heap_alloc2_old _ _ _) (Nat.le_refl _) cE (bH _) ?_
      intro w3 hb3 hk3;rw[aG _ _ (by rfl)] at hb3;have hk4:aA aB w2 w3:=(((aA.refl aB w2).alloc _).alloc _).trans' hk3 (fun _ _ h=>h) (fun i hi e=>by omega);have hn3:=hk3.blk (heap_alloc2_new w2 (.cells #[.int .i64 0,.int .i64 0] 49) (.cells #[] 203)) (by omega);have HB3:=O hb3;have HN3:=O hn3;have HK4:=O hk4;have hs4:=hk4.size;clear hb3 hk3 hk4 hn3)
   | ((with_reducible show WL _ (.load 49 (.tmp 4)));refine wpList_load_mid rfl 49 (.tmp 4) rfl w2.heap.size 0 rfl (aN x) _ (aD HB3.out) bX rfl cE ?_)
   | ((with_reducible show WL none (.mapUpdate 200 (.tmp 13) (.tmp 14) (.tmp 15)));refine lK rfl rfl (.tmp 13) (.tmp 14) (.tmp 15) 200 rfl KQ Tryz.underlying200 x HXO.out Nix.nix rfl rfl rfl (HD3.out.keep HK4.out id) ?_
      intro w4 hm4 hk4;have HD5:=O hm4;have HI5:=O ((HI3.out.keep HK4.out id id).keep hk4 (fun e=>hne e.symm) (by omega));have HKR5:=O ((HKR2.out.trans' HK4.out (U:=fun k=>k=d) (fun _ _ h=>h) (fun _ _ h=>h.elim)).trans' hk4 (U:=fun k=>k=d) (fun _ _ h=>h) (fun _ _ h=>h));clear hm4 hk4))
  have HQ3:Hid (∀q,q∈cF (dJ cur x Nix.nix)↔q∈cF dst\/q∈pre++[x]):=O (fun q=>by
   rw[pN,HQ.out q,List.mem_append,List.mem_singleton,or_assoc])
  go_roundw
  case rel=>exact⟨_,_,_,HI5,HD5,HP2,HQ3,HKR5⟩
  case measure=>rw[HI5.out.count,HCNT.out,List.length_eraseIdx_of_lt HLT.out];have:=HLT.out;omega
theorem IE(w:World)(v vb:Value)(xs ys:List Ad)(ho:lC xs)(hoy:lC ys)(hr:Rd w 2 v xs.length (aT xs))(hrb:Rd w 2 vb ys.length (aT ys))(hl:xs.length+ys.length≤65536):Calls Tryz.prog 83 #[v,vb] w (B7 w (mF (xs++ys))):=by
 have HO:=O (fun w v (h:Rd w 2 v xs.length (aT xs))=>Gw w v xs ho h);obtain⟨U,hU⟩:∃U,mF (xs++ys)=U:=⟨_,rfl⟩
 have HUE:=O hU;rw[hU];clear hU;have HOB:=O (fun w v (h:Rd w 2 v ys.length (aT ys))=>Gw w v ys hoy h);obtain⟨oa,ca,rfl,-,hmm⟩:=hr.form;have hmx_n:xs.length≤maxLen:=by have h:=hr.2;obtain⟨a',cap',h1,h2,h3,-⟩:=h;omega
 unfold maxLen at hmx_n;clear hmm;have HR:=O hr;obtain⟨n,hn_n⟩:∃n,xs.length=n:=⟨_,rfl⟩
 have HN:=O hn_n;rw[hn_n] at HR hmx_n
 try rw[hn_n]
 clear hr hn_n;obtain⟨ob,cb,rfl,-,hmm⟩:=hrb.form;have hmx_m:ys.length≤maxLen:=by have h:=hrb.2;obtain⟨a',cap',h1,h2,h3,-⟩:=h;omega
 unfold maxLen at hmx_m;clear hmm;have HRB:=O hrb;obtain⟨m,hn_m⟩:∃n,ys.length=n:=⟨_,rfl⟩
 have HMN:=O hn_m;rw[hn_m] at HRB hmx_m
 try rw[hn_m]
 clear hrb hn_m;have hbnd:xs.length+ys.length≤65536:=by exact hl
 go_enter Tryz.func83,Tryz.ntmps83;go_wp2_with fail;refine(HO.out w _ (by rw[HN.out];exact HR.out)).mono ?_;rintro e w1 ⟨b1,rfl,hm1,hb1,hk1⟩;have hl1:=hm1.lt;have HM1:=O hm1;have HK1:=O hk1;have HRB1:=O (HRB.out.keep hk1 fun _ _=>id);clear hm1 hk1;go_wp2_with fail;refine(HOB.out w1 _ (by rw[HMN.out];exact HRB1.out)).mono ?_;rintro e w2 ⟨b2,rfl,hm2,hb2,hk2⟩;have hl2:=hm2.lt;have hs2:=hk2.size;have HM2:=O hm2;have HM1:=O (HM1.out.keep hk2 id);have HK2:=O (HK1.out.trans hk2);clear hm2 hk2;go_wp2_with fail;refine(Kq w2 b1 b2 (gD xs) (gD ys) HM1.out HM2.out (by omega) (by omega)).mono ?_;rintro e w4 ⟨rfl,s,hm4,hq4,hk4⟩;have HM4:=O hm4;have HQ:Hid (∀q,q∈cF s↔q∈xs++ys):=O (fun q=>by rw[hq4 q,(nX xs).2 q,(nX ys).2 q,List.mem_append]);have HKW:=O (HK2.out.trans' hk4 (U:=aB) (fun _ _ h=>h) (fun i hi e=>by omega));clear hm4 hq4 hk4;go_wp2_with fail;have hnd:=DX HM4.out;have hcs:=(yD hnd HQ.out).trans HUE.out
 have hlen:s.length≤65536:=by
  have h1:(iD (cF s)).length=s.length:=by rw[sX];exact List.length_map _
  rw[←h1,yD hnd HQ.out];exact Nat.le_trans (G0 _) (by simp only[List.length_append];omega)
 have L:=I2 w4 b1 s HM4.out hlen;rw[hcs] at L;have L:=O L;have hsz:=HKW.out.size;clear hnd hcs hlen;go_wp2_with fail;refine L.out.mono ?_;rintro e wf ⟨v,rfl,ho2,hk2⟩;obtain⟨va,vc,rfl,-,-⟩:=(Rd.of_owns ho2).form;have HOF:=O (aP ho2 hsz);have HKF:=O (HKW.out.trans hk2);clear ho2 hk2;go_wp2_with fail;go_ret;exact⟨_,rfl,HOF.out,HKF.out⟩
end
end Go.Proofs.YthihofpfonfjfaaGreatDoor
