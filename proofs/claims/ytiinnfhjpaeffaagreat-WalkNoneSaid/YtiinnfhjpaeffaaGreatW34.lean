import Derived.Test.YtiinnfhjpaeffaaGreatW1
import Derived.Test.YtiinnfhjpaeffaaGreatW17
import Derived.Test.YtiinnfhjpaeffaaGreatW19
import Derived.Test.YtiinnfhjpaeffaaGreatRows
import Derived.ProofKit
import Derived.OpenShut
import Derived.ShutString
import Derived.ChangeOld
import Derived.Below
import Derived.Lib.SmallJoins
import Derived.Deep.Slices
namespace Go.Proofs.YtiinnfhjpaeffaaGreat
set_option maxHeartbeats 64000000
set_option maxRecDepth 100000
set_option linter.unusedVariables false
section
open Go.ChangeShapes Go.WideShapes Go.ChangeAt Go.RowKit
theorem own:ownKnob Tryz.prog.godebug=none:=by kernel_rfl
theorem MW:laidOutB Tryz.prog=true:=by kernel_rfl
structure iV where
 wh:Int
 ot:Int
 x:Int
 raw:Bool
 pa:Option Addr
 pn:Nat
 pc:Nat
 pt:List Value
def iV.p(a:iV):List Value:=.slice a.pa a.pn a.pc::a.pt
def iV.Ok(a:iV):Prop:=a.pt.length=34/\∀u∈a.pt,u.oneCell'=true
theorem iV.Ok.len{a:iV}(h:a.Ok):a.p.length=35:=by show a.pt.length+1=35;rw[h.1]
theorem iV.Ok.one{a:iV}(h:a.Ok):∀u∈a.p,u.oneCell'=true:=by
 intro u hu;rcases List.mem_cons.1 hu with rfl|hu
 ·rfl
 ·exact h.2 u hu
def GR(a:iV):List Value:=[.int .i64 a.wh,.int .i64 a.ot,.int .i64 a.x,.bool a.raw]
def wCs(a:iV):List Value:=GR a++a.p
theorem Fb{a:iV}(h:a.Ok):(wCs a).length=39:=by
 unfold wCs;rw[List.length_append,h.len];rfl
theorem MX{a:iV}(h:a.Ok):∀u∈wCs a,u.oneCell'=true:=by
 intro u hu;rcases List.mem_append.1 hu with hu|hu
 ·simp only[GR,List.mem_cons,List.not_mem_nil,or_false] at hu
  rcases hu with rfl|rfl|rfl|rfl<;>rfl
 ·exact h.one u hu
theorem lX{cs l:List Value}{o k:Nat}(m:Nat)(h:(cs.drop o).take k=l)(hm:o+k=m):cs.drop o=l++cs.drop m:=by
 rw[←h,←hm,←List.drop_drop];exact(List.take_append_drop k (cs.drop o)).symm
section
variable {H:Type}{enc:TypeId×Value->H}{w:World}{base:Nat}{spare:Nat->Bool}{held:Bool}{fuel:Nat}
theorem Jq{t:TypeId}{cs:List Value}{x:DataW H×List MemPlace}{fs:List (String×TypeId×Nat)}(hu:Tryz.prog.underlying t=some (.struct (Tryz.prog.fieldsOf t)))
 (hF:(Tryz.prog.fieldsOf t).toList.map (fun f=>(f.name,f.type,f.offset))=fs) (h:DataW.trod enc Tryz.prog w base spare held fuel t cs=some x) :
 cs.length=Tryz.prog.cellsOf t/\∃m,∀(i:Nat) (n:String) (u:TypeId) (o:Nat),fs[i]?=some (n,u,o)->∃y,DataW.trod enc Tryz.prog w base spare held m u ((cs.drop o).take (Tryz.prog.cellsOf u))=some y:=by
 obtain⟨xs,m,-,-,hl,hx,hf⟩:=DataW.trod_struct hu h;refine⟨hl,m,fun i n u o h2=>?_⟩;rw[←hF,List.getElem?_map] at h2;obtain⟨f,hf1,hf2⟩:=Option.map_eq_some_iff.1 h2;have h3:=hf i f (by simpa using hf1);cases hf2
 have hi:i<xs.length:=by
  have:=(List.getElem?_eq_some_iff.1 hf1).1;rw[hx];simpa using this
 rw[List.getElem?_eq_getElem hi] at h3;exact⟨_,h3⟩
theorem NK:Tryz.prog.cellsOf 3=1:=by kernel_rfl
theorem cU8:Tryz.prog.cellsOf 5=1:=by kernel_rfl
theorem Oe:Tryz.prog.cellsOf 4=1:=by kernel_rfl
theorem cSA:Tryz.prog.cellsOf 23=1:=by kernel_rfl
theorem cID:Tryz.prog.cellsOf 25=32:=by kernel_rfl
theorem cPt:Tryz.prog.cellsOf 27=35:=by kernel_rfl
theorem cW:Tryz.prog.cellsOf 36=39:=by kernel_rfl
theorem uPt:Tryz.prog.underlying 27=some (.struct (Tryz.prog.fieldsOf 27)):=by kernel_rfl
theorem uW:Tryz.prog.underlying 36=some (.struct (Tryz.prog.fieldsOf 36)):=by kernel_rfl
theorem fPt : (Tryz.prog.fieldsOf 27).toList.map (fun f => (f.name, f.type, f.offset)) = [("Addrs", 23, 0), ("Birth", 3, 1), ("Level", 3, 2), ("Sum", 25, 3)] := by kernel_rfl
theorem fW : (Tryz.prog.fieldsOf 36).toList.map (fun f => (f.name, f.type, f.offset)) = [("Which", 3, 0), ("Other", 3, 1), ("Txg", 3, 2), ("Raw", 4, 3), ("P", 27, 4)] := by kernel_rfl
theorem rS{cs:List Value}{x:DataW H×List MemPlace}(h:DataW.trod enc Tryz.prog w base spare held fuel 3 cs=some x):∃a:Int,cs=[.int .i64 a]:=by
 obtain⟨a,e0,-,-⟩:=DataW.trod_int Tryz.underlying3 h;exact⟨a,e0⟩
theorem Ln{cs:List Value}{x:DataW H×List MemPlace}(h:DataW.trod enc Tryz.prog w base spare held fuel 5 cs=some x):∃a:Int,cs=[.int .u8 a]:=by
 obtain⟨a,e0,-,-⟩:=DataW.trod_int Tryz.underlying5 h;exact⟨a,e0⟩
theorem Lo{cs:List Value}{x:DataW H×List MemPlace}(h:DataW.trod enc Tryz.prog w base spare held fuel 4 cs=some x):∃a:Bool,cs=[.bool a]:=by
 obtain⟨a,e0,-⟩:=DataW.trod_bool Tryz.underlying4 h;exact⟨a,e0⟩
theorem NL{cs:List Value}{x:DataW H×List MemPlace}(h:DataW.trod enc Tryz.prog w base spare held fuel 25 cs=some x):cs.length=32/\∀u∈cs,u.oneCell'=true:=by
 obtain⟨xs,m,-,-,hl,hx,he⟩:=DataW.trod_array Tryz.underlying25 h;rw[cID] at hl;refine⟨hl,fun u hu=>?_⟩;obtain⟨i,hi⟩:=List.getElem?_of_mem hu;have hi32:i<32:=by have:=(List.getElem?_eq_some_iff.1 hi).1;omega
 have h1:=he i hi32;rw[cU8,Nat.mul_one] at h1;obtain⟨y,hy⟩:∃y,xs[i]?=some y:=⟨xs[i]'(by omega),List.getElem?_eq_getElem _⟩
 rw[hy] at h1;obtain⟨b,hb⟩:=Ln h1;have:((cs.drop i).take 1)[0]?=some (.int .u8 b):=by rw[hb];rfl
 rw[List.getElem?_take,if_pos (by omega),List.getElem?_drop,Nat.add_zero,hi] at this;cases this
 rfl
theorem NM{cs:List Value}{x:DataW H×List MemPlace}(h:DataW.trod enc Tryz.prog w base spare held fuel 27 cs=some x):∃a n c pt,cs=.slice a n c::pt/\pt.length=34/\∀u∈pt,u.oneCell'=true:=by
 obtain⟨hl,m,hf⟩:=Jq uPt fPt h;rw[cPt] at hl;obtain⟨_,h0⟩:=hf 0 _ _ _ rfl;obtain⟨_,h1⟩:=hf 1 _ _ _ rfl;obtain⟨_,h2⟩:=hf 2 _ _ _ rfl;obtain⟨_,h3⟩:=hf 3 _ _ _ rfl;obtain⟨a,n,c,e0⟩:=Go.Joins.slice_form Tryz.underlying23 h0;obtain⟨b,e1⟩:=rS h1;obtain⟨d,e2⟩:=rS h2;obtain⟨l3,o3⟩:=NL h3;rw[cSA] at e0;rw[NK] at e1 e2;rw[cID] at l3 o3
 have e:cs=.slice a n c::(.int .i64 b::.int .i64 d::(cs.drop 3).take 32):=by
  have q0:=lX 1 e0 rfl;rw[lX 2 e1 rfl,lX 3 e2 rfl,lX 35 (rfl:(cs.drop 3).take 32=_) rfl,List.drop_eq_nil_of_le (i:=35) (by omega),List.append_nil] at q0;exact q0
 refine⟨a,n,c,_,e,?_,fun u hu=>?_⟩
 ·show ((cs.drop 3).take 32).length+1+1=34
  rw[l3]
 ·rcases List.mem_cons.1 hu with rfl|hu
  ·rfl
  ·rcases List.mem_cons.1 hu with rfl|hu
   ·rfl
   ·exact o3 u hu
theorem MY{cs:List Value}{x:DataW H×List MemPlace}(h:DataW.trod enc Tryz.prog w base spare held fuel 36 cs=some x):∃a:iV,a.Ok/\cs=wCs a:=by
 obtain⟨hl,m,hf⟩:=Jq uW fW h;rw[cW] at hl;obtain⟨_,h0⟩:=hf 0 _ _ _ rfl;obtain⟨_,h1⟩:=hf 1 _ _ _ rfl;obtain⟨_,h2⟩:=hf 2 _ _ _ rfl;obtain⟨_,h3⟩:=hf 3 _ _ _ rfl;obtain⟨_,h4⟩:=hf 4 _ _ _ rfl;obtain⟨a0,e0⟩:=rS h0;obtain⟨a1,e1⟩:=rS h1;obtain⟨a2,e2⟩:=rS h2;obtain⟨a3,e3⟩:=Lo h3;obtain⟨p0,p1,p2,pt,e4,hp1,hp2⟩:=NM h4;rw[NK] at e0 e1 e2;rw[Oe] at e3;rw[cPt] at e4;refine⟨⟨a0,a1,a2,a3,p0,p1,p2,pt⟩,⟨hp1,hp2⟩,?_⟩;have q0:=lX 1 e0 rfl;rw[lX 2 e1 rfl,lX 3 e2 rfl,lX 4 e3 rfl,lX 39 e4 rfl,List.drop_eq_nil_of_le (i:=39) (by omega),List.append_nil] at q0;exact q0
end
end
section
open Go.RowKit
theorem zR{α:Type}{f:α->List Value}{k:Nat}:∀{l:List α},(∀y∈l,(f y).length=k)->∀(i:Nat){y:α},l[i]?=some y->∀j,j<k->(l.flatMap f)[i*k+j]?=(f y)[j]?
 | [],_,_,_,hy,_,_=>by simp at hy
 | x::l,h,0,y,hy,j,hj=>by
   have e:x=y:=by simpa using hy
   subst e;rw[List.flatMap_cons,Nat.zero_mul,Nat.zero_add,List.getElem?_append_left (by rw[h x (List.mem_cons_self ..)];exact hj)]
 | x::l,h,i+1,y,hy,j,hj=>by
   rw[List.flatMap_cons,List.getElem?_append_right (by rw[h x (List.mem_cons_self ..),Nat.succ_mul];omega),h x (List.mem_cons_self ..),show (i+1)*k+j-k=i*k+j by rw[Nat.succ_mul];omega];exact zR (fun y hy=>h y (List.mem_cons_of_mem _ hy)) i (by simpa using hy) j hj
theorem NN{α:Type}{f:α->List Value}{s:Nat}{w:World}{v:Value}{l:List α}(hf:∀y∈l,(f y).length=s)(hs:0<s)(h:Rd w s v l.length (l.flatMap f)){k:Nat}{x:α}(hk:l[k]?=some x) :
 ∃g o cap,v=.slice (some ⟨g,o,none⟩) l.length cap/\∀j u,(f x)[j]?=some u->w.cell? ⟨g,o+k*s+j,none⟩=some u:=by
 obtain⟨h0,a,cap,rfl,h1,h2,h3,h4⟩:=h;have hlt:=(List.getElem?_eq_some_iff.1 hk).1;have hpos:0<l.length*s:=Nat.mul_pos (by omega) hs;obtain⟨g,o,rfl,hc⟩:=h4 (by rw[h0];exact hpos);refine⟨g,o,cap,rfl,fun j u hj=>?_⟩;have hj5:j<s:=by have:=(List.getElem?_eq_some_iff.1 hj).1;rwa [hf x (List.mem_of_getElem? hk)] at this
 have h5:=zR (f:=f) (k:=s) (l:=l) hf k hk j hj5;rw[hj] at h5;have:=hc (k*s+j) u h5
 rwa [←Nat.add_assoc] at this
def Lp(l:List iV):List Value:=l.flatMap wCs
def WOk(l:List iV):Prop:=∀a∈l,a.Ok
def Of(w:World)(e:Ending)(w':World):Prop:=(∃b,e=.returned (.bool b))/\aA aB w w'
theorem GS(w:World)(v:Value)(l:List iV)(ho:WOk l)(hr:Rd w 39 v l.length (Lp l)):Calls Tryz.prog 14 #[v] w (Of w):=by
 obtain⟨oa,ca,rfl,hlc,hcm⟩:=hr.form;have hlm:l.length≤maxLen:=by omega
 unfold maxLen at hlm;obtain⟨n,hn⟩:∃n,l.length=n:=⟨_,rfl⟩
 have HN:=O hn;have HR:=O hr;have HOK:=O ho;rw[hn] at HR hlm ⊢;clear hr hn hlc hcm ho;go_in;go_wp2_with fail
 go_loopw [3] (fun t wr=>∃k:Nat,k≤n/\t=.int .i64 k/\wr=w) (fun t _=>n-(intOf t).toNat)
 case atStart=>exact⟨0,Nat.zero_le _,rfl,rfl⟩
 case round =>
 obtain⟨k,hk,rfl,rfl⟩:=hrel
 by_cases hlt:k<n
 ·have hki:(k:Int)<(n:Int):=by omega
  have hk0:(0:Int)≤(k:Int):=by omega
  obtain⟨x,hx⟩:∃x,l[k]?=some x:=⟨l[k]'(by rw[HN.out];exact hlt),List.getElem?_eq_getElem _⟩
  have hr2:=HR.out;rw[←HN.out] at hr2;obtain⟨g,o,cap,hv,hc⟩:=NN (f:=wCs) (fun y hy=>Fb (HOK.out y hy)) (by omega) hr2 hx;rw[HN.out] at hv;have e1:oa=some ⟨g,o,none⟩:=by cases hv;rfl
  subst e1;have h6:=hc 4 (.slice x.pa x.pn x.pc) rfl;clear hr2 hv hc hx;obtain⟨p,hp⟩:∃q,x.pn=q:=⟨_,rfl⟩
  rw[hp] at h6;clear hp
  by_cases h3:20<p
  ·have hi:(20:Int)<(p:Int):=by omega
   have d1:decide ((20:Int)<(p:Int))=true:=decide_eq_true hi;go_wp2;go_ret;exact⟨⟨_,rfl⟩,aA.refl _ _⟩
  ·have hi:¬(20:Int)<(p:Int):=by omega
   have d1:decide ((20:Int)<(p:Int))=false:=decide_eq_false hi;go_wp2
   go_roundw
   case rel=>exact⟨k+1,by omega,by go_num,trivial⟩
   case measure=>simp[intOf];omega
 ·obtain rfl:n=k:=by omega
  by_cases h60:10<n
  ·have hi:(10:Int)<(n:Int):=by omega
   have d1:decide ((10:Int)<(n:Int))=true:=decide_eq_true hi;go_wp2;go_ret;exact⟨⟨_,rfl⟩,aA.refl _ _⟩
  ·have hi:¬(10:Int)<(n:Int):=by omega
   have d1:decide ((10:Int)<(n:Int))=false:=decide_eq_false hi;go_wp2;go_ret;exact⟨⟨_,rfl⟩,aA.refl _ _⟩
end
end Go.Proofs.YtiinnfhjpaeffaaGreat
