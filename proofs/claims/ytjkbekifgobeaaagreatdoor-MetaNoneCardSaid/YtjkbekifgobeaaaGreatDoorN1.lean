/- A part of the proof. Conditions: those told. -/
import Derived.Test.YtjkbekifgobeaaaGreatDoorQ1
import Derived.Test.YtjkbekifgobeaaaGreatDoorQ2
import Derived.Test.YtjkbekifgobeaaaGreatDoorQ3
import Derived.Test.YtjkbekifgobeaaaGreatDoorQ4
import Derived.Test.YtjkbekifgobeaaaGreatDoorQ5
import Derived.Test.YtjkbekifgobeaaaGreatDoorQ6
import Derived.Test.YtjkbekifgobeaaaGreatDoorQ7
import Derived.Test.YtjkbekifgobeaaaGreatDoorQ8
import Derived.Test.YtjkbekifgobeaaaGreatDoorQ9
import Derived.Test.YtjkbekifgobeaaaGreatDoorQ10
import Derived.Test.YtjkbekifgobeaaaGreatDoorQ11
import Derived.Test.YtjkbekifgobeaaaGreatDoorQ12
import Derived.Test.YtjkbekifgobeaaaGreatDoorQ13
import Derived.Test.YtjkbekifgobeaaaGreatDoorQ14
import Derived.Test.YtjkbekifgobeaaaGreatDoorQ15
import Derived.Test.YtjkbekifgobeaaaGreatDoorQ16
import Derived.Test.YtjkbekifgobeaaaGreatDoorQ17
import Derived.Test.YtjkbekifgobeaaaGreatDoorQ18
import Derived.Test.YtjkbekifgobeaaaGreatDoorQ19
import Derived.Test.YtjkbekifgobeaaaGreatDoorQ20
import Derived.Test.YtjkbekifgobeaaaGreatDoorQ21
import Derived.Test.YtjkbekifgobeaaaGreatDoorQ22
import Derived.Test.YtjkbekifgobeaaaGreatDoorQ23
import Derived.Test.YtjkbekifgobeaaaGreatDoorQ24
import Derived.Test.YtjkbekifgobeaaaGreatDoorQ25
import Derived.Test.YtjkbekifgobeaaaGreatDoorQ26
import Derived.Test.YtjkbekifgobeaaaGreatDoorQ27
import Derived.Test.YtjkbekifgobeaaaGreatDoorQ28
import Derived.Test.YtjkbekifgobeaaaGreatDoorQ29
import Derived.Test.YtjkbekifgobeaaaGreatDoorQ30
import Derived.Test.YtjkbekifgobeaaaGreatDoorCards
import Derived.Test.YtjkbekifgobeaaaGreatDoorTie
import Derived.WalkKit
import Derived.WalkSpells
import Derived.WalkLawsBesides
import Derived.Deep.QuietTactic
import Derived.BigQuiet
import Derived.Lib.Hide
import Derived.StillTailTactics
import Derived.Deep.RegionHeld3
import Derived.Deep.AppendLies
import Derived.Laws.AppendOwnNone
import Derived.Laws.CopyOwn
import Derived.Deep.MidRow
import Derived.Maps.AppendAt
import Derived.OrdersIn
import Derived.OrdersHeld
import Derived.RangeFuncKeeps
import Derived.RangeFuncNested
import Derived.Maps.Keyed
import Derived.Maps.RangeRun
import Derived.Maps.RangeWalk
import Derived.WideKeyEntry
import Derived.DeepKeys5
import Derived.Sort.MapsRangeIn
import Derived.Sort.Grow
import Derived.Stop.BytesEq
import Derived.RangeFuncLeaves
import Derived.RangeFuncFrom
import Derived.OwnWalkIn
import Derived.TacticsInMore
import Derived.LoopNIn
import Derived.LoopIn
import Derived.Defers
import Derived.Recover
import Derived.Outline
import Derived.BigRegion
import Derived.Test.YtjkbekifgobeaaaGreatDoorRows
import Derived.ProofKit
import Derived.OpenShut
import Derived.ShutString
import Derived.ChangeOld
import Derived.Below
import Derived.Lib.SmallJoins
import Derived.Deep.Slices
import Derived.SevenTiedAt
namespace Go.Proofs.YtjkbekifgobeaaaGreatDoor
set_option maxHeartbeats 64000000
set_option maxRecDepth 100000
set_option linter.unusedVariables false
section
open Go.RowKit
theorem aA.grownBy{w w':World}{row:Option Nat}(h:aA (fun k=>row=some k) w w'):w.grownBy w' row:=
 ⟨h.os,h.tape,h.output,h.size,fun k hk hne=>h.block k hk (fun e=>hne e.symm)⟩
open Go.RowKit
end
section
open Go.RowKit
section
variable {P:Program}{ops:Array Oper}{Q:Exit->Act->World->Prop}{md:Region.Mode}{S:World->Prop}{n:Nat}
end
open Go.RowKit
variable {F:Fence}{n:Nat}{P:Program}
theorem KpC.refl{Res:Nat->Prop}(A:World):KpC Res A A:=fun _ _ _ _ _ h=>h
end
section
open Go.RowKit
variable {F:Fence}{n:Nat}{P:Program}
theorem KpN.trans{N0:Nat}{A B C:World}(h:KpN N0 A B)(h2:KpN N0 B C):KpN N0 A C:=fun k o hk ho hc=>h2 k o hk (h k o hk ho hc) hc
end
section
open Go.RowKit
section
variable {P:Program}(w:World)
end
open Go.RowKit
set_option maxRecDepth 100000
theorem Fit.bytes{w:World}{v:Value}(h:Fit IsB w v){base n:Nat}{l:List Value}(ho:w.ownsRow base 5 1 v n l):∃k:List UInt8,∀g c,v=.slice (some ⟨g,0,none⟩) n c->w.heap[g]?=some (.cells (k.map vb).toArray 5 (0,0))/\k.length=c/\(k.take n).map vb=l:=by
 rcases ho.2 with⟨h1,-⟩|⟨g,cap,cur,rfl,hb,hg,h1,h2,h3,h4⟩
 ·exact⟨[],fun g c e=>by rw[h1] at e;cases e⟩
 ·have hc:=h g cur _ _ rfl hg
  have:∀l:List Value,(∀c∈l,IsB c)->∃k:List UInt8,l=k.map vb:=by
   intro l
   induction l with
   | nil=>intro _;exact⟨[],rfl⟩
   | cons c l ih =>
     intro hl;obtain⟨b,rfl⟩:=hl _ (List.mem_cons_self ..);obtain⟨k,rfl⟩:=ih fun c hc=>hl c (List.mem_cons_of_mem _ hc)
     exact⟨b::k,rfl⟩
  obtain⟨k,hk⟩:=this cur.toList hc;refine⟨k,fun g' c e=>?_⟩;cases e
  refine⟨?_,?_,?_⟩
  ·rw[hg,←hk]
  ·have:=congrArg List.length hk
   simp at this;omega
  ·rw[List.map_take,←hk,←h4,Nat.mul_one]
end
section
open Go.RowKit Go.Maps Go.ChangeMaps
section
variable {α β:Type}{P:Program}{k:TypeId}{ok:α->Prop}{enc:α->Value}{ev:β->Value}{w:World}{b:Nat}{l:List (α×β)}
theorem LN.keep{w':World}{S:Nat->Prop}{a:α}{st:Nat}(h:LN enc w b a st)(k:aA S w w')(hS:¬S b):LN enc w' b a st:=by
 obtain⟨es,clock,e,hb,h1,h2,h3⟩:=h;have hlt:b<w.heap.size:=(Array.getElem?_eq_some_iff.1 hb).1;exact⟨es,clock,e,by rw[k.block b hlt hS];exact hb,h1,h2,h3⟩
end
open Go.RowKit Go.Maps Go.ChangeMaps
set_option linter.unusedVariables false
section
variable {α β:Type}{P:Program}{k:TypeId}{ok:α->Prop}{enc:α->Value}{ev:β->Value}{w:World}{b:Nat}{l:List (α×β)}
theorem cC.store[DecidableEq α](h:cC ok enc ev w b l)(K:rU P k ok enc)(t:TypeId)(a:α)(ha:ok a){st:Nat}(hs:LN enc w b a st)(v:β) :
 ∃w',(Instr.entryStore t (.map (some b)) (goInt st) (ev v)).run P w=.ok () w'/\cC ok enc ev w' b (dK l a v)/\aA (fun i=>i=b) w w':=by
 obtain⟨es,clock,hb,hm⟩:=h;obtain⟨es',clock',e,hb',he,hek,rfl⟩:=hs;rw[hb] at hb';cases hb';obtain⟨j,hj⟩:=List.getElem?_of_mem he;obtain⟨a',u,g1,g2,g3,g4⟩:=hm.get hj;obtain rfl:a'=a:=K.inj a' a g4 ha (by rw[←g2,hek]);rw[zI hm.2.2.2.1 g1]
 have hidx:es.findIdx? (fun x=>((x.born:Nat):Int) == ((e.born:Nat):Int))=some j:=by
  rw[Go.WideElems.findIdx_arr];exact K9 hm.2.1 hj
 have hmod:es.modify j (fun x=>{ x with val:=ev v })=es.modify j (fun x=>{ x with key:=enc a',val:=ev v }):=by
  apply Array.ext';rw[Array.toList_modify,Array.toList_modify,modify_eq_set _ _ _ _ hj,modify_eq_set _ _ _ _ hj,←g2]
 refine⟨setBlock w b (.map (es.modify j fun x=>{ x with key:=enc a',val:=ev v }) clock),?_,⟨_,_,iJ hb,hm.setVal g1 hj g2 v⟩,jH _ _ _⟩;simp[Instr.entryStore,MapKept.run_getObj_map hb,asInt,asIntOf,goInt,hidx,hmod,MapKept.run_setObj_map _ hb,Result.andThen,setBlock]
theorem cC.len(h:cC ok enc ev w b l){t e:TypeId}(ht:P.underlying t=some (.map k e))(ty:TypeId):(Builtin.len_ #[t] ty #[.map (some b)]).run P w=.ok (.int .i64 l.length) w:=by
 obtain⟨es,clock,hb,hm⟩:=h;have:=hm.len;simp[Builtin.len_,run_underlying ht,MapKept.run_getObj_map hb,Result.andThen,goInt,←this]
theorem cR.map{r:Nat}{left:List (α×β)}(h:cR ok enc ev w b r l left):cC ok enc ev w b l:=by
 obtain⟨es,clock,since,seen,c0,hb,hm,-⟩:=h;exact⟨es,clock,hb,hm⟩
end
open Go.RowKit Go.Maps Go.ChangeMaps
set_option linter.unusedVariables false
section
variable {α β:Type}{F:Fence}{n:Nat}{P:Program}{k:TypeId}{ok:α->Prop}{enc:α->Value}{ev:β->Value}{w:World}{b:Nat}{l:List (α×β)}
variable {ops:Array Oper}{rest:List Oper}{o:Oper}{a:Act}{Q:Exit->Act->World->Prop}
end
end
section
open Go.RowKit Go.Maps Go.ChangeMaps Go.Sort
section
variable {P:Program}{n:Nat}{Q:Exit->Act->World->Prop}{ops:Array Oper}{rest:List Oper}
end
def eqT(d:Nat)(xs ys:Array Value):List (String×TypeId×Nat)->Sem Bool
 | []=>pure true
 | f::fs =>
   if f.1 ≠ "_" then do
    let a ←part f.2.1 xs f.2.2
    let b ←part f.2.1 ys f.2.2
    let r ←Op.equalIn d f.2.1 a b
    if (!r)=true then pure false else eqT d xs ys fs
   else eqT d xs ys fs
theorem eqFields_eqT(d:Nat)(xs ys:Array Value):∀(fs:List Field),Op.eqFields d xs ys fs=eqT d xs ys (fs.map fun f=>(f.name,f.type,f.offset))
 | []=>rfl
 | f::fs=>by simp only[Op.eqFields,eqT,List.map_cons,eqFields_eqT d xs ys fs]
theorem part_int(cs:Array Value)(off:Nat)(v:Value)(h:cs[off]?=some v)(w:World):(part 3 cs off).run Tryz.prog w=.ok v w:=by
 simp[part,isAgg,run_underlying Tryz.underlying3,h]
end
section
open Go.RowKit Go.Maps Go.ChangeMaps
theorem adFields : (Tryz.prog.fieldsOf 58).toList.map (fun f => (f.name, f.type, f.offset)) = [("Dev", 3, 0), ("At", 3, 1)] := by kernel_rfl
open Go.RowKit
set_option maxRecDepth 100000
set_option linter.unusedVariables false
end
section
open Go.RowKit
theorem adGuard:Tryz.prog.eqGuardType Tryz.prog.depth 58=false:=by kernel_rfl
theorem adStood:Tryz.prog.stoodInHeld 58=false:=by kernel_rfl
theorem eqAd(a b:Ad)(w:World):Sem.run Tryz.prog (binOp .eql 58 (.agg (aN a).toArray) (.agg (aN b).toArray)) w=.ok (.bool (decide (a=b))) w:=by
 have e:decide (a=b)=(decide (a.dev=b.dev) && decide (a.sec=b.sec)):=by rw[Bool.eq_iff_iff];simp[Ad.ext_iff]
 rw[e,run_eql_struct,run_equalIn_agg w 9999 58 _ _ bR adStood,eqFields_eqT,adFields];have hi:∀x y:Int,(Op.equalIn 9999 3 (.int .i64 x) (.int .i64 y)).run Tryz.prog w=.ok (x == y) w:=fun x y=>run_equalIn_int w 9998 3 .i64 .i64 x y Tryz.underlying3
 have hd:∀x y:Int,(x == y)=decide (x=y):=fun x y=>by rw[Bool.eq_iff_iff];simp
 have a0:(aN a).toArray[0]?=some (.int .i64 a.dev):=rfl;have a1:(aN a).toArray[1]?=some (.int .i64 a.sec):=rfl;have b0:(aN b).toArray[0]?=some (.int .i64 b.dev):=rfl;have b1:(aN b).toArray[1]?=some (.int .i64 b.sec):=rfl;simp only[eqT,ne_eq,String.reduceEq,not_false_eq_true,if_true,Sem.run_bind,Sem.run_ite,Sem.run_pure,Result.andThen_ok,part_int _ 0 _ a0,part_int _ 0 _ b0,part_int _ 1 _ a1,part_int _ 1 _ b1,hi,hd];cases decide (a.dev=b.dev)<;>cases decide (a.sec=b.sec)<;>rfl
theorem neqAd(a b:Ad)(w:World):Sem.run Tryz.prog (binOp .neq 58 (.agg (aN a).toArray) (.agg (aN b).toArray)) w=.ok (.bool (!decide (a=b))) w:=D8 (eqAd a b w)
end
section
open Go.RowKit Go.Maps Go.ChangeMaps
theorem sameAd_any(w:World)(va vb':Value)(xs ys:List Ad)(hx:Rd w 2 va xs.length (aQ xs))(hy:Rd w 2 vb' ys.length (aQ ys))(bb:Bool)(he:decide (xs=ys)=bb) :
 Calls Tryz.prog 33 #[va,vb'] w fun e w'=>e=.returned (.bool bb)/\aA aB w w':=by
 obtain⟨oa,ca,rfl,hla,hma⟩:=hx.form;obtain⟨ob,cb,rfl,hlb,hmb⟩:=hy.form;have hmx:xs.length≤maxLen:=by omega
 unfold maxLen at hmx;have HE:=O he;have HRX:=O hx;have HRY:=O hy;obtain⟨n,hn⟩:∃n,xs.length=n:=⟨_,rfl⟩
 obtain⟨m,hm⟩:∃m,ys.length=m:=⟨_,rfl⟩
 have HN:=O hn;have HM:=O hm;rw[hn] at HRX hmx;rw[hm] at HRY;rw[hn,hm];clear hx hy he hla hma hlb hmb hn hm
 by_cases hnm:n=m
 ·subst hnm
  go_enter Tryz.func33,Tryz.ntmps33;go_wp2_with fail
  go_loopw [5] (fun i wr=>∃k:Nat,k≤n/\i=.int .i64 k/\Hid (xs.take k=ys.take k)/\Hid (aA aB w wr)) (fun i _=>n-(intOf i).toNat)
  case atStart=>exact⟨0,Nat.zero_le _,rfl,O rfl,O (aA.refl _ _)⟩
  case round =>
  obtain⟨k,hk,rfl,HT,HK⟩:=hrel
  by_cases hlt:k<n
  ·obtain⟨x,hx⟩:∃x,xs[k]?=some x:=⟨xs[k]'(by rw[HN.out];exact hlt),List.getElem?_eq_getElem _⟩
   obtain⟨y,hy⟩:∃y,ys[k]?=some y:=⟨ys[k]'(by rw[HM.out];exact hlt),List.getElem?_eq_getElem _⟩
   obtain⟨S,hS0⟩:∃S:World->Prop,S=fun w'=>aA aB w w':=⟨_,rfl⟩
   have hra:=HRX.out;have hrb:=HRY.out;rw[←HN.out] at hra;rw[←HM.out] at hrb;obtain⟨g,o,cap,hv,-⟩:=lD hra hx;obtain⟨g2,o2,cap2,hv2,-⟩:=lD hrb hy;have e1:oa=some ⟨g,o,none⟩:=by cases hv;rfl
   have e2:ob=some ⟨g2,o2,none⟩:=by cases hv2;rfl
   subst e1 e2;obtain⟨xc,hxc⟩:∃xc,aN x=xc:=⟨_,rfl⟩
   obtain⟨yc,hyc⟩:∃yc,aN y=yc:=⟨_,rfl⟩
   have HSX:=O (show ∀w',S w'->w'.rangeAt g (o+k*2) xc from fun w' h=>by
    rw[hS0] at h;obtain⟨g',o',c',hv',hr'⟩:=lD (hra.keep h fun _ _=>id) hx;cases hv'
    rw[←hxc];exact hr')
   have HSY:=O (show ∀w',S w'->w'.rangeAt g2 (o2+k*2) yc from fun w' h=>by
    rw[hS0] at h;obtain⟨g',o',c',hv',hr'⟩:=lD (hrb.keep h fun _ _=>id) hy;cases hv'
    rw[←hyc];exact hr')
   have HX:Hid ((Tryz.prog.info? 58).map (·.size)=some xc.length):=O (by rw[←hxc];exact bW);have HY:Hid ((Tryz.prog.info? 58).map (·.size)=some yc.length):=O (by rw[←hyc];exact bW);obtain⟨bq,hbq⟩:∃bq,(!decide (x=y))=bq:=⟨_,rfl⟩
   have HNE:Hid (∀w',Sem.run Tryz.prog (binOp .neq 58 (.agg xc.toArray) (.agg yc.toArray)) w'=.ok (.bool bq) w'):=O (fun w'=>by rw[←hxc,←hyc,←hbq];exact neqAd x y w');have HBQ:=O hbq;have HSE:=O (show ∀w',S w'->aA aB w w' from fun w' h=>by rw[hS0] at h;exact h);have hS:S wr.drew:=by rw[hS0];exact HK.out.drew
   have HTX:Hid (xs.take (k+1)=xs.take k++[x]):=O (by rw[List.take_add_one,hx];rfl);have HTY:Hid (ys.take (k+1)=ys.take k++[y]):=O (by rw[List.take_add_one,hy];rfl);have HXE:=O hx;have HYE:=O hy;have hki:(k:Int)<(n:Int):=by omega
   have hk0:(0:Int)≤(k:Int):=by omega
   clear hx hy hS0 hra hrb hv hv2 hxc hyc hbq HK;go_wp2_with fail;refine wp_region_held (S:=S) (by kernel_rfl) ?_;change wpAnyH _ _ _ _ _ _ _ _ wr.drew;generalize wr.drew=w6 at *;refine tka 0 (.slice (some ⟨g,o,none⟩) n ca) rfl hS ?_;simp only[Act.put,List.setIfInBounds_toArray,List.set_cons_zero,List.set_cons_succ,List.getElem_toArray,List.getElem_cons_zero];refine tna 1 (.int .i64 k) rfl hS ?_;refine tkd 2 (.pointer (some ⟨g,o+k*2,none⟩)) rfl (.inl ⟨by rfl,fun _ _=>?_⟩) hS ?_
   ·go_simp
   refine nrm ?_;refine tnd 3 (.agg xc.toArray) rfl (yieldsIf_load_mid (by rfl) 58 (.tmp 19) rfl g (o+k*2) rfl xc _ HSX.out bR rfl HX.out) hS ?_;refine tna 4 (.slice (some ⟨g2,o2,none⟩) n cb) rfl hS ?_;refine tna 5 (.int .i64 k) rfl hS ?_;refine tkd 6 (.pointer (some ⟨g2,o2+k*2,none⟩)) rfl (.inl ⟨by rfl,fun _ _=>?_⟩) hS ?_
   ·go_simp
   refine nrm ?_;refine tnd 7 (.agg yc.toArray) rfl (yieldsIf_load_mid (by rfl) 58 (.tmp 23) rfl g2 (o2+k*2) rfl yc _ HSY.out bR rfl HY.out) hS ?_;refine tnd 8 (.bool bq) rfl (uU (by rfl) 58 (.tmp 20) (.tmp 24) 58 rfl xc.toArray yc.toArray rfl rfl adGuard HNE.out) hS ?_;refine wpAnyH_done (by kernel_rfl) ?_ _;have HKE:=O (HSE.out _ hS);clear hS;cases bq
   ·have hxy:x=y:=by have:=HBQ.out;simpa using this
    have HTE:Hid (xs.take (k+1)=ys.take (k+1)):=O (by rw[HTX.out,HTY.out,HT.out,hxy]);clear hxy;go_wp2_with fail
    go_roundw
    case rel=>exact⟨k+1,by omega,by go_num,HTE,HKE⟩
    case measure=>simp[intOf];omega
   ·have hxy:x≠y:=by have:=HBQ.out;simpa using this
    have hf:bb=false:=by
     rw[←HE.out];refine decide_eq_false fun e=>hxy ?_
     have h1:=HXE.out;rw[e,HYE.out] at h1;exact(Option.some.inj h1).symm
    subst hf;clear hxy;go_wp2_with fail;go_ret;exact⟨rfl,HKE.out⟩
  ·obtain rfl:k=n:=by omega
   have hf:bb=true:=by
    rw[←HE.out];have:=HT.out;rw[List.take_of_length_le (by rw[HN.out];exact Nat.le_refl _),List.take_of_length_le (by rw[HM.out];exact Nat.le_refl _)] at this;exact decide_eq_true this
   subst hf;go_wp2_with fail;go_ret;exact⟨rfl,HK.out⟩
 ·have hf:bb=false:=by
   rw[←HE.out];refine decide_eq_false fun e=>hnm ?_
   rw[←HN.out,←HM.out,e]
  subst hf;have hni:¬(n:Int)=(m:Int):=by omega
  go_enter Tryz.func33,Tryz.ntmps33;go_wp2_with fail;go_ret;exact⟨rfl,aA.refl _ _⟩
end
section
open Go.RowKit Go.Maps Go.ChangeMaps
open Go.RowKit Go.Maps Go.ChangeMaps
theorem kitPt_any(w:World)(v u:Value)(p q:Pt)(h0:PtV w v p)(h1:PtV w u q):Calls Tryz.prog 11 #[.agg (aE v p).toArray,.agg (aE u q).toArray] w (bJ w (p.eqB q)):=by
 obtain⟨oa,ca,hv,-,-⟩:=h0.rd.form;subst hv;obtain⟨ob,cb,hv,-,-⟩:=h1.rd.form;subst hv;obtain⟨n,hn⟩:∃x,p.addrs.length=x:=⟨_,rfl⟩
 obtain⟨m,hm⟩:∃x,q.addrs.length=x:=⟨_,rfl⟩
 have HN:=O hn;have HM:=O hm;rw[hn] at h0 ⊢;rw[hm] at h1 ⊢;obtain⟨w1,hw1⟩:∃w1,(w.alloc (.cells (aE (.slice oa n ca) p).toArray 26)).alloc (.cells (aE (.slice ob m cb) q).toArray 26)=w1:=⟨_,rfl⟩
 have hb_0:w1.heap[w.heap.size]?=some (.cells (aE (.slice oa n ca) p).toArray 26 (0,0)):=by rw[←hw1];exact heap_alloc2_old _ _ _
 have hb_1:w1.heap[w.heap.size+1]?=some (.cells (aE (.slice ob m cb) q).toArray 26 (0,0)):=by rw[←hw1];exact heap_alloc2_new _ _ _
 have hk1:aA aB w w1:=by rw[←hw1];exact((aA.refl _ _).alloc _).alloc _
 obtain⟨a0,b0,c0,d0⟩:=dQ (aD hb_0);have HP0:=O d0;have HB0:=O hb_0;have hl0:(aE (.slice oa n ca) p).length=35:=aU h0.sum;simp only[Nat.zero_add] at a0 b0 c0;obtain⟨a1,b1,c1,d1⟩:=dQ (aD hb_1);have HP1:=O d1;have HB1:=O hb_1;have hl1:(aE (.slice ob m cb) q).length=35:=aU h1.sum;simp only[Nat.zero_add] at a1 b1 c1;have HK:=O hk1;have HR0:=O (aD HB0.out);have HR1:=O (aD HB1.out);have HE:=O (fun wx (k:aA aB w wx)=>sameAd_any wx _ _ p.addrs q.addrs (h0.rd.keep k fun _ _=>id) (h1.rd.keep k fun _ _=>id) _ rfl);obtain⟨pc,hpc⟩:∃x,aE (.slice oa n ca) p=x:=⟨_,rfl⟩
 have Hpc:=O hpc;obtain⟨qc,hqc⟩:∃x,aE (.slice ob m cb) q=x:=⟨_,rfl⟩
 have Hqc:=O hqc;have heq:=Ig p.sum q.sum h0.sum h1.sum;have hsl:(p.sum.map vb).length=32:=by rw[List.length_map];exact h0.sum
 have hql:(q.sum.map vb).length=32:=by rw[List.length_map];exact h1.sum
 obtain⟨t1,ht1⟩:∃t:Bool,decide (p.addrs=q.addrs)=t:=⟨_,rfl⟩
 obtain⟨t2,ht2⟩:∃t:Bool,(p.birth == q.birth)=t:=⟨_,rfl⟩
 obtain⟨t3,ht3⟩:∃t:Bool,(p.level == q.level)=t:=⟨_,rfl⟩
 obtain⟨t4,ht4⟩:∃t:Bool,decide (p.sum=q.sum)=t:=⟨_,rfl⟩
 have HS:=O (show p.eqB q=(t1 && t2 && t3 && t4) by unfold Pt.eqB;rw[ht1,ht2,ht3,ht4]);rw[ht1] at HE;rw[ht4] at heq;rw[hpc] at hw1 hl0 HR0 ⊢;rw[hqc] at hw1 hl1 HR1 ⊢;have HEQ:=O heq;clear ht1 ht4 hb_0 hb_1 d0 d1 hk1 hpc hqc h0 h1 HB0 HB1 hn hm heq;go_enter Tryz.func11,Tryz.ntmps11;go_wp2_with fail;refine(HE.out _ HK.out).mono ?_;rintro e w2 ⟨rfl,hk⟩;have HR0:=O (hk.rangeAt HR0.out);have HR1:=O (hk.rangeAt HR1.out);have HK:=O (HK.out.trans hk);obtain⟨a0,b0,c0,d0⟩:=dQ (p:=p) (v:=.slice oa n ca) (by rw[Hpc.out];exact HR0.out);obtain⟨a1,b1,c1,d1⟩:=dQ (p:=q) (v:=.slice ob m cb) (by rw[Hqc.out];exact HR1.out);simp only[Nat.zero_add] at a0 b0 c0 a1 b1 c1;have HP0:=O d0;have HP1:=O d1;clear hk d0 d1;clear a0 a1;obtain⟨ss,hss⟩:∃x,p.sum.map vb=x:=⟨_,rfl⟩
 obtain⟨zz,hzz⟩:∃x,q.sum.map vb=x:=⟨_,rfl⟩
 have heq:=HEQ.out;rw[hss] at HP0 hsl heq;rw[hzz] at HP1 hql heq;clear hss hzz
 cases t1<;>cases t2<;>cases t3<;>cases t4<;>(
  go_wp2_with (first
   | ((with_reducible show WL _ (.load 24 (.tmp 25)));refine bC (by rfl) 24 (.tmp 25) rfl (w.heap.size) 3 rfl ss _ HP0.out Tryz.underlying24 rfl (Kg hsl) ?_)
   | ((with_reducible show WL _ (.load 24 (.tmp 27)));refine bC (by rfl) 24 (.tmp 27) rfl (w.heap.size+1) 3 rfl zz _ HP1.out Tryz.underlying24 rfl (Kg hql) ?_))
  go_ret;exact⟨by rw[HS.out];rfl,HK.out⟩)
end
section
open Go.RowKit
theorem Rdr.form{w:World}{base p:Nat}{v:Value}{l:List UInt8}{at_:Nat}{fe fa:Int}(h:Rdr w base p v l at_ fe fa):∃a cap,v=.slice a l.length cap:=by
 obtain⟨a,c,h1,-,-⟩:=(Rd.of_owns h.own).form;exact⟨a,c,h1⟩
open Go.RowKit
set_option maxRecDepth 100000
open Go.RowKit
set_option maxRecDepth 100000
end
section
open Go.RowKit Go.Maps Go.ChangeMaps
theorem dD.congr{w:World}{lo a b D S:Nat}{c:Nat->Option Nat}{L M:List Ad}(h:dD w lo a b c D S L)(he:∀x,x∈L↔x∈M):dD w lo a b c D S M:=
 ⟨h.top,h.words.congr he,fun d hd=>by
  obtain⟨g,h1,h2⟩:=h.chans d hd;exact⟨g,h1,by rw[←oB fun s _ _=>CX he d s];exact h2⟩,h.inj,h.bd,h.lo⟩
end
section
open Go.RowKit Go.Maps Go.ChangeMaps
theorem fD.lt{w:World}{base g cap:Nat}{l:List Nat}(h:fD w base g cap l):g<w.heap.size:=by
 obtain⟨h1,h2,h3,cur,h4,h5⟩:=h;exact(Array.getElem?_eq_some_iff.1 h4).1
end
section
open Go.RowKit Go.Maps Go.ChangeMaps
theorem Fr.ext{S T:Kor}{u:Tr}(h:Fr T u)(e:Ext S T):Fr S u:=fun a ha hl=>h a ha (e.L a hl)
theorem eqB_refl(p:Pt):p.eqB p=true:=by unfold Pt.eqB;simp
theorem Fr.ne{S:Kor}{l:Nat}{t u:Tr}(h:Tr.Ok S l t)(hh:t.isHole=false)(hf:Fr S u):u.ptr.eqB t.ptr=false:=by
 cases e:u.ptr.eqB t.ptr with
 | false=>rfl
 | true =>
   have:=MF e;obtain⟨h1,h2⟩:=h.lies hh;unfold Fr at hf;rw[this] at hf;cases ha:t.ptr.addrs with
   | nil=>exact absurd ha h1
   | cons a r=>exact absurd (h2 a (by rw[ha];exact List.mem_cons_self ..)) (hf a (by rw[ha];exact List.mem_cons_self ..))
theorem Fr.ne_hole{S T:Kor}{l:Nat}{u:Tr}(h:Tr.Ok T l u)(hh:u.isHole=false):u.ptr.eqB zPt=false:=by
 cases e:u.ptr.eqB zPt with
 | false=>rfl
 | true =>
   have:=MF e;have h2:=h.hole_eq;rw[this,kT,hh] at h2;cases h2
end
section
open Go.RowKit Go.Maps Go.ChangeMaps
theorem gS.trans{S T:Kor}{l:Nat}{t u v:Tr}(h:gS S l t u)(e:Ext S T)(k:gS T l u v):gS S l t v:=fun x hx=>(k x hx).elim (h x) fun hn=>.inr fun a ha hs=>hn a ha (e.L a hs)
theorem kB.ext{S T:Kor}{l:Nat}{t:Tr}(h:kB S l t)(e:Ext S T):kB T l t:=⟨h.ok.ext e,h.aged,h.apart⟩
theorem kB.kid{S:Kor}{l:Nat}{t:Tr}(h:kB S (l+1) t){i:Nat}(hi:i<4):kB S l (t.kid i):=⟨h.ok.kid hi,(h.aged i hi).2,h.kids.1 i hi⟩
end
section
open Go.RowKit Go.Maps Go.ChangeMaps
theorem Cr.all{w w':World}{c:Nat}{B:Nat->Prop}{r:Option (Pt×Kor)}{S:Kor}{e:Ending}(h:Cr w c B r S e w'):ME w c B (MH r) (MI r) (MJ S r) e w':=by
 cases r with
 | none =>
   obtain⟨h1,h2,h3⟩:=h;exact⟨_,B,h1,bB.hole w' B,h2,fun k h=>.inl h,Cl.refl w w' B h3,(fun k hk=>by cases hk),h3.any⟩
 | some x=>exact h
end
section
open Go.RowKit Go.Maps Go.ChangeMaps
theorem tG.from{w w1 w':World}{c:Nat}{B:Nat->Prop}{v0:Value}{r:Option Tr}{T:Kor}{e:Ending}(h:tG w1 c B v0 r T e w')(k:aA aB w w1):tG w c B v0 r T e w':=by
 obtain⟨v,B',h1,h2,h3,h4,h6,h7,h5⟩:=h;exact⟨v,B',h1,h2,h3,fun i hi=>(h4 i hi).imp id fun e=>Nat.le_trans k.size e,(Cl.refl w w1 B k).trans h6,h7.imp id fun h=>h.from k.size,k.any.trans h5⟩
theorem tG.hole{w w':World}{c:Nat}{B:Nat->Prop}{T:Kor}{v0:Value}(h:KI w' c T B)(k:aA aB w w'):tG w c B v0 (some .hole) T (.returned (.tuple #[.agg (aE (.slice none 0 0) zPt).toArray,.int .i64 0])) w':=
 ⟨_,B,rfl,bB.hole w' B,h,fun _ h=>.inl h,Cl.refl w w' B k,.inr (eF.nil w),k.any⟩
end
section
open Go.RowKit Go.Maps Go.ChangeMaps
open Go.RowKit Go.Maps Go.ChangeMaps
theorem Loc.wide{S B:Nat->Prop}{w0 w:World}{l:List (Nat×Array Value×TypeId)}(h:Loc aB aB w0 w l)(hB:∀k,B k->k<w0.heap.size):Loc S B w0 w l:=
 ⟨h.keep.any,h.ge,h.nd,h.at_,fun x hx e=>by have:=h.ge x hx;have:=hB _ e;omega⟩
theorem iD.keepT{T:Nat->Prop}{w w':World}{B:Nat->Prop}{vs:Nat->Value}{ps:Nat->Pt}(h:iD w B vs ps)(k:aA T w w')(hT:∀q,q<4->∀i,(vs q).ownBlock=some i->¬T i):iD w' B vs ps:=fun q hq=>(h q hq).keepT k (hT q hq)
end
section
open Go.RowKit Go.Maps Go.ChangeMaps
section
variable {B0:Nat->Prop}{w0 w w':World}{c:Nat}{S T:Kor}{B B':Nat->Prop}{rs rs':List (Value×Pt)}{l:List (Nat×Array Value×TypeId)}
theorem Cs.tail{x:Nat×Array Value×TypeId}(h:Cs B0 w0 c S B rs w (x::l)):Cs B0 w0 c S B rs w l:=⟨h.loc.tail,h.ki,h.pv,h.bb⟩
end
section
variable {SP:Nat->Prop}{wd:World}{B0:Nat->Prop}{w0 w w':World}{c:Nat}{Sk T:Kor}{B B':Nat->Prop}{rs rs':List (Value×Pt)}{l:List (Nat×Array Value×TypeId)}{P:Program}{ops:Array Oper}{o:Oper}{a:Act}{Q:Exit->Act->World->Prop}{md:Region.Mode}{S:World->Prop}{fuel:Nat}{L:Array Bool}
theorem Ds.laid(h:Ds SP wd B0 w0 c Sk B rs w l)(hSP:∀i,i<wd.heap.size->B i->SP i){v:Value}{p:Pt}(hp:bB w' B' v p)(hk:KI w' c T B')(hb:∀k,B' k->B k\/w.heap.size≤k)(hn:eF w v)(k:aA B w w'):Ds SP wd B0 w0 c T B' ((v,p)::rs) w' l:=
 ⟨h.toCs.laid hp hk hb hn k,h.dr.trans' k (fun _ _ e=>e) hSP⟩
end
end
section
open Go.RowKit Go.Maps Go.ChangeMaps
def NoCore(w:World)(cv:Value):Prop:=cv=.pointer none\/∃b cs,cv=.pointer (some ⟨b,0,none⟩)/\w.heap[b]?=some (.cells cs tP (0,0))/\cs[0]?=some (.pointer none)
theorem NoCore.keep0{w w':World}{cv:Value}(h:NoCore w cv)(k:aA aB w w'):NoCore w' cv:=h.imp id fun ⟨b,cs,h1,h2,h3⟩=>⟨b,cs,h1,k.blk h2 id,h3⟩
theorem NoCore.one{w:World}{cv:Value}(h:NoCore w cv):cv.cells=#[cv]/\cv.oneCell'=true:=by
 rcases h with rfl|⟨b,cs,rfl,-,-⟩<;>exact⟨rfl,rfl⟩
theorem cnone_nil{w:World}{cv:Value}(hN:NoCore w cv):Calls Tryz.prog 54 #[cv] w (aF w (.bool true)):=by
 have HL:=O (Loc.nil aB aB w);rcases hN with rfl|⟨b,cs,rfl,hb,h0⟩
 ·go_enter Tryz.func54,Tryz.ntmps54
  go_wp2_with fail;go_ret;exact⟨rfl,HL.out.keep⟩
 ·go_enter Tryz.func54,Tryz.ntmps54
  have c1:w.cell? ⟨b,0,none⟩=some (.pointer none):=aC hb h0;go_wp2_with fail;go_ret;exact⟨rfl,HL.out.keep⟩
theorem copies_nil{w:World}{cv:Value}(hN:NoCore w cv):Calls Tryz.prog 26 #[cv] w (aF w (.int .i64 0)):=by
 have HN:=O hN;have HOC:=O hN.one;have HL:=O (Loc.nil aB aB w);clear hN;have HN0:=HN;go_enter Tryz.func26,Tryz.ntmps26;go_wp2_with fail;refine((cnone_nil HN.out)).mono ?_;rintro e w1 ⟨rfl,hk⟩;replace HL:=O (HL.out.keeps hk);replace HN:=O (NoCore.keep0 HN.out hk);clear hk;go_wp2_with fail;go_ret;exact⟨rfl,HL.out.keep⟩
end
section
open Go.RowKit Go.Maps Go.ChangeMaps
theorem mlay_nil{w:World}{cv:Value}(hN:NoCore w cv)(va:Option Addr)(m vc:Nat):Calls Tryz.prog 9 #[cv,.slice va m vc] w (aF w (.tuple #[.agg (aE (.slice none 0 0) zPt).toArray,.int .i64 1])):=by
 have HN:=O hN;have hzp:(aE (.slice none 0 0) zPt).length=35:=rfl;have hzb:=iO;obtain⟨zp,hzpe⟩:∃l,aE (.slice none 0 0) zPt=l:=⟨_,rfl⟩
 have HOZP:Hid (∀u∈zp,u.oneCell'=true):=O (by rw[←hzpe];exact bP zPt);have HZPE:=O hzpe;rw[hzpe] at hzp hzb;have HZB:=O hzb;clear hzpe hzb;rw[HZPE.out];have HL:=O (Loc.nil aB aB w);clear hN
 go_enter_defers Tryz.func9,Tryz.ntmps9
 go_wp2_with (first
  | ((with_reducible show WL (some 4) (.alloc 26));refine al 26 (.agg aL.toArray) (aL.toArray) bZ ?_))
 intro b4 w1 hbs hk hb;replace HL:=O (HL.out.new (fun _ h=>h.elim) hbs hk hb);replace HN:=O (NoCore.keep0 HN.out hk);clear hbs hk hb
 go_wp2_with (first
  | ((with_reducible show WL (some 5) (.alloc 46));refine al 46 (.int .i64 0) (#[.int .i64 0]) nH ?_))
 intro b5 w2 hbs hk hb;replace HL:=O (HL.out.new (fun _ h=>h.elim) hbs hk hb);replace HN:=O (NoCore.keep0 HN.out hk);clear hbs hk hb;go_wp2_with fail;refine((copies_nil HN.out)).mono ?_;rintro e w3 ⟨rfl,hk⟩;replace HL:=O (HL.out.keeps hk);replace HN:=O (NoCore.keep0 HN.out hk);clear hk
 go_wp2_with (first
  | ((with_reducible show WL (some 10) (.build _ _));refine bld 26 #[] [] (.agg zp.toArray) HZB.out ?_)
  | ((with_reducible show WL _ (.store 26 (.tmp 4) (.tmp 10)));refine sta 26 (.tmp 4) (.tmp 10) b4 0 zp (HL.out.b 1) (by first|decide|(rw[hzp];exact Nat.le_refl _)|simp[hzp,aI]) (by rw[hzp];exact dY) HOZP.out ?_))
 intro w4 hk hb;rw[aG _ _ (by first|rfl|simp[hzp,aI])] at hb;replace HL:=O (HL.out.set 1 hk hb);clear hk hb
 go_wp2_with (first
  | ((with_reducible show WL _ (.store 46 (.tmp 5) (.const (.int .i64 1))));refine sta 46 (.tmp 5) (.const (.int .i64 1)) b5 0 ([.int .i64 1]) (HL.out.b 0) (by simp) (by kernel_rfl) (by intro v hv;simp only[List.mem_cons,List.not_mem_nil,or_false] at hv;subst hv;rfl) ?_))
 intro w5 hk hb;replace hb:w5.heap[b5]?=some (.cells #[.int .i64 1] 46 (0,0)):=hb;replace HL:=O (HL.out.set 0 hk hb);clear hk hb;have HB4:=O (HL.out.b 1);have HB5:=O (HL.out.b 0);have HP:=O (aF.of (v:=.tuple #[.agg zp.toArray,.int .i64 1]) HL.out.keep);have c7:=aC (i:=0) HB5.out rfl;clear HL;go_wp2_with fail;exact⟨_,fQ rfl _ _ b4 _ _ _ _ rfl HB4.out aK rfl (by rw[List.size_toArray,hzp];exact dY) ⟨b5,0,none⟩ (.int .i64 1) rfl (by go_simp),HP.out⟩
theorem mload_nil{w:World}{cv:Value}(hN:NoCore w cv){pc:List Value}(hpc:pc.length=35)(hop:∀u∈pc,u.oneCell'=true)(n:Int):Calls Tryz.prog 10 #[cv,.agg pc.toArray,.int .i64 n] w (aF w (.tuple #[.slice none 0 0,.int .i64 1])):=by
 have HN:=O hN;have HOP:=O hop;clear hN hop;have HL:=O (Loc.nil aB aB w);go_enter Tryz.func10,Tryz.ntmps10
 go_wp2_with (first
  | ((with_reducible show WL (some 4) (.box 26 _));refine bx 26 (.tmp 1) (pc.toArray) ?_))
 intro b4 w1 hbs hk hb;replace HL:=O (HL.out.new (fun _ h=>h.elim) hbs hk hb);replace HN:=O (NoCore.keep0 HN.out hk);clear hbs hk hb;go_wp2_with fail;refine((copies_nil HN.out)).mono ?_;rintro e w2 ⟨rfl,hk⟩;replace HL:=O (HL.out.keeps hk);replace HN:=O (NoCore.keep0 HN.out hk);clear hk;go_wp2_with fail
 go_ret2
 exact aF.of HL.out.keep
end
section
open Go.RowKit Go.Maps Go.ChangeMaps
theorem iY.one{S:Kor}{p:Pt}{lv lv':Nat}{b b':List UInt8}(h:iY S p lv b)(h':iY S p lv' b'):b=b':=by
 obtain⟨a,ha⟩:=List.exists_mem_of_ne_nil _ h.ne;rw[←(h.lies a ha).2.2,(h'.lies a ha).2.2]
end
section
open Go.ChangeShapes Go.WideShapes Go.ChangeAt Go.RowKit
theorem laidOut:laidOutB Tryz.prog=true:=by kernel_rfl
structure XAct where
 kind:Int
 dev:Int
 pos:Int
 n:Int
 mask:Int
 ba:Option Addr
 bn:Nat
 bc:Nat
 ka:Option Addr
 kn:Nat
 kc:Nat
def xCs(x:XAct):List Value:=[.int .i64 x.kind,.int .i64 x.dev,.int .i64 x.pos,.int .i64 x.n,.int .u8 x.mask,.slice x.ba x.bn x.bc,.slice x.ka x.kn x.kc]
theorem xCs_one(x:XAct):∀u∈xCs x,u.oneCell'=true:=by
 intro u hu;simp only[xCs,List.mem_cons,List.not_mem_nil,or_false] at hu;rcases hu with rfl|rfl|rfl|rfl|rfl|rfl|rfl<;>rfl
structure NAct where
 kind:Int
 n:Int
 wh:Int
 raw:Bool
 pa:Option Addr
 pn:Nat
 pc:Nat
 pt:List Value
 ba:Option Addr
 bn:Nat
 bc:Nat
 x:XAct
def NAct.p(a:NAct):List Value:=.slice a.pa a.pn a.pc::a.pt
def NAct.Ok(a:NAct):Prop:=a.pt.length=34/\∀u∈a.pt,u.oneCell'=true
theorem NAct.Ok.len{a:NAct}(h:a.Ok):a.p.length=35:=by show a.pt.length+1=35;rw[h.1]
theorem NAct.Ok.one{a:NAct}(h:a.Ok):∀u∈a.p,u.oneCell'=true:=by
 intro u hu;rcases List.mem_cons.1 hu with rfl|hu
 ·rfl
 ·exact h.2 u hu
def nHead(a:NAct):List Value:=[.int .i64 a.kind,.int .i64 a.n,.int .i64 a.wh,.bool a.raw]
def nCs(a:NAct):List Value:=nHead a++(a.p++(.slice a.ba a.bn a.bc::xCs a.x))
theorem nCs_len{a:NAct}(h:a.Ok):(nCs a).length=47:=by
 unfold nCs;rw[List.length_append,List.length_append,h.len];rfl
theorem nCs_one{a:NAct}(h:a.Ok):∀u∈nCs a,u.oneCell'=true:=by
 intro u hu;rcases List.mem_append.1 hu with hu|hu
 ·simp only[nHead,List.mem_cons,List.not_mem_nil,or_false] at hu
  rcases hu with rfl|rfl|rfl|rfl<;>rfl
 ·rcases List.mem_append.1 hu with hu|hu
  ·exact h.one u hu
  ·rcases List.mem_cons.1 hu with rfl|hu
   ·rfl
   ·exact xCs_one a.x u hu
theorem cut_to{cs l:List Value}{o k:Nat}(m:Nat)(h:(cs.drop o).take k=l)(hm:o+k=m):cs.drop o=l++cs.drop m:=by
 rw[←h,←hm,←List.drop_drop];exact(List.take_append_drop k (cs.drop o)).symm
section
variable {H:Type}{enc:TypeId×Value->H}{w:World}{base:Nat}{spare:Nat->Bool}{held:Bool}{fuel:Nat}
theorem fld_of{t:TypeId}{cs:List Value}{x:DataW H×List MemPlace}{fs:List (String×TypeId×Nat)}(hu:Tryz.prog.underlying t=some (.struct (Tryz.prog.fieldsOf t)))
 (hF:(Tryz.prog.fieldsOf t).toList.map (fun f=>(f.name,f.type,f.offset))=fs) (h:DataW.trod enc Tryz.prog w base spare held fuel t cs=some x) :
 cs.length=Tryz.prog.cellsOf t/\∃m,∀(i:Nat) (n:String) (u:TypeId) (o:Nat),fs[i]?=some (n,u,o)->∃y,DataW.trod enc Tryz.prog w base spare held m u ((cs.drop o).take (Tryz.prog.cellsOf u))=some y:=by
 obtain⟨xs,m,-,-,hl,hx,hf⟩:=DataW.trod_struct hu h;refine⟨hl,m,fun i n u o h2=>?_⟩;rw[←hF,List.getElem?_map] at h2;obtain⟨f,hf1,hf2⟩:=Option.map_eq_some_iff.1 h2;have h3:=hf i f (by simpa using hf1);cases hf2
 have hi:i<xs.length:=by
  have:=(List.getElem?_eq_some_iff.1 hf1).1;rw[hx];simpa using this
 rw[List.getElem?_eq_getElem hi] at h3;exact⟨_,h3⟩
theorem cInt:Tryz.prog.cellsOf 3=1:=by kernel_rfl
theorem cU8:Tryz.prog.cellsOf 5=1:=by kernel_rfl
theorem cBool:Tryz.prog.cellsOf 4=1:=by kernel_rfl
theorem cSB:Tryz.prog.cellsOf 27=1:=by kernel_rfl
theorem cSO:Tryz.prog.cellsOf 28=1:=by kernel_rfl
theorem cSA:Tryz.prog.cellsOf 22=1:=by kernel_rfl
theorem cID:Tryz.prog.cellsOf 24=32:=by kernel_rfl
theorem cPt:Tryz.prog.cellsOf 26=35:=by kernel_rfl
theorem zcX9:Tryz.prog.cellsOf 30=7:=by kernel_rfl
theorem zcN9:Tryz.prog.cellsOf 32=47:=by kernel_rfl
theorem uPt:Tryz.prog.underlying 26=some (.struct (Tryz.prog.fieldsOf 26)):=by kernel_rfl
theorem zuX9:Tryz.prog.underlying 30=some (.struct (Tryz.prog.fieldsOf 30)):=by kernel_rfl
theorem uN:Tryz.prog.underlying 32=some (.struct (Tryz.prog.fieldsOf 32)):=by kernel_rfl
theorem fPt : (Tryz.prog.fieldsOf 26).toList.map (fun f => (f.name, f.type, f.offset)) = [("Addrs", 22, 0), ("Birth", 3, 1), ("Level", 3, 2), ("Sum", 24, 3)] := by kernel_rfl
theorem zfX9 : (Tryz.prog.fieldsOf 30).toList.map (fun f => (f.name, f.type, f.offset)) = [("Kind", 3, 0), ("Dev", 3, 1), ("At", 3, 2), ("N", 3, 3), ("Mask", 5, 4), ("B", 27, 5), ("Keep", 28, 6)] := by kernel_rfl
theorem zfN9 : (Tryz.prog.fieldsOf 32).toList.map (fun f => (f.name, f.type, f.offset)) = [("Kind", 3, 0), ("N", 3, 1), ("Which", 3, 2), ("Raw", 4, 3), ("P", 26, 4), ("B", 27, 39), ("X", 30, 40)] := by kernel_rfl
theorem intc_of{cs:List Value}{x:DataW H×List MemPlace}(h:DataW.trod enc Tryz.prog w base spare held fuel 3 cs=some x):∃a:Int,cs=[.int .i64 a]:=by
 obtain⟨a,e0,-,-⟩:=DataW.trod_int Tryz.underlying3 h;exact⟨a,e0⟩
theorem bytec_of{cs:List Value}{x:DataW H×List MemPlace}(h:DataW.trod enc Tryz.prog w base spare held fuel 5 cs=some x):∃a:Int,cs=[.int .u8 a]:=by
 obtain⟨a,e0,-,-⟩:=DataW.trod_int Tryz.underlying5 h;exact⟨a,e0⟩
theorem boolc_of{cs:List Value}{x:DataW H×List MemPlace}(h:DataW.trod enc Tryz.prog w base spare held fuel 4 cs=some x):∃a:Bool,cs=[.bool a]:=by
 obtain⟨a,e0,-⟩:=DataW.trod_bool Tryz.underlying4 h;exact⟨a,e0⟩
theorem idc_of{cs:List Value}{x:DataW H×List MemPlace}(h:DataW.trod enc Tryz.prog w base spare held fuel 24 cs=some x):cs.length=32/\∀u∈cs,u.oneCell'=true:=by
 obtain⟨xs,m,-,-,hl,hx,he⟩:=DataW.trod_array Tryz.underlying24 h;rw[cID] at hl;refine⟨hl,fun u hu=>?_⟩;obtain⟨i,hi⟩:=List.getElem?_of_mem hu;have hi32:i<32:=by have:=(List.getElem?_eq_some_iff.1 hi).1;omega
 have h1:=he i hi32;rw[cU8,Nat.mul_one] at h1;obtain⟨y,hy⟩:∃y,xs[i]?=some y:=⟨xs[i]'(by omega),List.getElem?_eq_getElem _⟩
 rw[hy] at h1;obtain⟨b,hb⟩:=bytec_of h1;have:((cs.drop i).take 1)[0]?=some (.int .u8 b):=by rw[hb];rfl
 rw[List.getElem?_take,if_pos (by omega),List.getElem?_drop,Nat.add_zero,hi] at this;cases this
 rfl
theorem ptc_of{cs:List Value}{x:DataW H×List MemPlace}(h:DataW.trod enc Tryz.prog w base spare held fuel 26 cs=some x):∃a n c pt,cs=.slice a n c::pt/\pt.length=34/\∀u∈pt,u.oneCell'=true:=by
 obtain⟨hl,m,hf⟩:=fld_of uPt fPt h;rw[cPt] at hl;obtain⟨_,h0⟩:=hf 0 _ _ _ rfl;obtain⟨_,h1⟩:=hf 1 _ _ _ rfl;obtain⟨_,h2⟩:=hf 2 _ _ _ rfl;obtain⟨_,h3⟩:=hf 3 _ _ _ rfl;obtain⟨a,n,c,e0⟩:=Go.Joins.slice_form Tryz.underlying22 h0;obtain⟨b,e1⟩:=intc_of h1;obtain⟨d,e2⟩:=intc_of h2;obtain⟨l3,o3⟩:=idc_of h3;rw[cSA] at e0;rw[cInt] at e1 e2;rw[cID] at l3 o3
 have e:cs=.slice a n c::(.int .i64 b::.int .i64 d::(cs.drop 3).take 32):=by
  have q0:=cut_to 1 e0 rfl;rw[cut_to 2 e1 rfl,cut_to 3 e2 rfl,cut_to 35 (rfl:(cs.drop 3).take 32=_) rfl,List.drop_eq_nil_of_le (i:=35) (by omega),List.append_nil] at q0;exact q0
 refine⟨a,n,c,_,e,?_,fun u hu=>?_⟩
 ·show ((cs.drop 3).take 32).length+1+1=34
  rw[l3]
 ·rcases List.mem_cons.1 hu with rfl|hu
  ·rfl
  ·rcases List.mem_cons.1 hu with rfl|hu
   ·rfl
   ·exact o3 u hu
theorem xact_of{cs:List Value}{x:DataW H×List MemPlace}(h:DataW.trod enc Tryz.prog w base spare held fuel 30 cs=some x):∃a,cs=xCs a:=by
 obtain⟨hl,m,hf⟩:=fld_of zuX9 zfX9 h;rw[zcX9] at hl;obtain⟨_,h0⟩:=hf 0 _ _ _ rfl;obtain⟨_,h1⟩:=hf 1 _ _ _ rfl;obtain⟨_,h2⟩:=hf 2 _ _ _ rfl;obtain⟨_,h3⟩:=hf 3 _ _ _ rfl;obtain⟨_,h4⟩:=hf 4 _ _ _ rfl;obtain⟨_,h5⟩:=hf 5 _ _ _ rfl;obtain⟨_,h6⟩:=hf 6 _ _ _ rfl;obtain⟨a0,e0⟩:=intc_of h0;obtain⟨a1,e1⟩:=intc_of h1;obtain⟨a2,e2⟩:=intc_of h2;obtain⟨a3,e3⟩:=intc_of h3;obtain⟨a4,e4⟩:=bytec_of h4;obtain⟨b0,b1,b2,e5⟩:=Go.Joins.slice_form Tryz.underlying27 h5;obtain⟨k0,k1,k2,e6⟩:=Go.Joins.slice_form Tryz.underlying28 h6;rw[cInt] at e0 e1 e2 e3;rw[cU8] at e4;rw[cSB] at e5;rw[cSO] at e6;refine⟨⟨a0,a1,a2,a3,a4,b0,b1,b2,k0,k1,k2⟩,?_⟩;have q0:=cut_to 1 e0 rfl;rw[cut_to 2 e1 rfl,cut_to 3 e2 rfl,cut_to 4 e3 rfl,cut_to 5 e4 rfl,cut_to 6 e5 rfl,cut_to 7 e6 rfl,List.drop_eq_nil_of_le (i:=7) (by omega)] at q0;exact q0
theorem nact_of{cs:List Value}{x:DataW H×List MemPlace}(h:DataW.trod enc Tryz.prog w base spare held fuel 32 cs=some x):∃a:NAct,a.Ok/\cs=nCs a:=by
 obtain⟨hl,m,hf⟩:=fld_of uN zfN9 h;rw[zcN9] at hl;obtain⟨_,h0⟩:=hf 0 _ _ _ rfl;obtain⟨_,h1⟩:=hf 1 _ _ _ rfl;obtain⟨_,h3⟩:=hf 2 _ _ _ rfl;obtain⟨_,h5⟩:=hf 3 _ _ _ rfl;obtain⟨_,h6⟩:=hf 4 _ _ _ rfl;obtain⟨_,h7⟩:=hf 5 _ _ _ rfl;obtain⟨_,h8⟩:=hf 6 _ _ _ rfl;obtain⟨a0,e0⟩:=intc_of h0;obtain⟨a1,e1⟩:=intc_of h1;obtain⟨a3,e3⟩:=intc_of h3;obtain⟨a5,e5⟩:=boolc_of h5;obtain⟨p0,p1,p2,pt,e6,hp1,hp2⟩:=ptc_of h6;obtain⟨b0,b1,b2,e7⟩:=Go.Joins.slice_form Tryz.underlying27 h7;obtain⟨a8,e8⟩:=xact_of h8;rw[cInt] at e0 e1 e3;rw[cBool] at e5;rw[cPt] at e6;rw[cSB] at e7;rw[zcX9] at e8;refine⟨⟨a0,a1,a3,a5,p0,p1,p2,pt,b0,b1,b2,a8⟩,⟨hp1,hp2⟩,?_⟩;have q0:=cut_to 1 e0 rfl;rw[cut_to 2 e1 rfl,cut_to 3 e3 rfl,cut_to 4 e5 rfl,cut_to 39 e6 rfl,cut_to 40 e7 rfl,cut_to 47 e8 rfl,List.drop_eq_nil_of_le (i:=47) (by omega),List.append_nil] at q0;exact q0
end
end
section
open Go.RowKit
theorem flatMap_at{α:Type}{f:α->List Value}{k:Nat}:∀{l:List α},(∀y∈l,(f y).length=k)->∀(i:Nat){y:α},l[i]?=some y->∀j,j<k->(l.flatMap f)[i*k+j]?=(f y)[j]?
 | [],_,_,_,hy,_,_=>by simp at hy
 | x::l,h,0,y,hy,j,hj=>by
   have e:x=y:=by simpa using hy
   subst e;rw[List.flatMap_cons,Nat.zero_mul,Nat.zero_add,List.getElem?_append_left (by rw[h x (List.mem_cons_self ..)];exact hj)]
 | x::l,h,i+1,y,hy,j,hj=>by
   rw[List.flatMap_cons,List.getElem?_append_right (by rw[h x (List.mem_cons_self ..),Nat.succ_mul];omega),h x (List.mem_cons_self ..),show (i+1)*k+j-k=i*k+j by rw[Nat.succ_mul];omega];exact flatMap_at (fun y hy=>h y (List.mem_cons_of_mem _ hy)) i (by simpa using hy) j hj
theorem rd_row{α:Type}{f:α->List Value}{s:Nat}{w:World}{v:Value}{l:List α}(hf:∀y∈l,(f y).length=s)(hs:0<s)(h:Rd w s v l.length (l.flatMap f)){k:Nat}{x:α}(hk:l[k]?=some x) :
 ∃g o cap,v=.slice (some ⟨g,o,none⟩) l.length cap/\∀j u,(f x)[j]?=some u->w.cell? ⟨g,o+k*s+j,none⟩=some u:=by
 obtain⟨h0,a,cap,rfl,h1,h2,h3,h4⟩:=h;have hlt:=(List.getElem?_eq_some_iff.1 hk).1;have hpos:0<l.length*s:=Nat.mul_pos (by omega) hs;obtain⟨g,o,rfl,hc⟩:=h4 (by rw[h0];exact hpos);refine⟨g,o,cap,rfl,fun j u hj=>?_⟩;have hj5:j<s:=by have:=(List.getElem?_eq_some_iff.1 hj).1;rwa [hf x (List.mem_of_getElem? hk)] at this
 have h5:=flatMap_at (f:=f) (k:=s) (l:=l) hf k hk j hj5;rw[hj] at h5;have:=hc (k*s+j) u h5
 rwa [←Nat.add_assoc] at this
theorem nCs_far{a:NAct}(h:a.Ok)(j:Nat):(nCs a)[39+j]?=(.slice a.ba a.bn a.bc::xCs a.x:List Value)[j]?:=by
 unfold nCs;rw[List.getElem?_append_right (by show 4≤_;omega),List.getElem?_append_right (by rw[h.len];show 35≤39+j-4;omega),h.len]
 congr 1
 show 39+j-4-35=j;omega
def xRow(l:List XAct):List Value:=l.flatMap xCs
def nRow(l:List NAct):List Value:=l.flatMap nCs
def NOk(l:List NAct):Prop:=∀a∈l,a.Ok
def BoolK(w:World)(e:Ending)(w':World):Prop:=(∃b,e=.returned (.bool b))/\aA aB w w'
def LongPost(w:World)(l:List NAct)(e:Ending)(w':World):Prop:=(∃b,e=.returned (.bool b)/\(b=false->l.length≤16/\∀a∈l,a.pn≤20/\a.bn≤17000))/\aA aB w w'
theorem infoX:(Tryz.prog.info? 30).map (fun i=>(i.zero,i.size,i.bytes))=some (some (.agg (xCs ⟨0,0,0,0,0,none,0,0,none,0,0⟩).toArray),7,88):=by kernel_rfl
theorem szX:(Tryz.prog.info? 30).map (·.size)=some 7:=by kernel_rfl
theorem long15_any(w:World)(v:Value)(l:List XAct)(hr:Rd w 7 v l.length (xRow l)):Calls Tryz.prog 25 #[v] w (BoolK w):=by
 obtain⟨oa,ca,rfl,hlc,hcm⟩:=hr.form;have hlm:l.length≤maxLen:=by omega
 unfold maxLen at hlm;obtain⟨n,hn⟩:∃n,l.length=n:=⟨_,rfl⟩
 have HN:=O hn;have HR:=O hr;rw[hn] at HR hlm ⊢;clear hr hn hlc hcm;go_enter Tryz.func25,Tryz.ntmps25;go_wp2_with fail
 go_loopw [3] (fun t wr=>∃k:Nat,k≤n/\t=.int .i64 k/\wr=w) (fun t _=>n-(intOf t).toNat)
 case atStart=>exact⟨0,Nat.zero_le _,rfl,rfl⟩
 case round =>
 obtain⟨k,hk,rfl,rfl⟩:=hrel
 by_cases hlt:k<n
 ·have hki:(k:Int)<(n:Int):=by omega
  have hk0:(0:Int)≤(k:Int):=by omega
  by_cases h101:k<101
  ·have hj:(k:Int)<(101:Int):=by omega
   have d0:decide ((k:Int)<(101:Int))=true:=decide_eq_true hj;obtain⟨x,hx⟩:∃x,l[k]?=some x:=⟨l[k]'(by rw[HN.out];exact hlt),List.getElem?_eq_getElem _⟩
   have hr2:=HR.out;rw[←HN.out] at hr2;obtain⟨g,o,cap,hv,hc⟩:=rd_row (f:=xCs) (fun _ _=>rfl) (by omega) hr2 hx;rw[HN.out] at hv;have e1:oa=some ⟨g,o,none⟩:=by cases hv;rfl
   subst e1;have h5:=hc 5 _ rfl;have h6:=hc 6 _ rfl;clear hr2 hv hc hx;obtain⟨p,hp⟩:∃q,x.bn=q:=⟨_,rfl⟩
   obtain⟨q,hq⟩:∃q,x.kn=q:=⟨_,rfl⟩
   rw[hp] at h5;rw[hq] at h6;clear hp hq
   by_cases h3:300<p
   ·have hi:(300:Int)<(p:Int):=by omega
    have d1:decide ((300:Int)<(p:Int))=true:=decide_eq_true hi;go_wp2_with fail;go_ret;exact⟨⟨_,rfl⟩,aA.refl _ _⟩
   ·have hi:¬(300:Int)<(p:Int):=by omega
    have d1:decide ((300:Int)<(p:Int))=false:=decide_eq_false hi
    by_cases h4:200<q
    ·have hj2:(200:Int)<(q:Int):=by omega
     have d2:decide ((200:Int)<(q:Int))=true:=decide_eq_true hj2;go_wp2_with fail;go_ret;exact⟨⟨_,rfl⟩,aA.refl _ _⟩
    ·have hj2:¬(200:Int)<(q:Int):=by omega
     have d2:decide ((200:Int)<(q:Int))=false:=decide_eq_false hj2;go_wp2_with fail
     go_roundw
     case rel=>exact⟨k+1,by omega,by go_num,trivial⟩
     case measure=>simp[intOf];omega
  ·have hj:¬(k:Int)<(101:Int):=by omega
   have d0:decide ((k:Int)<(101:Int))=false:=decide_eq_false hj
   by_cases h60:100<n
   ·have hi:(100:Int)<(n:Int):=by omega
    have d1:decide ((100:Int)<(n:Int))=true:=decide_eq_true hi;go_wp2_with fail;go_ret;exact⟨⟨_,rfl⟩,aA.refl _ _⟩
   ·exact absurd hlt (by omega)
 ·obtain rfl:n=k:=by omega
  by_cases h60:100<n
  ·have hi:(100:Int)<(n:Int):=by omega
   have d1:decide ((100:Int)<(n:Int))=true:=decide_eq_true hi;go_wp2_with fail;go_ret;exact⟨⟨_,rfl⟩,aA.refl _ _⟩
  ·have hi:¬(100:Int)<(n:Int):=by omega
   have d1:decide ((100:Int)<(n:Int))=false:=decide_eq_false hi;go_wp2_with fail;go_ret;exact⟨⟨_,rfl⟩,aA.refl _ _⟩
theorem long21_any(w:World)(v:Value)(l:List NAct)(ho:NOk l)(hr:Rd w 47 v l.length (nRow l)):Calls Tryz.prog 7 #[v] w (LongPost w l):=by
 obtain⟨oa,ca,rfl,hlc,hcm⟩:=hr.form;have hlm:l.length≤maxLen:=by omega
 unfold maxLen at hlm;obtain⟨n,hn⟩:∃n,l.length=n:=⟨_,rfl⟩
 have HN:=O hn;have HR:=O hr;have HOK:=O ho;rw[hn] at HR hlm ⊢;clear hr hn hlc hcm ho;go_enter Tryz.func7,Tryz.ntmps7;go_wp2_with fail
 go_loopw [3,4] (fun s t wr=>∃(k:Nat) (pa:Option Addr) (pc:Nat),k≤n/\k≤17/\s=.slice pa k pc/\t=.int .i64 k/\Hid (wr.ownsRow w.heap.size 30 7 (.slice pa k pc) k (xRow ((l.take k).map (·.x))))/\Hid (aA aB w wr)/\Hid (∀a∈l.take k,a.pn≤20/\a.bn≤17000)) (fun _ t _=>n-(intOf t).toNat)
 case atStart=>exact⟨0,none,0,Nat.zero_le _,by omega,rfl,rfl,O (World.ownsRow_nil _ _ _ _),O (aA.refl _ _),O (by simp)⟩
 case round =>
 obtain⟨k,pa,pc,hk,hk17,rfl,rfl,HO,HK,HS⟩:=hrel;have hsz:=HK.out.size
 by_cases hlt:k<n
 ·have hki:(k:Int)<(n:Int):=by omega
  have hk0:(0:Int)≤(k:Int):=by omega
  by_cases h17:k<17
  ·have hj:(k:Int)<(17:Int):=by omega
   have d0:decide ((k:Int)<(17:Int))=true:=decide_eq_true hj;obtain⟨x,hx⟩:∃x,l[k]?=some x:=⟨l[k]'(by rw[HN.out];exact hlt),List.getElem?_eq_getElem _⟩
   have hxo:=HOK.out x (List.mem_of_getElem? hx);have hr2:=HR.out;rw[←HN.out] at hr2;obtain⟨g,o,cap,hv,hc⟩:=rd_row (f:=nCs) (fun y hy=>nCs_len (HOK.out y hy)) (by omega) (hr2.keep HK.out fun _ _=>id) hx;rw[HN.out] at hv;have e1:oa=some ⟨g,o,none⟩:=by cases hv;rfl
   subst e1;have h6:=hc 4 (.slice x.pa x.pn x.pc) rfl;have h7:=hc 39 (.slice x.ba x.bn x.bc) (nCs_far hxo 0)
   have h8:wr.rangeAt g (o+k*47+40) (xCs x.x):=fun j u hj=>by
    have:=hc (39+(j+1)) u (by rw[nCs_far hxo (j+1)];exact hj)
    rwa [show o+k*47+(39+(j+1))=o+k*47+40+j by omega] at this
   have HXR:=O h8;have HX:=O hx;clear hr2 hv hc hx h8 hxo;obtain⟨p,hp⟩:∃q,x.pn=q:=⟨_,rfl⟩
   obtain⟨q,hq⟩:∃q,x.bn=q:=⟨_,rfl⟩
   rw[hp] at h6;rw[hq] at h7;have HP:=O hp;have HQ:=O hq;clear hp hq
   by_cases h3:20<p
   ·have hi:(20:Int)<(p:Int):=by omega
    have d1:decide ((20:Int)<(p:Int))=true:=decide_eq_true hi;go_wp2_with fail;go_ret;exact⟨⟨_,rfl,fun h=>by cases h⟩,HK.out⟩
   ·have hi:¬(20:Int)<(p:Int):=by omega
    have d1:decide ((20:Int)<(p:Int))=false:=decide_eq_false hi
    by_cases h4:17000<q
    ·have hj2:(17000:Int)<(q:Int):=by omega
     have d2:decide ((17000:Int)<(q:Int))=true:=decide_eq_true hj2;go_wp2_with fail;go_ret;exact⟨⟨_,rfl,fun h=>by cases h⟩,HK.out⟩
    ·have hj2:¬(17000:Int)<(q:Int):=by omega
     have d2:decide ((17000:Int)<(q:Int))=false:=decide_eq_false hj2;have HOX:Hid (∀u∈xCs x.x,u.oneCell'=true):=O (xCs_one x.x);obtain⟨we,hwe,hke,hbe,-⟩:=aR wr (xCs x.x).toArray 30;obtain⟨bx,hbx⟩:∃x,wr.heap.size=x:=⟨_,rfl⟩
     rw[hbx] at hbe;have HRN:Hid (Rd we 7 (.slice (some ⟨bx,0,none⟩) 1 1) 1 (xCs x.x)):=O (cE (n:=1) (size:=7) hbe rfl (by unfold maxLen;omega));have HO_:=O (hke.owns HO.out fun _ _=>id);have hsz_:=hke.size;have HKE:=O hke;clear hbe hke
     go_wp2_with (first
      | ((with_reducible show WL (some 37) (.load _ _));refine wpList_load_mid rfl 30 (.tmp 36) rfl g (o+k*47+40) rfl (xCs x.x) _ HXR.out zuX9 rfl (by exact szX) ?_)
      | ((with_reducible show WL _ (.buildSlice _ 1 _));refine bK rfl 72 30 (.tmp 37) rfl Tryz.underlying72 infoX (by decide) (xCs x.x) rfl (by decide) rfl ?_;rw[hwe,hbx])
      | (at_builtin;refine aH rfl (.tmp 32) (.tmp 38) 72 rfl w.heap.size 30 (.agg (xCs ⟨0,0,0,0,0,none,0,0,none,0,0⟩).toArray) 7 88 Tryz.underlying72 infoX rfl (by decide) (.slice pa k pc) k (xRow ((l.take k).map (·.x))) rfl HO_.out (.slice (some ⟨bx,0,none⟩) 1 1) 1 (xCs x.x) rfl HRN.out HOX.out (by unfold maxLen;omega) (by omega) (by omega) ?_))
     intro v2 w8 ho5 hk5 hn5 hb5;obtain⟨gq,cq,rfl⟩:=ownsRow_succ ho5;have HO5:=O ho5;have HK5:Hid (aA aB w w8):=O ((HK.out.trans HKE.out).trans' hk5 (fun _ _ h=>h) fun i hi e=>absurd (aS HO_.out e) (by omega));clear hwe hbx hn5 HRN HO_ ho5 hk5 hb5 HKE hsz_;go_wp2_with fail
     go_roundw
     case rel=>exact⟨k+1,some ⟨gq,0,none⟩,cq,by omega,by omega,by rfl,by go_num,by rw[List.take_add_one,HX.out,List.map_append];unfold xRow;rw[List.flatMap_append];show Hid (World.ownsRow _ _ _ _ _ _ (_++(xCs x.x++[])));rw[List.append_nil,List.map_take];exact HO5,HK5,O (fun a ha=>by
      rw[List.take_add_one,HX.out] at ha;rcases List.mem_append.1 ha with ha|ha
      ·exact HS.out a ha
      ·cases List.mem_singleton.1 ha
       rw[HP.out,HQ.out];omega)⟩
     case measure=>simp[intOf];omega
  ·have hj:¬(k:Int)<(17:Int):=by omega
   have d0:decide ((k:Int)<(17:Int))=false:=decide_eq_false hj;have hi:(16:Int)<(n:Int):=by omega
   have d1:decide ((16:Int)<(n:Int))=true:=decide_eq_true hi;go_wp2_with fail;go_ret;exact⟨⟨_,rfl,fun h=>by cases h⟩,HK.out⟩
 ·obtain rfl:n=k:=by omega
  have HS2:Hid (∀a∈l,a.pn≤20/\a.bn≤17000):=O (by have:=HS.out;rwa [List.take_of_length_le (by rw[HN.out];exact Nat.le_refl _)] at this)
  by_cases h60:16<n
  ·have hi:(16:Int)<(n:Int):=by omega
   have d1:decide ((16:Int)<(n:Int))=true:=decide_eq_true hi;go_wp2_with fail;go_ret;exact⟨⟨_,rfl,fun h=>by cases h⟩,HK.out⟩
  ·have hi:¬(16:Int)<(n:Int):=by omega
   have d1:decide ((16:Int)<(n:Int))=false:=decide_eq_false hi
   have HC:Hid (Calls Tryz.prog 25 #[.slice pa n pc] wr (BoolK wr)):=O (long15_any wr _ (l.map (·.x)) (by
    have h:=Rd.of_owns HO.out;rw[List.take_of_length_le (by rw[HN.out];exact Nat.le_refl _)] at h
    rwa [List.length_map,HN.out]))
   clear HO HS;go_wp2_with fail;refine HC.out.mono ?_;rintro e w2 ⟨⟨b,rfl⟩,hk2⟩;have HK2:=O (HK.out.trans hk2);clear hk2 HC HK;go_wp2_with fail;go_ret;exact⟨⟨b,rfl,fun _=>⟨by rw[HN.out];omega,HS2.out⟩⟩,HK2.out⟩
end
section
open Go.RowKit Go.Maps Go.ChangeMaps
theorem bs2{P:Program}{w:World}{ops:Array Oper}{rest:List Oper}{o:Oper}{a:Act}{Q:Exit->Act->World->Prop}(t e:TypeId)(x y:Operand)(u v:Value)(hsz:(P.info? e).map (·.size)=some 1)(hz:((P.info? e).bind (·.zero)).isSome=true)(hu:P.underlying t=some (.slice e))(h1:u.cells=#[u])(h2:v.cells=#[v])
 (h:∀b w',w.heap.size=b->aA aB w w'->w'.heap[b]?=some (.cells #[u,v] e (0,0))->wpList P ops Q rest (a.put o.dst (.slice (some ⟨b,0,none⟩) 2 2)) w') (hx:a.eval x=u:=by rfl) (hy:a.eval y=v:=by rfl) (hg:o.guard=none:=by rfl) (ho:o.op=.buildSlice t 2 #[(0,x),(1,y)]:=by rfl):wpList P ops Q (o::rest) a w:=by
 cases hie:P.info? e with
 | none=>simp[hie] at hsz
 | some ie =>
   simp only[hie,Option.map_some,Option.some.injEq,Option.bind_some] at hsz hz;obtain⟨z,hzz⟩:=Option.isSome_iff_exists.1 hz;refine wpList_buildSlice hg t e 2 _ ho #[u,v] ie z hu hie hzz (by rw[hsz];omega) (by rw[hsz];omega) ?_ (h _ _ rfl ((aA.refl _ _).alloc _) (heap_alloc_new _ _));rw[hsz];have e1:((#[((0:Nat),x),(1,y)]:Array (Nat×Operand)).map fun(i,x)=>(i,a.eval x)).toList=([u,v].zipIdx 0).map fun x=>(x.2,x.1):=by simp[hx,hy]
   rw[e1];exact Great.fill_flat [u,v] _ (fun q hq=>by rcases List.mem_cons.1 hq with rfl|hq;exact h1;rcases List.mem_singleton.1 hq with rfl;exact h2) (by simp)
def zcCore:List Value:=.pointer none::.pointer none::(dU.map vb++(.int .i64 0::.slice none 0 0::.pointer none::.slice none 0 0::.slice none 0 0::kX 0))
theorem buildCore0(w:World):(Instr.build tP #[]).run Tryz.prog w=.ok (.agg zcCore.toArray) w:=by kernel_rfl
theorem infoN:(Tryz.prog.info? 32).map (fun i=>(i.zero,i.size,i.bytes))=some (some (.agg (nCs ⟨0,0,0,false,none,0,0,.int .i64 0::.int .i64 0::dU.map vb,none,0,0,⟨0,0,0,0,0,none,0,0,none,0,0⟩⟩).toArray),47,216):=by kernel_rfl
theorem szAct:(Tryz.prog.info? 32).map (·.size)=some 47:=by kernel_rfl
theorem rangeAt_sub{w:World}{b o:Nat}{cs ps:List Value}{t:TypeId}{fr:Nat×Nat}(hb:w.heap[b]?=some (.cells cs.toArray t fr))(h:∀j u,ps[j]?=some u->cs.toArray[o+j]?=some u):w.rangeAt b o ps:=fun j u hj=>aC hb (h j u hj)
theorem metaNone_walk(a:NAct)(ha:a.Ok)(w:World):Calls Tryz.prog 3 #[.agg (nCs a).toArray] w (JS w):=by
 have h6:∀j u,a.p[j]?=some u->(nCs a).toArray[4+j]?=some u:=fun j u hj=>by
  have hl:j<a.p.length:=(List.getElem?_eq_some_iff.1 hj).1;rw[List.getElem?_toArray];unfold nCs;rw[List.getElem?_append_right (by show 4≤_;omega),List.getElem?_append_left (by show 4+j-4<_;omega),show 4+j-(nHead a).length=j by show 4+j-4=j;omega];exact hj
 have h41:(nCs a).toArray[39]?=some (.slice a.ba a.bn a.bc):=by rw[List.getElem?_toArray];exact nCs_far ha 0
 have h1:(nCs a).toArray[1]?=some (.int .i64 a.n):=rfl;have hnc:=nCs_len ha;have hno:=nCs_one ha;have hpc:=ha.len;have hpo:=ha.one;have hcl:nRow [a]=nCs a:=by show nCs a++[]=_;exact List.append_nil _
 have HAL:Hid (NOk [a]):=O (fun y hy=>by cases List.mem_singleton.1 hy;exact ha);obtain⟨pc,hpe⟩:∃x,a.p=x:=⟨_,rfl⟩
 obtain⟨nc,hne⟩:∃x,nCs a=x:=⟨_,rfl⟩
 obtain⟨n,hn⟩:∃x,a.n=x:=⟨_,rfl⟩
 obtain⟨ba,hba⟩:∃x,a.ba=x:=⟨_,rfl⟩
 obtain⟨bn,hbn⟩:∃x,a.bn=x:=⟨_,rfl⟩
 obtain⟨bc,hbc⟩:∃x,a.bc=x:=⟨_,rfl⟩
 rw[hpe,hne] at h6;rw[hne,hba,hbn,hbc] at h41;rw[hne,hn] at h1;rw[hne] at hnc hno hcl ⊢;rw[hpe] at hpc hpo;have H6:=O h6;have H41:=O h41;have H1:=O h1;have HON:=O hno;have HOP:=O hpo;have HCL:=O hcl;clear ha hpe hne hn hba hbn hbc h6 h41 h1 hno hpo hcl;obtain⟨zc,hzce⟩:∃x,zcCore=x:=⟨_,rfl⟩
 have HZB2:Hid (∀w,(Instr.build tP #[]).run Tryz.prog w=.ok (.agg zc.toArray) w):=O (by rw[←hzce];exact buildCore0);have hzc:zc.length=109:=by rw[←hzce];rfl
 have HZ0:Hid (zc.toArray[0]?=some (.pointer none)):=O (by rw[←hzce];rfl);have HOZC:Hid (∀u∈zc,u.oneCell'=true):=O (by rw[←hzce];exact of_decide_eq_true (by kernel_rfl));clear hzce;have hzp:(aE (.slice none 0 0) zPt).length=35:=rfl;have hzb:=iO;obtain⟨zp,hzpe⟩:∃l,aE (.slice none 0 0) zPt=l:=⟨_,rfl⟩
 have HOZP:Hid (∀u∈zp,u.oneCell'=true):=O (by rw[←hzpe];exact bP zPt);have HZPE:=O hzpe;rw[hzpe] at hzp hzb;have HZB:=O hzb;clear hzpe hzb;have HL:=O (Loc.nil aB aB w);go_enter Tryz.func3,Tryz.ntmps3
 go_wp2_with (first
  | ((with_reducible show WL (some 1) (.box 32 _));refine bx 32 (.tmp 0) (nc.toArray) ?_))
 intro b1 w1 hbs hk hb;replace HL:=O (HL.out.new (fun _ h=>h.elim) hbs hk hb);clear hbs hk hb
 go_wp2_with (first
  | ((with_reducible show WL (some 9) (.load 32 _));refine wpList_load_mid rfl 32 (.tmp 1) rfl b1 0 rfl nc _ (aD (HL.out.b 0)) uN rfl (by rw[hnc];exact szAct) ?_)
  | ((with_reducible show WL (some 10) (.buildSlice _ _ _));refine bsA 34 32 (.tmp 9) Tryz.underlying34 infoN (by omega) (nc) hnc (by omega) ?_))
 intro b10 w2 hbs hk hb;replace HL:=O (HL.out.new (fun _ h=>h.elim) hbs hk hb);have HRD:=O (show Rd w2 47 (.slice (some ⟨b10,0,none⟩) 1 1) 1 (nRow [a]) from by rw[HCL.out];exact cE (n:=1) (size:=47) hb hnc (by unfold maxLen;omega));clear hbs hk hb;go_wp2_with fail;refine((long21_any w2 (.slice (some ⟨b10,0,none⟩) 1 1) [a] HAL.out HRD.out)).mono ?_;rintro e w3 ⟨⟨bb,rfl,-⟩,hk⟩;replace HL:=O (HL.out.keeps hk);clear hk;clear HRD HAL HCL;cases bb with
 | true =>
   go_wp2_with fail;refine((Dp w3)).mono ?_;rintro e w4 ⟨rfl,hk⟩;replace HL:=O (HL.out.keeps hk);clear hk;go_wp2_with fail;go_ret;exact⟨rfl,HL.out.keep⟩
 | false =>
   go_wp2_with (first
    | ((with_reducible show WL (some 13) (.build _ _));refine bld tP #[] [] (.agg zc.toArray) HZB2.out ?_)
    | ((with_reducible show WL (some 14) (.box 44 _));refine bx 44 (.tmp 13) (zc.toArray) ?_))
   intro b14 w5 hbs hk hb;replace HL:=O (HL.out.new (fun _ h=>h.elim) hbs hk hb);clear hbs hk hb
   go_wp2_with (first
    | ((with_reducible show WL (some 15) (.buildSlice _ _ _));refine bs2 45 36 (.const (.pointer none)) (.tmp 14) (.pointer none) (.pointer (some ⟨b14,0,none⟩)) (by kernel_rfl) (by kernel_rfl) Tryz.underlying45 rfl rfl ?_))
   intro b15 w6 hbs hk hb;replace HL:=O (HL.out.new (fun _ h=>h.elim) hbs hk hb);clear hbs hk hb;go_wp2_with fail
   go_loopw [4] (fun i wr=>∃k:Nat,k≤2/\i=.int .i64 (k:Int)/\Hid (Loc aB aB w wr [(b15,#[.pointer none,.pointer (some ⟨b14,0,none⟩)],36),(b14,zc.toArray,44),(b10,nc.toArray,32),(b1,nc.toArray,32)])) (fun i _=>2-(intOf i).toNat)
   case atStart=>exact⟨0,by omega,rfl,HL⟩
   case round =>
   clear HL;obtain⟨k,hk,rfl,HL⟩:=hrel
   by_cases hlt:k<2
   ·have hki:(k:Int)<2:=by omega
    have hk0:(0:Int)≤(k:Int):=by omega
    obtain⟨cv,hcv,hN⟩:∃cv,wr.cell? ⟨b15,k,none⟩=some cv/\NoCore wr cv:=by
     have hc:k=0\/k=1:=by omega
     rcases hc with rfl|rfl
     ·exact⟨_,aC (HL.out.b 0) rfl,.inl rfl⟩
     ·exact⟨_,aC (HL.out.b 0) rfl,.inr ⟨_,_,rfl,HL.out.b 1,HZ0.out⟩⟩
    have HN:=O hN;have HO1:=O hN.one;have HCV:=O hcv;clear hN hcv;go_wp2_with fail;obtain⟨S,hS0⟩:∃S:World->Prop,S=fun w'=>aA aB wr.drew w':=⟨_,rfl⟩
    have HSE:=O (show ∀w',S w'->aA aB wr.drew w' from fun w' h=>by rw[hS0] at h;exact h);have HSI:=O (show ∀w',aA aB wr.drew w'->S w' from fun w' h=>by rw[hS0];exact h);have hS:S wr.drew:=by rw[hS0];exact aA.refl _ _
    have hkd:=(aA.refl aB wr).drew;clear hS0;refine wp_region_held (S:=S) (by kernel_rfl) ?_;change wpAnyH _ _ _ _ _ _ _ _ wr.drew;generalize wr.drew=w7 at HSE HSI hS hkd ⊢;replace HL:=O (HL.out.keeps hkd);replace HN:=O (NoCore.keep0 HN.out hkd);replace HCV:=O (hkd.cell HCV.out id);clear hkd;have HLs:=HL;have HNs:=HN;have HCVs:=HCV;refine tna 0 (.slice (some ⟨b15,0,none⟩) 2 2) rfl hS ?_;refine tna 1 (.int .i64 (k:Int)) rfl hS ?_;refine tnd 2 (.pointer (some ⟨b15,k,none⟩)) rfl (.inl ⟨by rfl,fun _ _=>by go_simp⟩) hS ?_;refine tnd 3 cv rfl (.inl ⟨by rfl,fun w' hw'=>by have c:World.cell? w' ⟨b15,k,none⟩=some (cv):=(HSE.out w' hw').cell HCVs.out id;go_simp⟩) hS ?_;refine tnb 4 (.pointer (some ⟨b1,39,none⟩)) rfl hS ?_;refine tnd 5 (.slice ba bn bc) rfl (.inl ⟨by rfl,fun w' hw'=>by have c:World.cell? w' ⟨b1,39,none⟩=some (.slice ba bn bc):=(aC (i:=39) ((HSE.out w' hw').blk (HLs.out.b 3) id) H41.out);go_simp⟩) hS ?_;refine fC (k:=6) (l:=10) rfl rfl (by kernel_rfl) ?_ ?_
    ·go_wp2_with fail
     refine((by have h:=mlay_nil HN.out ba bn bc;rw[HZPE.out] at h;exact h:Calls _ _ _ w7 (aF w7 (.tuple #[.agg zp.toArray,.int .i64 1])))).mono ?_;rintro e w8 ⟨rfl,hk⟩;have hS1:=HSI.out _ ((HSE.out _ hS).trans hk);replace HL:=O (HL.out.keeps hk);replace HN:=O (NoCore.keep0 HN.out hk);replace HCV:=O (hk.cell HCV.out id);clear hS hk;go_wp2_with fail;refine⟨hS1,?_⟩;refine tna 7 (.tuple #[.agg zp.toArray,.int .i64 1]) rfl hS1 ?_;refine tnb 8 (.agg zp.toArray) rfl hS1 ?_;refine tnb 9 (.int .i64 1) rfl hS1 ?_;refine D6 (k:=10) rfl (by kernel_rfl) ?_;refine al 26 (.agg aL.toArray) (aL.toArray) bZ ?_;intro b5 w9 hbs hk hb;have HNb5:=O (show w7.heap.size≤b5 from by have:=(HSE.out _ hS1).size;omega);have hS2:=HSI.out _ ((HSE.out _ hS1).trans hk);clear hS1;replace HL:=O (HL.out.new (fun _ h=>h.elim) hbs hk hb);clear hbs hk hb;refine wpList_nil ?_;refine⟨hS2,?_⟩;refine D6 (k:=11) rfl (by kernel_rfl) ?_;refine sta 26 (.tmp 5) (.tmp 30) b5 0 zp (HL.out.b 0) (by first|decide|(rw[hzp];exact Nat.le_refl _)|simp[hzp,aI]) (by rw[hzp];exact dY) HOZP.out ?_;intro wa hk hb;rw[aG _ _ (by first|rfl|simp[hzp,aI])] at hb;have hS3:=HSI.out _ ((HSE.out _ hS2).trans' hk (fun _ _ h=>h) (fun i hi e=>by have:=HNb5.out;omega));clear hS2;replace HL:=O (HL.out.set 0 hk hb);clear hk hb;refine wpList_nil ?_;refine⟨hS3,?_⟩;refine tna 12 (.int .i64 1) rfl hS3 ?_;refine wpAnyH_done (by kernel_rfl) ?_ _;clear hS3 HSE HSI HLs HNs HCVs;clear HN HO1 HCV
     obtain⟨cv,hcv,hN⟩:∃cv,wa.cell? ⟨b15,k,none⟩=some cv/\NoCore wa cv:=by
      have hc:k=0\/k=1:=by omega
      rcases hc with rfl|rfl
      ·exact⟨_,aC (HL.out.b 1) rfl,.inl rfl⟩
      ·exact⟨_,aC (HL.out.b 1) rfl,.inr ⟨_,_,rfl,HL.out.b 2,HZ0.out⟩⟩
     have HN:=O hN;have HO1:=O hN.one;have HCV:=O hcv;clear hN hcv;go_wp2_with fail;obtain⟨S,hS0⟩:∃S:World->Prop,S=fun w'=>aA aB wa.drew w':=⟨_,rfl⟩
     have HSE:=O (show ∀w',S w'->aA aB wa.drew w' from fun w' h=>by rw[hS0] at h;exact h);have HSI:=O (show ∀w',aA aB wa.drew w'->S w' from fun w' h=>by rw[hS0];exact h);have hS:S wa.drew:=by rw[hS0];exact aA.refl _ _
     have hkd:=(aA.refl aB wa).drew;clear hS0;refine wp_region_held (S:=S) (by kernel_rfl) ?_;change wpAnyH _ _ _ _ _ _ _ _ wa.drew;generalize wa.drew=wb at HSE HSI hS hkd ⊢;replace HL:=O (HL.out.keeps hkd);replace HN:=O (NoCore.keep0 HN.out hkd);replace HCV:=O (hkd.cell HCV.out id);clear hkd;have HLs:=HL;have HNs:=HN;have HCVs:=HCV;refine tna 0 (.slice (some ⟨b15,0,none⟩) 2 2) rfl hS ?_;refine tna 1 (.int .i64 (k:Int)) rfl hS ?_;refine tnd 2 (.pointer (some ⟨b15,k,none⟩)) rfl (.inl ⟨by rfl,fun _ _=>by go_simp⟩) hS ?_;refine tnd 3 cv rfl (.inl ⟨by rfl,fun w' hw'=>by have c:World.cell? w' ⟨b15,k,none⟩=some (cv):=(HSE.out w' hw').cell HCVs.out id;go_simp⟩) hS ?_;refine tnb 4 (.pointer (some ⟨b1,4,none⟩)) rfl hS ?_;refine tnd 5 (.agg pc.toArray) rfl (yieldsIf_load_mid (by rfl) 26 (.tmp 37) rfl b1 4 rfl pc _ (fun w' h=>(rangeAt_sub ((HSE.out w' h).blk (HLs.out.b 4) id) H6.out)) aK rfl (by rw[hpc];exact dY)) hS ?_;refine tnb 6 (.pointer (some ⟨b1,1,none⟩)) rfl hS ?_;refine tnd 7 (.int .i64 n) rfl (.inl ⟨by rfl,fun w' hw'=>by have c:World.cell? w' ⟨b1,1,none⟩=some (.int .i64 n):=(aC (i:=1) ((HSE.out w' hw').blk (HLs.out.b 4) id) H1.out);go_simp⟩) hS ?_;refine D6 (k:=8) rfl (by kernel_rfl) ?_;go_wp2_with fail;refine((mload_nil HN.out hpc HOP.out n)).mono ?_;rintro e wc ⟨rfl,hk⟩;have hS1:=HSI.out _ ((HSE.out _ hS).trans hk);replace HL:=O (HL.out.keeps hk);replace HN:=O (NoCore.keep0 HN.out hk);replace HCV:=O (hk.cell HCV.out id);clear hS hk;go_wp2_with fail;refine⟨hS1,?_⟩;refine tna 9 (.tuple #[.slice none 0 0,.int .i64 1]) rfl hS1 ?_;refine tnb 10 (.slice none 0 0) rfl hS1 ?_;refine tnb 11 (.int .i64 1) rfl hS1 ?_;refine tna 12 (.slice none 0 0) rfl hS1 ?_;refine tna 13 (.int .i64 1) rfl hS1 ?_;refine wpAnyH_done (by kernel_rfl) ?_ _;clear hS1 HSE HSI HLs HNs HCVs
     go_wp2_with (first
      | ((with_reducible show WL (some 56) (.load 26 _));refine bC (by rfl) 26 (.tmp 5) rfl b5 0 rfl zp _ (aD (HL.out.b 0)) aK rfl (by rw[hzp];exact dY) ?_)
      | ((with_reducible show WL (some 57) (.build _ _));refine bld 26 #[] [] (.agg zp.toArray) HZB.out ?_))
     refine((by rw[←HZPE.out];exact kitPt_any wc (.slice none 0 0) (.slice none 0 0) zPt zPt (rH _) (rH _):Calls _ _ _ wc (bJ wc (zPt.eqB zPt)))).mono ?_;rintro e wd ⟨rfl,hk⟩;replace HL:=O (HL.out.keeps hk);clear hk;rw[eqB_refl];go_wp2_with fail
     go_roundw
     case rel=>exact⟨k+1,by omega,by go_num,O HL.out.tail⟩
     case measure=>simp[intOf];omega
    ·refine al 26 (.agg aL.toArray) (aL.toArray) bZ ?_
     intro b5 w8 hbs hk hb;have HNb5:=O (show w7.heap.size≤b5 from by have:=(HSE.out _ hS).size;omega);have hS1:=HSI.out _ ((HSE.out _ hS).trans hk);clear hS;replace HL:=O (HL.out.new (fun _ h=>h.elim) hbs hk hb);replace HN:=O (NoCore.keep0 HN.out hk);replace HCV:=O (hk.cell HCV.out id);clear hbs hk hb;refine wpList_nil ?_;refine⟨hS1,?_⟩;refine D6 (k:=6) rfl (by kernel_rfl) ?_;go_wp2_with fail;refine((by have h:=mlay_nil HN.out ba bn bc;rw[HZPE.out] at h;exact h:Calls _ _ _ w8 (aF w8 (.tuple #[.agg zp.toArray,.int .i64 1])))).mono ?_;rintro e w9 ⟨rfl,hk⟩;have hS2:=HSI.out _ ((HSE.out _ hS1).trans hk);replace HL:=O (HL.out.keeps hk);replace HN:=O (NoCore.keep0 HN.out hk);replace HCV:=O (hk.cell HCV.out id);clear hS1 hk;go_wp2_with fail;refine⟨hS2,?_⟩;refine tna 7 (.tuple #[.agg zp.toArray,.int .i64 1]) rfl hS2 ?_;refine tnb 8 (.agg zp.toArray) rfl hS2 ?_;refine tnb 9 (.int .i64 1) rfl hS2 ?_;refine D6 (k:=11) rfl (by kernel_rfl) ?_;refine sta 26 (.tmp 5) (.tmp 30) b5 0 zp (HL.out.b 0) (by first|decide|(rw[hzp];exact Nat.le_refl _)|simp[hzp,aI]) (by rw[hzp];exact dY) HOZP.out ?_;intro wa hk hb;rw[aG _ _ (by first|rfl|simp[hzp,aI])] at hb;have hS3:=HSI.out _ ((HSE.out _ hS2).trans' hk (fun _ _ h=>h) (fun i hi e=>by have:=HNb5.out;omega));clear hS2;replace HL:=O (HL.out.set 0 hk hb);clear hk hb;refine wpList_nil ?_;refine⟨hS3,?_⟩;refine tna 12 (.int .i64 1) rfl hS3 ?_;refine wpAnyH_done (by kernel_rfl) ?_ _;clear hS3 HSE HSI HLs HNs HCVs;clear HN HO1 HCV
     obtain⟨cv,hcv,hN⟩:∃cv,wa.cell? ⟨b15,k,none⟩=some cv/\NoCore wa cv:=by
      have hc:k=0\/k=1:=by omega
      rcases hc with rfl|rfl
      ·exact⟨_,aC (HL.out.b 1) rfl,.inl rfl⟩
      ·exact⟨_,aC (HL.out.b 1) rfl,.inr ⟨_,_,rfl,HL.out.b 2,HZ0.out⟩⟩
     have HN:=O hN;have HO1:=O hN.one;have HCV:=O hcv;clear hN hcv;go_wp2_with fail;obtain⟨S,hS0⟩:∃S:World->Prop,S=fun w'=>aA aB wa.drew w':=⟨_,rfl⟩
     have HSE:=O (show ∀w',S w'->aA aB wa.drew w' from fun w' h=>by rw[hS0] at h;exact h);have HSI:=O (show ∀w',aA aB wa.drew w'->S w' from fun w' h=>by rw[hS0];exact h);have hS:S wa.drew:=by rw[hS0];exact aA.refl _ _
     have hkd:=(aA.refl aB wa).drew;clear hS0;refine wp_region_held (S:=S) (by kernel_rfl) ?_;change wpAnyH _ _ _ _ _ _ _ _ wa.drew;generalize wa.drew=wb at HSE HSI hS hkd ⊢;replace HL:=O (HL.out.keeps hkd);replace HN:=O (NoCore.keep0 HN.out hkd);replace HCV:=O (hkd.cell HCV.out id);clear hkd;have HLs:=HL;have HNs:=HN;have HCVs:=HCV;refine tna 0 (.slice (some ⟨b15,0,none⟩) 2 2) rfl hS ?_;refine tna 1 (.int .i64 (k:Int)) rfl hS ?_;refine tnd 2 (.pointer (some ⟨b15,k,none⟩)) rfl (.inl ⟨by rfl,fun _ _=>by go_simp⟩) hS ?_;refine tnd 3 cv rfl (.inl ⟨by rfl,fun w' hw'=>by have c:World.cell? w' ⟨b15,k,none⟩=some (cv):=(HSE.out w' hw').cell HCVs.out id;go_simp⟩) hS ?_;refine tnb 4 (.pointer (some ⟨b1,4,none⟩)) rfl hS ?_;refine tnd 5 (.agg pc.toArray) rfl (yieldsIf_load_mid (by rfl) 26 (.tmp 37) rfl b1 4 rfl pc _ (fun w' h=>(rangeAt_sub ((HSE.out w' h).blk (HLs.out.b 4) id) H6.out)) aK rfl (by rw[hpc];exact dY)) hS ?_;refine tnb 6 (.pointer (some ⟨b1,1,none⟩)) rfl hS ?_;refine tnd 7 (.int .i64 n) rfl (.inl ⟨by rfl,fun w' hw'=>by have c:World.cell? w' ⟨b1,1,none⟩=some (.int .i64 n):=(aC (i:=1) ((HSE.out w' hw').blk (HLs.out.b 4) id) H1.out);go_simp⟩) hS ?_;refine D6 (k:=8) rfl (by kernel_rfl) ?_;go_wp2_with fail;refine((mload_nil HN.out hpc HOP.out n)).mono ?_;rintro e wc ⟨rfl,hk⟩;have hS1:=HSI.out _ ((HSE.out _ hS).trans hk);replace HL:=O (HL.out.keeps hk);replace HN:=O (NoCore.keep0 HN.out hk);replace HCV:=O (hk.cell HCV.out id);clear hS hk;go_wp2_with fail;refine⟨hS1,?_⟩;refine tna 9 (.tuple #[.slice none 0 0,.int .i64 1]) rfl hS1 ?_;refine tnb 10 (.slice none 0 0) rfl hS1 ?_;refine tnb 11 (.int .i64 1) rfl hS1 ?_;refine tna 12 (.slice none 0 0) rfl hS1 ?_;refine tna 13 (.int .i64 1) rfl hS1 ?_;refine wpAnyH_done (by kernel_rfl) ?_ _;clear hS1 HSE HSI HLs HNs HCVs
     go_wp2_with (first
      | ((with_reducible show WL (some 56) (.load 26 _));refine bC (by rfl) 26 (.tmp 5) rfl b5 0 rfl zp _ (aD (HL.out.b 0)) aK rfl (by rw[hzp];exact dY) ?_)
      | ((with_reducible show WL (some 57) (.build _ _));refine bld 26 #[] [] (.agg zp.toArray) HZB.out ?_))
     refine((by rw[←HZPE.out];exact kitPt_any wc (.slice none 0 0) (.slice none 0 0) zPt zPt (rH _) (rH _):Calls _ _ _ wc (bJ wc (zPt.eqB zPt)))).mono ?_;rintro e wd ⟨rfl,hk⟩;replace HL:=O (HL.out.keeps hk);clear hk;rw[eqB_refl];go_wp2_with fail
     go_roundw
     case rel=>exact⟨k+1,by omega,by go_num,O HL.out.tail⟩
     case measure=>simp[intOf];omega
   ·obtain rfl:k=2:=by omega
    go_wp2_with fail;refine((Dp wr)).mono ?_;rintro e we ⟨rfl,hk⟩;replace HL:=O (HL.out.keeps hk);clear hk;go_wp2_with fail;go_ret;exact⟨rfl,HL.out.keep⟩
end
section
open Go.ChangeShapes Go.WideShapes Go.ChangeAt Go.RowKit
theorem metaNone_pre(os:Os){H:Type}(enc:TypeId×Value->H) :
 (OpenSpec.ofChange Rows.metaNoneSpec).preRow enc Tryz.prog Tryz.f3 Rows.metaNoneRow.domain false Rows.metaNoneRow.laid ((oV os).forCall (fun _ _=>0) ⟨#[],#[Value.agg (#[Value.int .i64 0,Value.int .i64 0,Value.int .i64 0,Value.bool false,Value.slice none 0 0,Value.int .i64 0,Value.int .i64 0]++Array.replicate 32 (Value.int .u8 0)++#[Value.slice none 0 0,Value.int .i64 0,Value.int .i64 0,Value.int .i64 0,Value.int .i64 0,Value.int .u8 0,Value.slice none 0 0,Value.slice none 0 0])],[]⟩).memory #[Value.agg (#[Value.int .i64 0,Value.int .i64 0,Value.int .i64 0,Value.bool false,Value.slice none 0 0,Value.int .i64 0,Value.int .i64 0]++Array.replicate 32 (Value.int .u8 0)++#[Value.slice none 0 0,Value.int .i64 0,Value.int .i64 0,Value.int .i64 0,Value.int .i64 0,Value.int .u8 0,Value.slice none 0 0,Value.slice none 0 0])]:=by
 have hw:(DataW.whole enc Tryz.prog ((oV os).forCall (fun _ _=>0) ⟨#[],#[Value.agg (#[Value.int .i64 0,Value.int .i64 0,Value.int .i64 0,Value.bool false,Value.slice none 0 0,Value.int .i64 0,Value.int .i64 0]++Array.replicate 32 (Value.int .u8 0)++#[Value.slice none 0 0,Value.int .i64 0,Value.int .i64 0,Value.int .i64 0,Value.int .i64 0,Value.int .u8 0,Value.slice none 0 0,Value.slice none 0 0])],[]⟩).memory Tryz.f3.params.toList Rows.metaNoneSpec.vars false (#[Value.agg (#[Value.int .i64 0,Value.int .i64 0,Value.int .i64 0,Value.bool false,Value.slice none 0 0,Value.int .i64 0,Value.int .i64 0]++Array.replicate 32 (Value.int .u8 0)++#[Value.slice none 0 0,Value.int .i64 0,Value.int .i64 0,Value.int .i64 0,Value.int .i64 0,Value.int .u8 0,Value.slice none 0 0,Value.slice none 0 0])]:Array Value).toList 16).map (fun x=>(x.1,x.2.1)) =
  some ([.agg [.lit (.int .i64 0),.lit (.int .i64 0),.lit (.int .i64 0),.lit (.bool false),.agg [.nil,.lit (.int .i64 0),.lit (.int .i64 0),.agg (List.replicate 32 (.lit (.int .u8 0)))],.nil,.agg [.lit (.int .i64 0),.lit (.int .i64 0),.lit (.int .i64 0),.lit (.int .i64 0),.lit (.int .u8 0),.nil,.nil]]],[]):=by kernel_rfl
 obtain⟨⟨x1,x2,x3⟩,hx,hx1⟩:=Option.map_eq_some_iff.1 hw;simp only[Prod.mk.injEq] at hx1;obtain⟨rfl,rfl⟩:=hx1;exact OpenSpec.preRow_of_cond 16 hx (by kernel_rfl) (fun k hk=>by cases hk) (by kernel_rfl) (JH os _)
theorem metaNone_lifted(os:Os)(started:os.Started)(H:Type)(enc:TypeId×Value->H)(F:Stop.Interp) :
 ReturnsInHanded {} Tryz.checked os 3 .any ((OpenSpec.ofChange Rows.metaNoneSpec).preRow enc Tryz.prog Tryz.f3 Rows.metaNoneRow.domain false Rows.metaNoneRow.laid) (((OpenSpec.ofChange Rows.metaNoneSpec).at F).post enc Tryz.prog Tryz.f3 false true false false):=by
 refine returnsInHanded_of_row (C:=Tryz.checked) (s:=OpenSpec.ofChange Rows.metaNoneSpec) own started (by kernel_rfl) Tryz.func3
  (witness_row_atRef (enc:=enc) (C:=Tryz.checked) false (oV os) #[Value.agg (#[Value.int .i64 0,Value.int .i64 0,Value.int .i64 0,Value.bool false,Value.slice none 0 0,Value.int .i64 0,Value.int .i64 0]++Array.replicate 32 (Value.int .u8 0)++#[Value.slice none 0 0,Value.int .i64 0,Value.int .i64 0,Value.int .i64 0,Value.int .i64 0,Value.int .u8 0,Value.slice none 0 0,Value.slice none 0 0])] rfl (by kernel_rfl) (by kernel_rfl) (by kernel_rfl) (metaNone_pre os enc)) ?_
 intro W base args ds gs before hval0 hW hcnd _ _ hL _ _;have hval:∀(j:Nat) t v,Tryz.f3.params[j]?=some t->args[j]?=some v->Value.okWide Tryz.prog W .any base t v:=hval0;have hW':=hW;obtain⟨p,q,hA0,hV,rfl,hfz,hnd⟩:=hW;have hA:DataW.TrodAll enc Tryz.prog W 0 (fun _=>true) true Tryz.f3.params.toList args.toList ds p:=hA0;rw[Tryz.params3] at hA hval;obtain⟨v0,vs0,d0,ds0,p0,q0,hargs0,rfl,rfl,h0,r0⟩:=trodAll_cons hA;obtain⟨hv0,rfl,rfl⟩:=trodAll_nil r0;obtain rfl:args=#[v0]:=by apply Array.toList_inj.1;rw[hargs0];simp only[hv0]
 clear hargs0  hv0;obtain⟨rfl,rfl⟩:=trodVars_none hV;obtain⟨cs0,rfl,hcs0⟩:=okWide_struct uN (hval 0 32 v0 rfl rfl);have k0:=h0;have lt0:∀x∈p0,x.block<W.heap.size:=by obtain⟨m,hm⟩:=k0;exact DataW.trod_lt m _ _ _ hm
 clear hA0 hval0 hval
 obtain⟨A0,hA0,hAc0⟩:∃A:NAct,A.Ok/\cs0=(nCs A).toArray:=by
  obtain⟨fuel,hf⟩:=h0;obtain⟨A,hA,hc⟩:=nact_of hf;exact⟨A,hA,by apply Array.toList_inj.1;simpa [Value.cells] using hc⟩
 subst hAc0;refine(metaNone_walk A0 hA0 W).mono fun e W' ⟨he,hk⟩=>?_
 subst he;have bel:=hk.below;exact⟨_,rfl,_,_,_,[],_,[],hW',trodAll_mk1 (shut_bool Tryz.underlying4 _),(trodAll_cons_mk (Below.trod laidOut (by kernel_rfl) (of_decide_eq_true (by kernel_rfl)) k0 bel lt0) trodAll_mk0),rfl,bel.frame _,fun h=>by cases h⟩
theorem bY{a b:Bool}(h:a=true)(k:b=true):(a && b)=true:=by rw[h,k];rfl
theorem cl0:(Rows.metaNoneRow.wf (OpenSpec.ofChange Rows.metaNoneSpec))=true:=by kernel_rfl
theorem cl1:(laidOutB Tryz.pinned.checked.prog)=true:=by kernel_rfl
theorem cl2:(mapsRowed Tryz.pinned.checked.prog)=true:=by kernel_rfl
theorem cl3:(Tryz.f3.params.all (Tryz.pinned.checked.prog.readableRec ·))=true:=by kernel_rfl
theorem cl4:(namedTie Tryz.pinned.checked.prog Rows.metaNoneRow.named Rows.metaNoneSpec.vars)=true:=by kernel_rfl
theorem cl5:(Rows.metaNoneRow.stops == [])=true:=by kernel_rfl
theorem cl6:(Tryz.pinned.checked.prog.stops == [])=true:=by kernel_rfl
theorem cl7:(Rows.metaNoneRow.knobs == [])=true:=by kernel_rfl
theorem cl8:(Tryz.pinned.checked.prog.stopKnobs == [])=true:=by kernel_rfl
theorem cl9:(Rows.metaNoneRow.inPlace == Tryz.pinned.checked.prog.inPlace 3)=true:=by kernel_rfl
theorem Mh:(Rows.metaNoneRow.unfollowed == Tryz.pinned.checked.prog.unfollowed 3)=true:=by kernel_rfl
theorem Mi:(Rows.metaNoneRow.recurses == Tryz.pinned.checked.prog.recurses 3)=true:=by kernel_rfl
theorem Mj:(Rows.metaNoneRow.named == Tryz.pinned.checked.prog.varsNamed 3)=true:=by kernel_rfl
theorem Mk:(Rows.metaNoneRow.maps == (Tryz.f3.params.toList++Rows.metaNoneSpec.plain.varTypes Tryz.pinned.checked.prog).any (Tryz.pinned.checked.prog.mapsRec ·))=true:=by kernel_rfl
theorem Ml:(Rows.metaNoneRow.ifaces == (Tryz.f3.params.toList++Rows.metaNoneSpec.plain.varTypes Tryz.pinned.checked.prog).any (Tryz.pinned.checked.prog.ifacesRec ·))=true:=by kernel_rfl
theorem Mn:(Rows.metaNoneRow.mapsOut == Tryz.pinned.checked.prog.mapsAmong Tryz.f3.resultTypes.toList)=true:=by kernel_rfl
theorem Mo:(Rows.metaNoneRow.loops == (Tryz.f3.params.toList++Rows.metaNoneSpec.plain.varTypes Tryz.pinned.checked.prog).any (Tryz.pinned.checked.prog.loopsFrom ·))=true:=by kernel_rfl
theorem Mp:(Rows.metaNoneRow.wideKeys == ((Tryz.f3.params.toList++Rows.metaNoneSpec.plain.varTypes Tryz.pinned.checked.prog)++Tryz.f3.resultTypes.toList).any (Tryz.pinned.checked.prog.wideKeysFrom ·))=true:=by kernel_rfl
theorem Mq:(Rows.metaNoneSpec.vars.all (Tryz.pinned.checked.prog.varReadable ·))=true:=by kernel_rfl
theorem Mr:(Tryz.f3.resultTypes.all (fun t=>Tryz.pinned.checked.prog.readableRec t && decide (t<Tryz.pinned.checked.prog.types.size)))=true:=by kernel_rfl
theorem Ms:(Rows.metaNoneRow.ifacesOut == Tryz.f3.resultTypes.toList.any (Tryz.pinned.checked.prog.ifacesRec ·))=true:=by kernel_rfl
theorem Mt:(Rows.metaNoneRow.loopsOut == Tryz.f3.resultTypes.toList.any (Tryz.pinned.checked.prog.loopsFrom ·))=true:=by kernel_rfl
theorem Mu:(Rows.metaNoneRow.plainKeys == Tryz.pinned.checked.prog.plainKeys)=true:=by kernel_rfl
theorem Mv:(Rows.metaNoneRow.shortTexts.isNone)=true:=by kernel_rfl
theorem Mw:(Tryz.pinned.checked.prog.stopsHeard)=true:=by kernel_rfl
theorem Mx:(Tryz.pinned.checked.prog.mayEnter)=true:=by kernel_rfl
theorem My:(Rows.metaNoneRow.lifted == Tryz.pinned.checked.prog.liftsFinal)=true:=by kernel_rfl
theorem Mz:(Tryz.pinned.checked.prog.make == some Rows.metaNoneRow.make)=true:=by kernel_rfl
theorem MA:(Rows.metaNoneRow.kinds == (if Rows.metaNoneRow.domain.isEmpty then [] else Tryz.f3.params.toList.map fun t=>match Tryz.pinned.checked.prog.underlying t with|some (.int k)=>some k|_=>none))=true:=by kernel_rfl
theorem MB:(Rows.metaNoneRow.pinned == Rows.metaNoneRow.pinnedBy)=true:=by kernel_rfl
theorem MC:(Rows.metaNoneRow.veiled == ((Tryz.f3.params.toList++Rows.metaNoneSpec.plain.varTypes Tryz.pinned.checked.prog)++Tryz.f3.resultTypes.toList).any (Tryz.pinned.checked.prog.veiledRec ·))=true:=by kernel_rfl
theorem MD:(Rows.metaNoneRow.veiledFits Tryz.pinned.checked.prog Tryz.f3.params.toList ((Tryz.f3.params.toList++Rows.metaNoneSpec.plain.varTypes Tryz.pinned.checked.prog)++Tryz.f3.resultTypes.toList))=true:=by kernel_rfl
theorem metaNone_closed:joinedFacts Tryz.pinned.checked.prog 3 Tryz.f3 Rows.metaNoneSpec Rows.metaNoneRow=true:=by
 unfold joinedFacts;exact(bY (bY (bY (bY (bY (bY (bY (bY (bY (bY (bY (bY (bY (bY (bY (bY (bY (bY (bY (bY (bY (bY (bY (bY (bY (bY (bY (bY (bY (bY (bY cl0 cl1) cl2) cl3) cl4) cl5) cl6) cl7) cl8) cl9) Mh) Mi) Mj) Mk) Ml) Mn) Mo) Mp) Mq) Mr) Ms) Mt) Mu) Mv) Mw) Mx) My) Mz) MA) MB) MC) MD)
theorem metaNone_wrap:Tryz.f3.isWrapper Tryz.pinned.checked.prog Rows.metaNoneRow.wrapper Rows.metaNoneRow.mainSum:=by unfold Func.isWrapper;first|(rw[if_pos (by decide +kernel)];kernel_rfl)|(rw[if_neg (by decide +kernel)];exact⟨rfl,rfl⟩)
theorem metaNone_named:Tryz.pinned.checked.prog.funcNamed Rows.metaNoneRow.func=some 3:=by kernel_rfl
theorem metaNone_said:Rows.MetaNoneSaid:=
 OpenClaim.holds_of_cond 3 Tryz.f3 rfl rfl rfl rfl rfl rfl rfl ⟨rfl,rfl,rfl,rfl,rfl⟩ rfl rfl rfl rfl rfl metaNone_named Tryz.func3 metaNone_closed (of_decide_eq_true (by kernel_rfl)) metaNone_wrap
  (fun os started H enc _ F=>by rw[OpenClaim.pre_eq_preRow];exact metaNone_lifted os started H enc F)
theorem metaNone_plain(f : FuncId)(fn : Func)(hf : Tryz.pinned.checked.prog.funcNamed "caulker/caulkerlaw21.MetaNone" = some f)(hfn : Tryz.pinned.checked.prog.funcs[f]? = some fn) :
 true=Tryz.pinned.checked.prog.looks []/\∀(j:Nat) t,fn.params[j]?=some t->Tryz.pinned.checked.prog.wantsStandIn t=false:=by
 obtain rfl : f = 3 := Option.some.inj ((show Tryz.prog.funcNamed "caulker/caulkerlaw21.MetaNone" = some 3 by kernel_rfl).symm.trans hf) |>.symm;obtain rfl:fn=Tryz.f3:=(Option.some.inj (Tryz.func3.symm.trans hfn)).symm;refine⟨by kernel_rfl,fun j t ht=>?_⟩;rw[Tryz.params3] at ht;have hm:=Array.mem_of_getElem? ht;simp only[List.mem_toArray,List.mem_cons,List.not_mem_nil,or_false] at hm;subst hm;exact(show Tryz.prog.wantsStandIn 32=false by kernel_rfl)
theorem metaNone_proved:Rows.MetaNoneCardSaid:=
 Claim7.holds_tied_plain_at .later [] _ _ _ _ metaNone_said (fun _ h=>by cases h) (by kernel_rfl) (fun _ h=>by cases h) metaNone_row_tie rfl ⟨rfl,rfl⟩ (by kernel_rfl) rfl metaNone_plain (by kernel_rfl)
end
end Go.Proofs.YtjkbekifgobeaaaGreatDoor
