/- A part of the proof. Conditions: those told. -/
import Derived.Test.YthihofpfonfjfaaGreatDoorB1
import Derived.Test.YthihofpfonfjfaaGreatDoorB8
import Derived.Test.YthihofpfonfjfaaGreatDoorB14
namespace Go.Proofs.YthihofpfonfjfaaGreatDoor
set_option maxHeartbeats 64000000
set_option maxRecDepth 100000
set_option linter.unusedVariables false
section
open Go.RowKit Go.Maps Go.ChangeMaps
structure Pt where
 addrs:List Ad
 birth:Int
 level:Int
 sum:List UInt8
def eD:List UInt8:=List.replicate 32 0
def Pt.noth(p:Pt):Bool:=(p.birth == 0) && (p.level == 0) && decide (p.sum=eD)
def Pt.hole(p:Pt):Bool:=((p.addrs.length:Int) == 0) && p.noth
def jW(a:Ad):Bool:=decide (0≤a.dev) && decide (a.dev<8) && decide (5≤a.sec) && decide (a.sec<4096)
def pW(l:List Ad):Bool:=l.all jW && decide ((l.map (·.dev)).Nodup) && decide (1≤l.length) && decide (l.length≤3)
def Pt.numsB(p:Pt):Bool:=decide (1≤p.birth) && decide (p.birth≤2147483648) && decide (0≤p.level) && decide (p.level≤3)
def Pt.may(p:Pt):Bool:=p.hole || (pW p.addrs && p.numsB)
structure Ub where
 txg:Int
 root:Pt
 len:Int
 pool:List UInt8
def Ub.may(u:Ub):Bool:=decide (1≤u.txg) && decide (u.txg≤2147483648) && decide (0≤u.len) && decide (u.len≤16384) && (u.root.hole || (u.root.may && (u.root.level == 3) && decide (u.root.birth≤u.txg)))
def aE(v:Value)(p:Pt):List Value:=v::.int .i64 p.birth::.int .i64 p.level::p.sum.map vb
def Jg(v:Value)(u:Ub):List Value:=.int .i64 u.txg::(aE v u.root++(.int .i64 u.len::u.pool.map vb))
theorem aO{v:Value}{p:Pt}(h:p.sum.length=32):(aE v p).length=35:=by simp[aE,h]
theorem Jh{v:Value}{u:Ub}(h:u.root.sum.length=32)(h':u.pool.length=32):(Jg v u).length=69:=by simp[Jg,aE,h,h']
theorem GH{w:World}{b o:Nat}{A B C:List Value}(h:w.rangeAt b o (A++(B++C))):w.rangeAt b (o+A.length) B:=fun j v hj=>by
 have hl:=(List.getElem?_eq_some_iff.1 hj).1;have:=h (A.length+j) v (by rw[List.getElem?_append_right (by omega),show A.length+j-A.length=j by omega,List.getElem?_append_left hl];exact hj)
 rwa [←Nat.add_assoc] at this
theorem dY{w:World}{b o:Nat}{v:Value}{p:Pt}(h:w.rangeAt b o (aE v p)):w.cell? ⟨b,o,none⟩=some v/\w.cell? ⟨b,o+1,none⟩=some (.int .i64 p.birth)/\w.cell? ⟨b,o+2,none⟩=some (.int .i64 p.level)/\w.rangeAt b (o+3) (p.sum.map vb):=by
 refine⟨h 0 _ rfl,h 1 _ rfl,h 2 _ rfl,?_⟩;have h2:w.rangeAt b o ([v,.int .i64 p.birth,.int .i64 p.level]++(p.sum.map vb++[])):=by rw[List.append_nil];exact h
 exact GH h2
theorem aJ:Tryz.prog.underlying 35=some (.struct (Tryz.prog.fieldsOf 35)):=by kernel_rfl
theorem xW:(Tryz.prog.info? 35).map (·.size)=some 35:=by kernel_rfl
theorem fD{l:List Value}(h:l.length=35):(Tryz.prog.info? 35).map (·.size)=some l.length:=by rw[h];exact xW
theorem Ln{l:List Value}(h:l.length=32):(Tryz.prog.info? 33).map (·.size)=some l.length:=by rw[h];exact oT
theorem Ji(w:World):(sizeOf 5).run Tryz.prog w=.ok 1 w:=by kernel_rfl
theorem Jj(xs ys:List UInt8)(hx:xs.length=32)(hy:ys.length=32)(w:World):Sem.run Tryz.prog (binOp .eql 33 (.agg (xs.map vb).toArray) (.agg (ys.map vb).toArray)) w=.ok (.bool (decide (xs=ys))) w:=by
 have:=run_eql_bytes (P:=Tryz.prog) w 33 5 32 Tryz.underlying33 Tryz.underlying5 Ji xs ys hx hy;rw[show decide (xs=ys)=(xs == ys) by rw[Bool.eq_iff_iff];simp];exact this
theorem Lo:Tryz.prog.eqGuardType Tryz.prog.depth 33=false:=by kernel_rfl
theorem Lp(w:World):(Instr.build 33 #[]).run Tryz.prog w=.ok (.agg (eD.map vb).toArray) w:=by kernel_rfl
structure PtV(w:World)(v:Value)(p:Pt):Prop where
 rd:Rd w 2 v p.addrs.length (aT p.addrs)
 ads:lC p.addrs
 sum:p.sum.length=32
theorem PtV.keep{T:Nat->Prop}{w w':World}{v:Value}{p:Pt}(h:PtV w v p)(k:aA T w w')(hT:∀i,v.ownBlock=some i->¬T i):PtV w' v p:=⟨h.rd.keep k hT,h.ads,h.sum⟩
structure UbV(w:World)(v:Value)(u:Ub):Prop where
 root:PtV w v u.root
 pool:u.pool.length=32
theorem UbV.keep{T:Nat->Prop}{w w':World}{v:Value}{u:Ub}(h:UbV w v u)(k:aA T w w')(hT:∀i,v.ownBlock=some i->¬T i):UbV w' v u:=⟨h.root.keep k hT,h.pool⟩
theorem Jk{n:Nat}:((n:Int) == 0)=decide (n=0):=by rw[Bool.eq_iff_iff];simp
theorem Jl(w:World)(v:Value)(p:Pt)(h0:PtV w v p):Calls Tryz.prog 28 #[.agg (aE v p).toArray] w (aX w p.noth):=by
 obtain⟨w1,hw1,hk1,hb_0,hs1⟩:=aU w (aE v p).toArray 35;obtain⟨a0,b0,c0,d0⟩:=dY (aD hb_0);have HP0:=O d0;have HB0:=O hb_0;have hl0:(aE v p).length=35:=aO h0.sum;simp only[Nat.zero_add] at a0 b0 c0;have HK:=O hk1;have heq:=Jj p.sum eD h0.sum rfl;have hsl:(p.sum.map vb).length=32:=by rw[List.length_map];exact h0.sum
 obtain⟨t1,ht1⟩:∃t:Bool,(p.birth == 0)=t:=⟨_,rfl⟩
 obtain⟨t2,ht2⟩:∃t:Bool,(p.level == 0)=t:=⟨_,rfl⟩
 obtain⟨t3,ht3⟩:∃t:Bool,decide (p.sum=eD)=t:=⟨_,rfl⟩
 have hs:p.noth=(t1 && t2 && t3):=by unfold Pt.noth;rw[ht1,ht2,ht3]
 rw[hs];rw[ht3] at heq;obtain⟨ss,hss⟩:∃x,p.sum.map vb=x:=⟨_,rfl⟩
 have Hss:=O hss;obtain⟨pc,hpc⟩:∃x,aE v p=x:=⟨_,rfl⟩
 have Hpc:=O hpc;rw[hss] at heq hsl HP0;rw[hpc] at hw1 ⊢;have heqz:∀w,Sem.run Tryz.prog (binOp .eql 33 (.agg ss.toArray) (.agg #[.int .u8 0,.int .u8 0,.int .u8 0,.int .u8 0,.int .u8 0,.int .u8 0,.int .u8 0,.int .u8 0,.int .u8 0,.int .u8 0,.int .u8 0,.int .u8 0,.int .u8 0,.int .u8 0,.int .u8 0,.int .u8 0,.int .u8 0,.int .u8 0,.int .u8 0,.int .u8 0,.int .u8 0,.int .u8 0,.int .u8 0,.int .u8 0,.int .u8 0,.int .u8 0,.int .u8 0,.int .u8 0,.int .u8 0,.int .u8 0,.int .u8 0,.int .u8 0])) w=.ok (.bool t3) w:=heq;clear heq;clear hs ht3 hb_0 d0 hk1 hs1 hss hpc h0 HB0
 cases t1<;>cases t2<;>cases t3<;>(
  go_enter Tryz.func28,Tryz.ntmps28
  go_wp2_with (first
   | ((with_reducible show WL _ (.load 33 (.tmp 12)));refine aY (by rfl) 33 (.tmp 12) rfl (w.heap.size) 3 rfl ss _ HP0.out Tryz.underlying33 rfl (Ln hsl) ?_))
  go_ret;exact⟨rfl,HK.out⟩)
theorem cJ(w:World)(v:Value)(p:Pt)(h0:PtV w v p):Calls Tryz.prog 10 #[.agg (aE v p).toArray] w (aX w p.hole):=by
 obtain⟨oa,ca,hv,-,-⟩:=h0.rd.form;subst hv;obtain⟨w1,hw1,hk1,hb_0,hs1⟩:=aU w (aE (.slice oa p.addrs.length ca) p).toArray 35;obtain⟨a0,b0,c0,d0⟩:=dY (aD hb_0);have HP0:=O d0;have HB0:=O hb_0;have hl0:(aE (.slice oa p.addrs.length ca) p).length=35:=aO h0.sum;simp only[Nat.zero_add] at a0 b0 c0;have HC:=O (Jl w1 _ p (h0.keep hk1 fun _ _=>id));have HK:=O hk1;obtain⟨t1,ht1⟩:∃t:Bool,((p.addrs.length:Int) == 0)=t:=⟨_,rfl⟩
 obtain⟨t2,ht2⟩:∃t:Bool,p.noth=t:=⟨_,rfl⟩
 have hs:p.hole=(t1 && t2):=by unfold Pt.hole;rw[ht1,ht2]
 rw[hs];rw[ht2] at HC;have HR0:=O (aD HB0.out);obtain⟨pc,hpc⟩:∃x,aE (.slice oa p.addrs.length ca) p=x:=⟨_,rfl⟩
 have Hpc:=O hpc;rw[hpc] at hw1 HC hl0 HR0 ⊢;obtain⟨n,hn⟩:∃x,p.addrs.length=x:=⟨_,rfl⟩
 have Hn:=O hn;rw[hn] at a0 ht1;have ht1n:decide (n=0)=t1:=by rw[←ht1,Jk]
 clear hs ht2 hb_0 d0 hk1 hs1 hpc h0 HB0 HP0 hn;cases t1
 ·go_enter Tryz.func10,Tryz.ntmps10
  go_wp2_with fail;go_ret;exact⟨rfl,HK.out⟩
 ·go_enter Tryz.func10,Tryz.ntmps10
  go_wp2_with (first
   | ((with_reducible show WL _ (.load 35 (.tmp 1)));refine aY (by rfl) 35 (.tmp 1) rfl (w.heap.size) 0 rfl pc _ HR0.out aJ rfl (fD hl0) ?_))
  refine HC.out.mono ?_;rintro e w2 ⟨rfl,hk⟩;have HK2:=O (HK.out.trans hk);clear hk HC
  cases t2<;>(
   go_wp2_with fail;go_ret;exact⟨rfl,HK2.out⟩)
open Go.RowKit Go.Maps Go.ChangeMaps
set_option maxRecDepth 100000
set_option linter.unusedVariables false
theorem Mr(w:World):(zeroValue 158).run Tryz.prog w=.ok (.agg (Array.replicate 8 (.bool false))) w:=by kernel_rfl
def pL(l:List Ad):List Value:=(List.range 8).map fun(d:Nat)=>Value.bool (decide ((d:Int)∈l.map (·.dev)))
theorem rE{l:List Ad}{d:Nat}(h:d<8):(pL l).toArray[d]?=some (.bool (decide ((d:Int)∈l.map (·.dev)))):=by
 unfold pL;rw[List.getElem?_toArray,List.getElem?_map,List.getElem?_range h];rfl
theorem Jm{l:List Ad}{d:Nat}{s:Int}(h:d<8):(pL l).toArray.setIfInBounds d (.bool true)=(pL (l++[⟨(d:Int),s⟩])).toArray:=by
 rw[List.setIfInBounds_toArray]
 congr 1
 refine List.ext_getElem? fun i=>?_
 unfold pL;rw[List.getElem?_set,List.getElem?_map,List.getElem?_map,List.length_map,List.length_range]
 by_cases hi:i<8
 ·rw[List.getElem?_range hi,List.map_append]
  by_cases e:d=i
  ·subst e
   rw[if_pos rfl,if_pos hi];simp
  ·rw[if_neg e]
   have:¬(i:Int)=(d:Int):=by omega
   simp[this]
 ·rw[if_neg (by omega)]
  rw[List.getElem?_eq_none (by rw[List.length_range];omega)];rfl
theorem Ms{l:List Ad}{k:Nat}{x:Ad}(hx:l[k]?=some x)(h:jW x=false\/x.dev∈(l.take k).map (·.dev)):pW l=false:=by
 unfold pW;rcases h with h|h
 ·have h1:l.all jW=false:=by
   rw[List.all_eq_false];exact⟨x,List.mem_of_getElem? hx,by rw[h];simp⟩
  rw[h1];simp
 ·have h1:¬(l.map (·.dev)).Nodup:=by
   intro hn;have hk:=(List.getElem?_eq_some_iff.1 hx).1
   have e:l=l.take k++x::l.drop (k+1):=by
    conv=>lhs;rw[←List.take_append_drop k l]
    rw[List.drop_eq_getElem_cons hk]
    congr 2
    rw[List.getElem?_eq_getElem hk] at hx;exact Option.some.inj hx
   rw[e,List.map_append,List.map_cons] at hn;exact(List.nodup_append.1 hn).2.2 _ h _ (List.mem_cons_self ..) rfl
  rw[decide_eq_false h1];simp
theorem Lq{l:List Ad}(h1:l.all jW=true)(h2:(l.map (·.dev)).Nodup):pW l=(decide (1≤l.length) && decide (l.length≤3)):=by
 unfold pW;rw[h1,decide_eq_true h2];simp
theorem GI(w:World)(v:Value)(l:List Ad)(ho:lC l)(hr:Rd w 2 v l.length (aT l)):Calls Tryz.prog 65 #[v] w (aX w (pW l)):=by
 obtain⟨oa,ca,rfl,-,hmm⟩:=hr.form;have hmx:l.length≤maxLen:=by have h:=hr.2;obtain⟨a',cap',h1,h2,h3,-⟩:=h;omega
 unfold maxLen at hmx;obtain⟨bb,hbb⟩:∃b,pW l=b:=⟨_,rfl⟩
 have HBB:=O hbb;rw[hbb];obtain⟨n,hn⟩:∃n,l.length=n:=⟨_,rfl⟩
 have HN:=O hn;have HR:=O hr;have HO:=O ho;rw[hn] at HR hmx ⊢;clear hmm hr hn hbb ho;obtain⟨w1,hw1,hk1,hb1,hs1⟩:=aU w (Array.replicate 8 (.bool false)) 158;have HB1:Hid (w1.heap[w.heap.size]?=some (.cells (pL []).toArray 158 (0,0))):=O hb1;have HK1:=O hk1;obtain⟨sb,hsb⟩:∃s,w.heap.size=s:=⟨_,rfl⟩
 have hsw:sb<w1.heap.size:=by omega
 have HSB:=O hsb;rw[hsb] at HB1;clear hk1 hb1 hs1;go_enter Tryz.func65,Tryz.ntmps65
 go_wp2_with (first
  | ((with_reducible show WL (some 3) (.alloc 158));refine aS rfl 158 rfl _ Mr (Array.replicate 8 (.bool false)) rfl ?_;rw[hw1,hsb]))
 clear hw1 hsb
 go_loopw [8] (fun i wr=>∃k:Nat,k≤n/\i=.int .i64 k/\Hid (wr.heap[sb]?=some (.cells (pL (l.take k)).toArray 158 (0,0)))/\Hid ((l.take k).all jW=true/\((l.take k).map (·.dev)).Nodup)/\Hid (aA (fun i=>i=sb) w1 wr)) (fun i _=>n-(intOf i).toNat)
 case atStart=>exact⟨0,Nat.zero_le _,rfl,O HB1.out,O ⟨rfl,List.nodup_nil⟩,O (aA.refl _ _)⟩
 case round =>
 clear HB1;obtain⟨k,hk,rfl,HS,HI,HKR⟩:=hrel;have HK:=O (HK1.out.trans' HKR.out (U:=aB) (fun _ _ h=>h) (fun i hi e=>by have:=HSB.out;omega))
 by_cases hlt:k<n
 ·have hki:(k:Int)<(n:Int):=by omega
  have hk0:(0:Int)≤(k:Int):=by omega
  obtain⟨⟨xd,xs⟩,h_x⟩:∃x,l[k]?=some x:=⟨l[k]'(by rw[HN.out];exact hlt),List.getElem?_eq_getElem _⟩
  have h_r:=HR.out.keep HK.out fun _ _=>id
  rw[←HN.out] at h_r;obtain⟨g,o,cap',h_v,h_at⟩:=mD h_r h_x;have e1:oa=some ⟨g,o,none⟩:=by cases h_v;rfl
  subst e1;have HX:=O h_at;have HE:=O h_x;have hTK:l.take (k+1)=l.take k++[⟨xd,xs⟩]:=by rw[List.take_add_one,h_x];rfl
  have HTK:=O hTK;clear h_x h_r h_v h_at hTK;have hin:=HO.out _ (List.mem_of_getElem? HE.out);have HNO:Hid (jW ⟨xd,xs⟩=false\/xd∈(l.take k).map (·.dev)->bb=false):=O (fun h=>by rw[←HBB.out];exact Ms HE.out h)
  by_cases h1:xd<0
  ·have hbf:bb=false:=HNO.out (.inl (by unfold jW;simp;omega))
   have d1:decide (xd<0)=true:=decide_eq_true h1;subst hbf
   go_wp2_with (first
    | ((with_reducible show WL _ (.load 49 (.tmp 10)));refine wpList_load_mid rfl 49 (.tmp 10) rfl g (o+k*2) rfl (aN ⟨xd,xs⟩) _ HX.out bX rfl cE ?_)
    | ((with_reducible show WL (some 5) (.alloc 49));refine aS rfl 49 rfl eE eA #[.int .i64 0,.int .i64 0] rfl ?_)
    | ((with_reducible show WL none (.store 49 (.tmp 5) (.tmp 11)));refine aM rfl 49 (.tmp 5) (.tmp 11) rfl wr.heap.size 0 (aN ⟨xd,xs⟩) rfl rfl #[.int .i64 0,.int .i64 0] 49 (heap_alloc_new _ _) (Nat.le_refl _) cE (bH _) ?_
       intro w3 hb3 hk3;rw[aG _ _ (by rfl)] at hb3;have hk4:aA aB wr w3:=((aA.refl aB wr).alloc _).trans' hk3 (fun _ _ h=>h) (fun i hi e=>by omega);have HK4:=O hk4;have hc0:w3.cell? ⟨wr.heap.size,0,none⟩=some (.int .i64 xd):=aC hb3 rfl;have hc1:w3.cell? ⟨wr.heap.size,1,none⟩=some (.int .i64 xs):=aC hb3 rfl;have HS3:=O (hk4.blk HS.out id)
       skip
       clear hb3 hk3 hk4))
   go_ret;exact⟨rfl,HK.out.trans HK4.out⟩
  by_cases h2:8≤xd
  ·have hbf:bb=false:=HNO.out (.inl (by unfold jW;simp;omega))
   have d2:decide (8≤xd)=true:=decide_eq_true h2;subst hbf
   go_wp2_with (first
    | ((with_reducible show WL _ (.load 49 (.tmp 10)));refine wpList_load_mid rfl 49 (.tmp 10) rfl g (o+k*2) rfl (aN ⟨xd,xs⟩) _ HX.out bX rfl cE ?_)
    | ((with_reducible show WL (some 5) (.alloc 49));refine aS rfl 49 rfl eE eA #[.int .i64 0,.int .i64 0] rfl ?_)
    | ((with_reducible show WL none (.store 49 (.tmp 5) (.tmp 11)));refine aM rfl 49 (.tmp 5) (.tmp 11) rfl wr.heap.size 0 (aN ⟨xd,xs⟩) rfl rfl #[.int .i64 0,.int .i64 0] 49 (heap_alloc_new _ _) (Nat.le_refl _) cE (bH _) ?_
       intro w3 hb3 hk3;rw[aG _ _ (by rfl)] at hb3;have hk4:aA aB wr w3:=((aA.refl aB wr).alloc _).trans' hk3 (fun _ _ h=>h) (fun i hi e=>by omega);have HK4:=O hk4;have hc0:w3.cell? ⟨wr.heap.size,0,none⟩=some (.int .i64 xd):=aC hb3 rfl;have hc1:w3.cell? ⟨wr.heap.size,1,none⟩=some (.int .i64 xs):=aC hb3 rfl;have HS3:=O (hk4.blk HS.out id)
       skip
       clear hb3 hk3 hk4))
   go_ret;exact⟨rfl,HK.out.trans HK4.out⟩
  obtain⟨d,rfl⟩:∃d:Nat,xd=(d:Int):=⟨xd.toNat,by omega⟩
  have hd8:d<8:=by omega
  have hdi:(d:Int)<8:=by omega
  have hd0:(0:Int)≤(d:Int):=by omega
  obtain⟨s,hse⟩:∃s,decide ((d:Int)∈(l.take k).map (·.dev))=s:=⟨_,rfl⟩
  have HSE:=O hse;clear h1 h2;cases s
  ·have hnd:(d:Int) ∉ (l.take k).map (·.dev):=of_decide_eq_false HSE.out
   have HND:=O hnd;clear hnd
   by_cases h3:xs<5
   ·have hbf:bb=false:=HNO.out (.inl (by unfold jW;simp;omega))
    have d3:decide (xs<5)=true:=decide_eq_true h3;subst hbf
    go_wp2_with (first
     | ((with_reducible show WL _ (.load 49 (.tmp 10)));refine wpList_load_mid rfl 49 (.tmp 10) rfl g (o+k*2) rfl (aN ⟨(d:Int),xs⟩) _ HX.out bX rfl cE ?_)
     | ((with_reducible show WL (some 5) (.alloc 49));refine aS rfl 49 rfl eE eA #[.int .i64 0,.int .i64 0] rfl ?_)
     | ((with_reducible show WL none (.store 49 (.tmp 5) (.tmp 11)));refine aM rfl 49 (.tmp 5) (.tmp 11) rfl wr.heap.size 0 (aN ⟨(d:Int),xs⟩) rfl rfl #[.int .i64 0,.int .i64 0] 49 (heap_alloc_new _ _) (Nat.le_refl _) cE (bH _) ?_
        intro w3 hb3 hk3;rw[aG _ _ (by rfl)] at hb3;have hk4:aA aB wr w3:=((aA.refl aB wr).alloc _).trans' hk3 (fun _ _ h=>h) (fun i hi e=>by omega);have HK4:=O hk4;have hc0:w3.cell? ⟨wr.heap.size,0,none⟩=some (.int .i64 (d:Int)):=aC hb3 rfl;have hc1:w3.cell? ⟨wr.heap.size,1,none⟩=some (.int .i64 xs):=aC hb3 rfl;have HS3:=O (hk4.blk HS.out id);have hcs:=aC HS3.out (rE (l:=l.take k) hd8);rw[hse] at hcs;clear hb3 hk3 hk4))
    go_ret;exact⟨rfl,HK.out.trans HK4.out⟩
   by_cases h4:4096≤xs
   ·have hbf:bb=false:=HNO.out (.inl (by unfold jW;simp;omega))
    have d4:decide (4096≤xs)=true:=decide_eq_true h4;subst hbf
    go_wp2_with (first
     | ((with_reducible show WL _ (.load 49 (.tmp 10)));refine wpList_load_mid rfl 49 (.tmp 10) rfl g (o+k*2) rfl (aN ⟨(d:Int),xs⟩) _ HX.out bX rfl cE ?_)
     | ((with_reducible show WL (some 5) (.alloc 49));refine aS rfl 49 rfl eE eA #[.int .i64 0,.int .i64 0] rfl ?_)
     | ((with_reducible show WL none (.store 49 (.tmp 5) (.tmp 11)));refine aM rfl 49 (.tmp 5) (.tmp 11) rfl wr.heap.size 0 (aN ⟨(d:Int),xs⟩) rfl rfl #[.int .i64 0,.int .i64 0] 49 (heap_alloc_new _ _) (Nat.le_refl _) cE (bH _) ?_
        intro w3 hb3 hk3;rw[aG _ _ (by rfl)] at hb3;have hk4:aA aB wr w3:=((aA.refl aB wr).alloc _).trans' hk3 (fun _ _ h=>h) (fun i hi e=>by omega);have HK4:=O hk4;have hc0:w3.cell? ⟨wr.heap.size,0,none⟩=some (.int .i64 (d:Int)):=aC hb3 rfl;have hc1:w3.cell? ⟨wr.heap.size,1,none⟩=some (.int .i64 xs):=aC hb3 rfl;have HS3:=O (hk4.blk HS.out id);have hcs:=aC HS3.out (rE (l:=l.take k) hd8);rw[hse] at hcs;clear hb3 hk3 hk4))
    go_ret;exact⟨rfl,HK.out.trans HK4.out⟩
   go_wp2_with (first
    | ((with_reducible show WL _ (.load 49 (.tmp 10)));refine wpList_load_mid rfl 49 (.tmp 10) rfl g (o+k*2) rfl (aN ⟨(d:Int),xs⟩) _ HX.out bX rfl cE ?_)
    | ((with_reducible show WL (some 5) (.alloc 49));refine aS rfl 49 rfl eE eA #[.int .i64 0,.int .i64 0] rfl ?_)
    | ((with_reducible show WL none (.store 49 (.tmp 5) (.tmp 11)));refine aM rfl 49 (.tmp 5) (.tmp 11) rfl wr.heap.size 0 (aN ⟨(d:Int),xs⟩) rfl rfl #[.int .i64 0,.int .i64 0] 49 (heap_alloc_new _ _) (Nat.le_refl _) cE (bH _) ?_
       intro w3 hb3 hk3;rw[aG _ _ (by rfl)] at hb3;have hk4:aA aB wr w3:=((aA.refl aB wr).alloc _).trans' hk3 (fun _ _ h=>h) (fun i hi e=>by omega);have HK4:=O hk4;have hc0:w3.cell? ⟨wr.heap.size,0,none⟩=some (.int .i64 (d:Int)):=aC hb3 rfl;have hc1:w3.cell? ⟨wr.heap.size,1,none⟩=some (.int .i64 xs):=aC hb3 rfl;have HS3:=O (hk4.blk HS.out id);have hcs:=aC HS3.out (rE (l:=l.take k) hd8);have hfz:=cK HS3.out d;rw[hse] at hcs;clear hb3 hk3 hk4))
   have HK5:Hid (aA (fun i=>i=sb) w1 (w3.setCell ⟨sb,d,none⟩ (.bool true))):=O ((HKR.out.trans' HK4.out (U:=fun i=>i=sb) (fun _ _ h=>h) (fun _ _ h=>h.elim)).setCell (p:=⟨sb,d,none⟩) (fun _=>rfl) _);have HS5:Hid ((w3.setCell ⟨sb,d,none⟩ (.bool true)).heap[sb]?=some (.cells (pL (l.take (k+1))).toArray 158 (0,0))):=O (by rw[dC HS3.out,Jm (s:=xs) hd8,←HTK.out])
   have HI5:Hid ((l.take (k+1)).all jW=true/\((l.take (k+1)).map (·.dev)).Nodup):=O (by
    rw[HTK.out];refine⟨?_,?_⟩
    ·rw[List.all_append,HI.out.1]
     unfold jW;simp;omega
    ·rw[List.map_append,List.nodup_append]
     refine⟨HI.out.2,by simp,fun x hx y hy e=>?_⟩;subst e;have e2:x=(d:Int):=by simpa using hy
     rw[e2] at hx;exact HND.out hx)
   go_roundw
   case rel=>exact⟨k+1,by omega,by go_num,HS5,HI5,HK5⟩
   case measure=>simp[intOf];omega
  ·have hbf:bb=false:=HNO.out (.inr (of_decide_eq_true HSE.out))
   subst hbf
   go_wp2_with (first
    | ((with_reducible show WL _ (.load 49 (.tmp 10)));refine wpList_load_mid rfl 49 (.tmp 10) rfl g (o+k*2) rfl (aN ⟨(d:Int),xs⟩) _ HX.out bX rfl cE ?_)
    | ((with_reducible show WL (some 5) (.alloc 49));refine aS rfl 49 rfl eE eA #[.int .i64 0,.int .i64 0] rfl ?_)
    | ((with_reducible show WL none (.store 49 (.tmp 5) (.tmp 11)));refine aM rfl 49 (.tmp 5) (.tmp 11) rfl wr.heap.size 0 (aN ⟨(d:Int),xs⟩) rfl rfl #[.int .i64 0,.int .i64 0] 49 (heap_alloc_new _ _) (Nat.le_refl _) cE (bH _) ?_
       intro w3 hb3 hk3;rw[aG _ _ (by rfl)] at hb3;have hk4:aA aB wr w3:=((aA.refl aB wr).alloc _).trans' hk3 (fun _ _ h=>h) (fun i hi e=>by omega);have HK4:=O hk4;have hc0:w3.cell? ⟨wr.heap.size,0,none⟩=some (.int .i64 (d:Int)):=aC hb3 rfl;have hc1:w3.cell? ⟨wr.heap.size,1,none⟩=some (.int .i64 xs):=aC hb3 rfl;have HS3:=O (hk4.blk HS.out id);have hcs:=aC HS3.out (rE (l:=l.take k) hd8);rw[hse] at hcs;clear hb3 hk3 hk4))
   go_ret;exact⟨rfl,HK.out.trans HK4.out⟩
 ·obtain rfl:n=k:=by omega
  have hbf:bb=(decide (1≤n) && decide (n≤3)):=by
   rw[←HBB.out,←HN.out];have h1:=HI.out;rw[List.take_of_length_le (by rw[HN.out];exact Nat.le_refl _)] at h1;exact Lq h1.1 h1.2
  have HBF:=O hbf;obtain⟨t1,ht1⟩:∃t,decide (1≤n)=t:=⟨_,rfl⟩
  obtain⟨t2,ht2⟩:∃t,decide (n≤3)=t:=⟨_,rfl⟩
  have hi1:decide ((1:Int)≤(n:Int))=t1:=by rw[←ht1];exact decide_eq_decide.2 (by omega)
  have hi2:decide ((n:Int)≤3)=t2:=by rw[←ht2];exact decide_eq_decide.2 (by omega)
  rw[ht1,ht2] at HBF;clear hbf
  cases t1<;>cases t2<;>(
   go_wp2_with fail;go_ret;exact⟨by rw[HBF.out];rfl,HK.out⟩)
def qS(w:World)(b:Bool)(e:Ending)(w':World):Prop:=e=.returned (.int .i64 (if b then 0 else 2))/\aA aB w w'
theorem oU{p:Pt}(h:p.hole=true):p.may=true:=by unfold Pt.may;rw[h];rfl
theorem jP(w:World)(v:Value)(p:Pt)(h0:PtV w v p):Calls Tryz.prog 32 #[.agg (aE v p).toArray] w (qS w p.may):=by
 obtain⟨oa,ca,hv,-,-⟩:=h0.rd.form;subst hv;obtain⟨n,hn⟩:∃x,p.addrs.length=x:=⟨_,rfl⟩
 have HN:=O hn;have h0n:=h0;rw[hn] at h0n ⊢;obtain⟨w1,hw1,hk1,hb_0,hs1⟩:=aU w (aE (.slice oa n ca) p).toArray 35;obtain⟨a0,b0,c0,d0⟩:=dY (aD hb_0);have HP0:=O d0;have HB0:=O hb_0;have hl0:(aE (.slice oa n ca) p).length=35:=aO h0n.sum;simp only[Nat.zero_add] at a0 b0 c0;have HC:=O (cJ w1 _ p (h0n.keep hk1 fun _ _=>id));have HM:=O (fun wx (k:aA aB w wx)=>GI wx (.slice oa n ca) p.addrs h0.ads (h0n.rd.keep k fun _ _=>id));have HK:=O hk1;obtain⟨t1,ht1⟩:∃t:Bool,p.hole=t:=⟨_,rfl⟩
 obtain⟨t2,ht2⟩:∃t:Bool,pW p.addrs=t:=⟨_,rfl⟩
 obtain⟨t3,ht3⟩:∃t:Bool,decide (1≤p.birth)=t:=⟨_,rfl⟩
 obtain⟨t4,ht4⟩:∃t:Bool,decide (p.birth≤2147483648)=t:=⟨_,rfl⟩
 obtain⟨t5,ht5⟩:∃t:Bool,decide (0≤p.level)=t:=⟨_,rfl⟩
 obtain⟨t6,ht6⟩:∃t:Bool,decide (p.level≤3)=t:=⟨_,rfl⟩
 have hs:p.may=(t1 || (t2 && (t3 && t4 && t5 && t6))):=by unfold Pt.may Pt.numsB;rw[ht1,ht2,ht3,ht4,ht5,ht6]
 have HS:=O hs;rw[ht1] at HC;rw[ht2] at HM;have HR0:=O (aD HB0.out);obtain⟨pc,hpc⟩:∃x,aE (.slice oa n ca) p=x:=⟨_,rfl⟩
 have Hpc:=O hpc;rw[hpc] at hw1 HC hl0 HR0 ⊢;clear hs ht1 ht2 hb_0 d0 hk1 hs1 hpc h0 h0n HB0 HP0 hn;cases t1
 ·skip
  cases t2
  ·skip
   go_enter Tryz.func32,Tryz.ntmps32
   go_wp2_with (first
    | ((with_reducible show WL _ (.load 35 (.tmp 1)));refine aY (by rfl) 35 (.tmp 1) rfl (w.heap.size) 0 rfl pc _ HR0.out aJ rfl (fD hl0) ?_))
   refine HC.out.mono ?_;rintro e w2 ⟨rfl,hk⟩;have HR0:=O (hk.rangeAt HR0.out);have HK:=O (HK.out.trans hk);obtain⟨a0,b0,c0,-⟩:=dY (p:=p) (v:=(.slice oa n ca)) (by rw[Hpc.out];exact HR0.out);simp only[Nat.zero_add] at a0 b0 c0;clear hk;go_wp2_with fail;refine(HM.out _ HK.out).mono ?_;rintro e w3 ⟨rfl,hk⟩;have HR0:=O (hk.rangeAt HR0.out);have HK:=O (HK.out.trans hk);obtain⟨a0,b0,c0,-⟩:=dY (p:=p) (v:=(.slice oa n ca)) (by rw[Hpc.out];exact HR0.out);simp only[Nat.zero_add] at a0 b0 c0;clear hk;go_wp2_with fail;go_ret;exact⟨by rw[HS.out];rfl,HK.out⟩
  ·skip
   cases t3
   ·have y3:decide (p.birth<1)=true:=decide_eq_true (by have:=of_decide_eq_false ht3;omega)
    go_enter Tryz.func32,Tryz.ntmps32
    go_wp2_with (first
     | ((with_reducible show WL _ (.load 35 (.tmp 1)));refine aY (by rfl) 35 (.tmp 1) rfl (w.heap.size) 0 rfl pc _ HR0.out aJ rfl (fD hl0) ?_))
    refine HC.out.mono ?_;rintro e w2 ⟨rfl,hk⟩;have HR0:=O (hk.rangeAt HR0.out);have HK:=O (HK.out.trans hk);obtain⟨a0,b0,c0,-⟩:=dY (p:=p) (v:=(.slice oa n ca)) (by rw[Hpc.out];exact HR0.out);simp only[Nat.zero_add] at a0 b0 c0;clear hk;go_wp2_with fail;refine(HM.out _ HK.out).mono ?_;rintro e w3 ⟨rfl,hk⟩;have HR0:=O (hk.rangeAt HR0.out);have HK:=O (HK.out.trans hk);obtain⟨a0,b0,c0,-⟩:=dY (p:=p) (v:=(.slice oa n ca)) (by rw[Hpc.out];exact HR0.out);simp only[Nat.zero_add] at a0 b0 c0;clear hk;go_wp2_with fail;go_ret;exact⟨by rw[HS.out];rfl,HK.out⟩
   ·have y3:decide (p.birth<1)=false:=decide_eq_false (by have:=of_decide_eq_true ht3;omega)
    cases t4
    ·have y4:decide (2147483648<p.birth)=true:=decide_eq_true (by have:=of_decide_eq_false ht4;omega)
     go_enter Tryz.func32,Tryz.ntmps32
     go_wp2_with (first
      | ((with_reducible show WL _ (.load 35 (.tmp 1)));refine aY (by rfl) 35 (.tmp 1) rfl (w.heap.size) 0 rfl pc _ HR0.out aJ rfl (fD hl0) ?_))
     refine HC.out.mono ?_;rintro e w2 ⟨rfl,hk⟩;have HR0:=O (hk.rangeAt HR0.out);have HK:=O (HK.out.trans hk);obtain⟨a0,b0,c0,-⟩:=dY (p:=p) (v:=(.slice oa n ca)) (by rw[Hpc.out];exact HR0.out);simp only[Nat.zero_add] at a0 b0 c0;clear hk;go_wp2_with fail;refine(HM.out _ HK.out).mono ?_;rintro e w3 ⟨rfl,hk⟩;have HR0:=O (hk.rangeAt HR0.out);have HK:=O (HK.out.trans hk);obtain⟨a0,b0,c0,-⟩:=dY (p:=p) (v:=(.slice oa n ca)) (by rw[Hpc.out];exact HR0.out);simp only[Nat.zero_add] at a0 b0 c0;clear hk;go_wp2_with fail;go_ret;exact⟨by rw[HS.out];rfl,HK.out⟩
    ·have y4:decide (2147483648<p.birth)=false:=decide_eq_false (by have:=of_decide_eq_true ht4;omega)
     cases t5
     ·have y5:decide (p.level<0)=true:=decide_eq_true (by have:=of_decide_eq_false ht5;omega)
      go_enter Tryz.func32,Tryz.ntmps32
      go_wp2_with (first
       | ((with_reducible show WL _ (.load 35 (.tmp 1)));refine aY (by rfl) 35 (.tmp 1) rfl (w.heap.size) 0 rfl pc _ HR0.out aJ rfl (fD hl0) ?_))
      refine HC.out.mono ?_;rintro e w2 ⟨rfl,hk⟩;have HR0:=O (hk.rangeAt HR0.out);have HK:=O (HK.out.trans hk);obtain⟨a0,b0,c0,-⟩:=dY (p:=p) (v:=(.slice oa n ca)) (by rw[Hpc.out];exact HR0.out);simp only[Nat.zero_add] at a0 b0 c0;clear hk;go_wp2_with fail;refine(HM.out _ HK.out).mono ?_;rintro e w3 ⟨rfl,hk⟩;have HR0:=O (hk.rangeAt HR0.out);have HK:=O (HK.out.trans hk);obtain⟨a0,b0,c0,-⟩:=dY (p:=p) (v:=(.slice oa n ca)) (by rw[Hpc.out];exact HR0.out);simp only[Nat.zero_add] at a0 b0 c0;clear hk;go_wp2_with fail;go_ret;exact⟨by rw[HS.out];rfl,HK.out⟩
     ·have y5:decide (p.level<0)=false:=decide_eq_false (by have:=of_decide_eq_true ht5;omega)
      cases t6
      ·have y6:decide (3<p.level)=true:=decide_eq_true (by have:=of_decide_eq_false ht6;omega)
       go_enter Tryz.func32,Tryz.ntmps32
       go_wp2_with (first
        | ((with_reducible show WL _ (.load 35 (.tmp 1)));refine aY (by rfl) 35 (.tmp 1) rfl (w.heap.size) 0 rfl pc _ HR0.out aJ rfl (fD hl0) ?_))
       refine HC.out.mono ?_;rintro e w2 ⟨rfl,hk⟩;have HR0:=O (hk.rangeAt HR0.out);have HK:=O (HK.out.trans hk);obtain⟨a0,b0,c0,-⟩:=dY (p:=p) (v:=(.slice oa n ca)) (by rw[Hpc.out];exact HR0.out);simp only[Nat.zero_add] at a0 b0 c0;clear hk;go_wp2_with fail;refine(HM.out _ HK.out).mono ?_;rintro e w3 ⟨rfl,hk⟩;have HR0:=O (hk.rangeAt HR0.out);have HK:=O (HK.out.trans hk);obtain⟨a0,b0,c0,-⟩:=dY (p:=p) (v:=(.slice oa n ca)) (by rw[Hpc.out];exact HR0.out);simp only[Nat.zero_add] at a0 b0 c0;clear hk;go_wp2_with fail;go_ret;exact⟨by rw[HS.out];rfl,HK.out⟩
      ·have y6:decide (3<p.level)=false:=decide_eq_false (by have:=of_decide_eq_true ht6;omega)
       go_enter Tryz.func32,Tryz.ntmps32
       go_wp2_with (first
        | ((with_reducible show WL _ (.load 35 (.tmp 1)));refine aY (by rfl) 35 (.tmp 1) rfl (w.heap.size) 0 rfl pc _ HR0.out aJ rfl (fD hl0) ?_))
       refine HC.out.mono ?_;rintro e w2 ⟨rfl,hk⟩;have HR0:=O (hk.rangeAt HR0.out);have HK:=O (HK.out.trans hk);obtain⟨a0,b0,c0,-⟩:=dY (p:=p) (v:=(.slice oa n ca)) (by rw[Hpc.out];exact HR0.out);simp only[Nat.zero_add] at a0 b0 c0;clear hk;go_wp2_with fail;refine(HM.out _ HK.out).mono ?_;rintro e w3 ⟨rfl,hk⟩;have HR0:=O (hk.rangeAt HR0.out);have HK:=O (HK.out.trans hk);obtain⟨a0,b0,c0,-⟩:=dY (p:=p) (v:=(.slice oa n ca)) (by rw[Hpc.out];exact HR0.out);simp only[Nat.zero_add] at a0 b0 c0;clear hk;go_wp2_with fail;go_ret;exact⟨by rw[HS.out];rfl,HK.out⟩
 ·skip
  go_enter Tryz.func32,Tryz.ntmps32
  go_wp2_with (first
   | ((with_reducible show WL _ (.load 35 (.tmp 1)));refine aY (by rfl) 35 (.tmp 1) rfl (w.heap.size) 0 rfl pc _ HR0.out aJ rfl (fD hl0) ?_))
  refine HC.out.mono ?_;rintro e w2 ⟨rfl,hk⟩;have HR0:=O (hk.rangeAt HR0.out);have HK:=O (HK.out.trans hk);obtain⟨a0,b0,c0,-⟩:=dY (p:=p) (v:=(.slice oa n ca)) (by rw[Hpc.out];exact HR0.out);simp only[Nat.zero_add] at a0 b0 c0;clear hk;go_wp2_with fail;go_ret;exact⟨by rw[HS.out];rfl,HK.out⟩
open Go.RowKit Go.Maps Go.ChangeMaps
set_option maxRecDepth 100000
set_option linter.unusedVariables false
def Pt.eqB(p q:Pt):Bool:=decide (p.addrs=q.addrs) && (p.birth == q.birth) && (p.level == q.level) && decide (p.sum=q.sum)
def Ub.eqB(u v:Ub):Bool:=(u.txg == v.txg) && (u.len == v.len) && decide (u.pool=v.pool) && u.root.eqB v.root
theorem Lr(n k r:Nat)(h:r<k):(be n k).take (r+1)=(be n k).take r++[iE n k r]:=by
 unfold be;rw[List.take_add_one,List.getElem?_map,List.getElem?_range h];rfl
def Lt(w:World)(base:Nat)(v:Value)(l:List UInt8)(e:Ending)(w':World):Prop:=
 ∃v',e=.returned v'/\w'.ownsRow base 5 1 v' l.length (l.map vb)/\(v'.ownBlock=v.ownBlock\/∀i,v'.ownBlock=some i->w.heap.size≤i)/\aA (fun i=>v.ownBlock=some i) w w'
theorem kM(w:World)(base:Nat)(v:Value)(l:List UInt8)(n k:Nat)(ho:w.ownsRow base 5 1 v l.length (l.map vb))(hb:base≤w.heap.size)(h1:1≤k)(hk:k≤4)(hl:l.length≤1000)(hn:n≤9223372036854775807) :
 Calls Tryz.prog 154 #[v,.int .i64 (n:Int),.int .i64 (k:Int)] w (Lt w base v (l++be n k)):=by
 have HO:=O ho;obtain⟨oa,ca,rfl,-,-⟩:=(Rd.of_owns ho).form;obtain⟨q,hq⟩:∃q,l.length=q:=⟨_,rfl⟩
 have HQ:=O hq;rw[hq] at HO hl ⊢;clear ho hq;go_enter Tryz.func154,Tryz.ntmps154;go_wp2_with fail
 go_loopw [0,7] (fun t i wr=>∃(r:Nat) (ii:Int) (pa:Option Addr) (pc:Nat),r≤k/\ii=(k:Int)-1-(r:Int)/\t=.slice pa (q+r) pc/\i=.int .i64 ii/\Hid (wr.ownsRow base 5 1 (.slice pa (q+r) pc) (q+r) ((l++(be n k).take r).map vb))/\Hid ((Value.slice pa (q+r) pc).ownBlock=(Value.slice oa q ca).ownBlock\/∀i,(Value.slice pa (q+r) pc).ownBlock=some i->w.heap.size≤i)/\Hid (aA (fun i=>(Value.slice oa q ca).ownBlock=some i) w wr)) (fun _ i _=>(intOf i+1).toNat)
 case atStart=>exact⟨0,(k:Int)-1,oa,ca,Nat.zero_le _,by omega,rfl,by go_num,O (by rw[List.take_zero,List.append_nil];exact HO.out),O (.inl rfl),O (aA.refl _ _)⟩
 case round =>
 clear HO;obtain⟨r,ii,pa,pc,hr,hii,rfl,rfl,HR,HB,HK⟩:=hrel
 by_cases hlt:r<k
 ·have hi0:(0:Int)≤ii:=by omega
  have hi4:ii≤3:=by omega
  obtain⟨j,hj⟩:∃j:Nat,ii=(j:Int):=⟨ii.toNat,by omega⟩
  have hjr:j=k-r-1:=by omega
  have hj3:j≤3:=by omega
  have hjj:=rA n k r;rw[←hjr] at hjj;have HV:Hid (Value.int .u8 ((n:Int) / 2 ^ (8*j) % 256)=vb (iE n k r)):=O (by unfold vb;rw[hjj]);have hd:0≤ii:=hi0;obtain⟨w8,hw8,hk8,hb8,hs8⟩:=aU wr #[.int .u8 ((n:Int) / 2 ^ (8*j) % 256)] 5;obtain⟨bz,hbz⟩:∃b,wr.heap.size=b:=⟨_,rfl⟩
  rw[hbz] at hb8;have HR8:Hid (Rd w8 1 (.slice (some ⟨bz,0,none⟩) 1 1) 1 [vb (iE n k r)]):=O (by rw[←HV.out];exact cG (n:=1) (size:=1) (vs:=[.int .u8 ((n:Int) / 2 ^ (8*j) % 256)]) hb8 rfl (by unfold maxLen;omega));have HO8:=O (hk8.owns HR.out fun _ _=>id);have HK8:=O (HK.out.trans' hk8 (U:=fun i=>(Value.slice oa q ca).ownBlock=some i) (fun _ _ h=>h) (fun _ _ h=>h.elim));have hsz8:base≤w8.heap.size:=Nat.le_trans hb HK8.out.size;have HBZ:=O hbz;have HSW:=O HK.out.size;have hone:∀u∈[vb (iE n k r)],u.oneCell'=true:=by intro u hu;rw[List.mem_singleton.1 hu];rfl
  have HW8:=O hw8;subst hj;have HII:=O hii;have hj1:(j:Int)≤3:=hi4;clear hii hk8 hb8 hs8 hbz hw8 hjj hjr HR HK
  go_wp2_with (first
   | (at_builtin;try rw[HW8.out]
      try rw[HBZ.out]
      refine aI rfl (.tmp 14) (.tmp 20) 215 rfl base 5 _ 1 1 Tryz.underlying215 dF rfl (by omega) (.slice pa (q+r) pc) (q+r) ((l++(be n k).take r).map vb) rfl HO8.out (.slice (some ⟨bz,0,none⟩) 1 1) 1 [vb (iE n k r)] rfl HR8.out hone (by unfold maxLen;omega) (by omega) hsz8 ?_;intro v' w9 ho5 hk5 hn5 hb5;obtain⟨va,vc,rfl,-,-⟩:=(Rd.of_owns ho5).form;have HO5:Hid (w9.ownsRow base 5 1 (.slice va (q+(r+1)) vc) (q+(r+1)) ((l++(be n k).take (r+1)).map vb)):=O (by rw[Lr n k r hlt,←List.append_assoc,List.map_append,List.map_singleton];exact ho5)
      have HB5:Hid ((Value.slice va (q+r+1) vc).ownBlock=(Value.slice oa q ca).ownBlock\/∀i,(Value.slice va (q+r+1) vc).ownBlock=some i->w.heap.size≤i):=O (by
       rcases hb5 with h|h
       ·rw[h]
        exact HB.out
       ·refine .inr fun i hi=>?_
        rw[h] at hi;cases hi
        exact HK8.out.size)
      have HK9:=O (HK8.out.trans' hk5 (U:=fun i=>(Value.slice oa q ca).ownBlock=some i) (fun _ _ h=>h) (fun i hi e=>by
       rcases HB.out with h|h
       ·rw[←h];exact e
       ·have:=h i e;omega))
      clear ho5 hk5 hn5 hb5))
  go_roundw
  case rel=>exact⟨r+1,(j:Int)-1,va,vc,by omega,by have:=HII.out;omega,rfl,by go_num,HO5,HB5,HK9⟩
  case measure=>simp[intOf]
 ·obtain rfl:k=r:=by omega
  have hi0:¬(0:Int)≤ii:=by omega
  have hd:decide ((0:Int)≤ii)=false:=decide_eq_false hi0;have hi5:ii<0:=by omega
  clear hii;go_wp2_with fail;go_ret;refine⟨_,rfl,?_,HB.out,HK.out⟩;have h:=HR.out;rw[List.take_of_length_le (by rw[bD];exact Nat.le_refl _)] at h;rw[List.length_append,bD,HQ.out];exact h
theorem Ci{P:Program}{t u e:TypeId}{du:TypeDesc}(ht:P.underlying t=some (.slice e))(hu:P.underlying u=some du)(hd:(du matches .int _)=false)(ty:TypeId)(args:Array Value)(w:World) :
 (Builtin.append_ #[t,u] ty args).run P w=(Builtin.append_ #[t,t] ty args).run P w:=by
 unfold Builtin.append_;rcases h0:args[0]? with _|s
 ·simp
 rcases h1:args[1]? with _|x
 ·simp
 simp only[List.getElem?_toArray,List.getElem?_cons_zero,List.getElem?_cons_succ];simp only[Sem.run_bind,run_underlying ht,Result.andThen_ok];cases s<;>try rfl
 simp only[Sem.run_bind,run_underlying ht,run_underlying hu,Result.andThen_ok,Sem.run_pure];cases du<;>first|rfl|(simp at hd)|skip
theorem vA{P:Program}{w:World}{ops:Array Oper}{rest:List Oper}{o:Oper}{a:Act}{Q:Exit->Act->World->Prop}(hgd:o.guard=none)(s x:Operand)(t u:TypeId)
 (ho:o.op=.call { callee:=.builtin .append,args:=#[s,x],argTypes:=#[t,u] }) (du:TypeDesc) (hu:P.underlying u=some du) (hdu:(du matches .int _)=false)
 (base:Nat) (e:TypeId) (z:Value) (size bytes:Nat) (ht:P.underlying t=some (.slice e)) (hinf:(P.info? e).map (fun i=>(i.zero,i.size,i.bytes))=some (some z,size,bytes)) (hzs:z.cells.size=size) (hsz:0<size)
 (v:Value) (n:Nat) (xs:List Value) (hs:a.eval s=v) (hown:w.ownsRow base e size v n xs)
 (ad:Addr) (m c:Nat) (news:List Value) (hx:a.eval x=.slice (some ad) m c) (hl:news.length=m*size) (hcells:∀j u,news[j]?=some u->w.cell? (ad.add j)=some u) (h1:∀u∈news,u.oneCell'=true)
 (h63:n+m≤maxLen) (hbytes:(n+m)*bytes≤140737488355328) (hbase:base≤w.heap.size)
 (h:∀v' w',w'.ownsRow base e size v' (n+m) (xs++news)->aA (fun k=>v.ownBlock=some k) w w'->(v'.ownBlock=v.ownBlock\/v'.ownBlock=some w.heap.size)->wpList P ops Q rest (a.put o.dst v') w'):wpList P ops Q (o::rest) a w:=by
 obtain⟨i,hi,hz0,hz1,hz2⟩:=info_parts hinf;refine wpList_plain hgd fun K hK=>?_
 obtain⟨v',w',hr,h2,h3,h4,h5⟩:=run_append_own_at (P:=P) w base t o.type e i z size bytes ht hi hz0 hz1 hz2 hzs hsz v n xs hown ad m c news hl hcells h1 h63 hbytes hbase;rw[←Ci ht hu hdu] at hr;unfold Oper.wp execOp;simp only[ho,resolve,invoke,builtin,Sem.run_bind,Sem.run_pure,Result.andThen_ok,List.map_toArray,List.map_cons,List.map_nil,hs,hx,hr];exact hK _ _ (h v' w' h2 (aA.of_grown h3) h5)
open Go.RowKit Go.Maps Go.ChangeMaps
set_option maxRecDepth 100000
set_option linter.unusedVariables false
def zAd:Ad:=⟨0,0⟩
def Mt(a:Ad):List UInt8:=be a.dev.toNat 1++be a.sec.toNat 2
def bQ(p:Pt)(k:Nat):List UInt8:=be p.addrs.length 1++(List.range k).flatMap fun i=>Mt (p.addrs.getD i zAd)
def dG(p:Pt):List UInt8:=bQ p 3++be p.birth.toNat 4++be p.level.toNat 1++p.sum
def ptB(p:Pt):List UInt8:=if p.may then dG p else []
theorem pX(p:Pt)(k:Nat):bQ p (k+1)=bQ p k++be (p.addrs.getD k zAd).dev.toNat 1++be (p.addrs.getD k zAd).sec.toNat 2:=by
 unfold bQ;rw[List.range_succ,List.flatMap_append,List.append_assoc,List.append_assoc];simp[Mt]
theorem eK(p:Pt)(k:Nat):(bQ p k).length=1+3*k:=by
 induction k with
 | zero=>simp[bQ,bD]
 | succ k ih=>rw[pX,List.length_append,List.length_append,ih,bD,bD];omega
theorem fS{p:Pt}(h:p.sum.length=32):(dG p).length=47:=by
 unfold dG;simp only[List.length_append,eK,bD,h]
theorem mO{p:Pt}(h:p.may=true):p.addrs.length≤3/\(∀a∈p.addrs,jW a=true)/\0≤p.birth/\p.birth≤2147483648/\0≤p.level/\p.level≤3:=by
 unfold Pt.may at h;rw[Bool.or_eq_true] at h;rcases h with h|h
 ·unfold Pt.hole Pt.noth at h
  simp only[Bool.and_eq_true,beq_iff_eq,decide_eq_true_eq] at h;have h0:p.addrs=[]:=List.eq_nil_of_length_eq_zero (by omega);rw[h0];exact⟨by simp,by simp,by omega,by omega,by omega,by omega⟩
 ·unfold pW Pt.numsB at h
  simp only[Bool.and_eq_true,decide_eq_true_eq,List.all_eq_true] at h;exact⟨h.1.2,h.1.1.1.1,by omega,by omega,by omega,by omega⟩
theorem GJ{l:List Ad}(h:∀a∈l,jW a=true)(k:Nat):∃d s:Nat,l.getD k zAd=⟨(d:Int),(s:Int)⟩/\d<8/\s<4096:=by
 rw[List.getD_eq_getElem?_getD];cases e:l[k]? with
 | none=>exact⟨0,0,rfl,by omega,by omega⟩
 | some a =>
   have:=h a (List.mem_of_getElem? e);unfold jW at this;simp only[Bool.and_eq_true,decide_eq_true_eq] at this;obtain⟨x,y⟩:=a;simp only at this;exact⟨x.toNat,y.toNat,by show (⟨x,y⟩:Ad)=_;rw[Int.toNat_of_nonneg (by omega),Int.toNat_of_nonneg (by omega)],by omega,by omega⟩
def AK(w:World)(p:Pt)(e:Ending)(w':World):Prop:=
 ∃v,e=.returned (.tuple #[v,.int .i64 (if p.may then 0 else 2)])/\w'.ownsRow w.heap.size 5 1 v (ptB p).length ((ptB p).map vb)/\aA aB w w'
theorem AL(w:World)(v:Value)(p:Pt)(h0:PtV w v p):Calls Tryz.prog 92 #[.agg (aE v p).toArray] w (AK w p):=by
 obtain⟨oa,ca,hv,-,-⟩:=h0.rd.form;subst hv;obtain⟨n,hn⟩:∃x,p.addrs.length=x:=⟨_,rfl⟩
 have HN:=O hn;rw[hn] at h0 ⊢;obtain⟨w1,hw1,hk1,hb_0,hs1⟩:=aU w (aE (.slice oa n ca) p).toArray 35;obtain⟨a0,b0,c0,d0⟩:=dY (aD hb_0);have HP0:=O d0;have HB0:=O hb_0;have hl0:(aE (.slice oa n ca) p).length=35:=aO h0.sum;simp only[Nat.zero_add] at a0 b0 c0;have HC:=O (jP w1 _ p (h0.keep hk1 fun _ _=>id));have HK:=O hk1;have HKA:=O hk1;have HRA:=O h0.rd;obtain⟨t,ht⟩:∃t,p.may=t:=⟨_,rfl⟩
 have HT:=O ht;rw[ht] at HC;have HR0:=O (aD HB0.out);have HSL:=O h0.sum;obtain⟨pc,hpc⟩:∃x,aE (.slice oa n ca) p=x:=⟨_,rfl⟩
 have Hpc:=O hpc;rw[hpc] at hw1 HC hl0 HR0 ⊢;have HK1:=O (aA.refl aB w1);have hs1e:w.heap.size<w1.heap.size:=by omega
 obtain⟨pb,hpb⟩:∃b,w.heap.size=b:=⟨_,rfl⟩
 have HPB:=O hpb;rw[hpb] at a0 b0 c0 HR0 hs1e;have HRW:Hid (w1.rangeAt pb 0 pc):=HR0;clear ht hb_0 d0 hk1 hs1 hpc h0 HB0 HP0 hn hpb;cases t
 ·go_enter Tryz.func92,Tryz.ntmps92
  go_wp2_with (first
   | ((with_reducible show WL _ (.load 35 (.tmp 1)));refine aY (by rfl) 35 (.tmp 1) rfl (w.heap.size) 0 rfl pc _ (by rw[HPB.out];exact HR0.out) aJ rfl (fD hl0) ?_))
  refine HC.out.mono ?_;rintro e w2 ⟨rfl,hk⟩;have HK2:=O hk;have HK:=O (HK.out.trans hk);clear hk HC;go_wp2_with fail
  go_ret2
  exact⟨_,by rw[HT.out];rfl,by rw[show ptB p=[] by unfold ptB;rw[HT.out];rfl];exact World.ownsRow_nil _ _ _ _,HK.out⟩
 ·obtain⟨hn3,hin,hb0,hb4,hl0',hl4⟩:=mO HT.out
  rw[HN.out] at hn3;have HIN:=O hin;obtain⟨bi,hbi⟩:∃b:Nat,p.birth=(b:Int):=⟨p.birth.toNat,by omega⟩
  obtain⟨le,hle⟩:∃b:Nat,p.level=(b:Int):=⟨p.level.toNat,by omega⟩
  have hbib:bi≤2147483648:=by omega
  have hleb:le≤3:=by omega
  have HBI:=O hbi;have HLE:=O hle;rw[hbi] at b0;rw[hle] at c0;have HA0:=O a0;have HB0:=O b0;have HC0:=O c0;clear hin hb0 hb4 hl0' hl4 hbi hle;go_enter Tryz.func92,Tryz.ntmps92
  go_wp2_with (first
   | ((with_reducible show WL _ (.load 35 (.tmp 1)));refine aY (by rfl) 35 (.tmp 1) rfl (w.heap.size) 0 rfl pc _ (by rw[HPB.out];exact HR0.out) aJ rfl (fD hl0) ?_))
  refine HC.out.mono ?_;rintro e w2 ⟨rfl,hk⟩;have HK2:=O hk;have HK:=O (HK.out.trans hk);clear hk HC;obtain⟨w3,hw3,hk3,hb3,hs3⟩:=aU w2 #[] 5;obtain⟨B,hB⟩:∃B,w1.heap.size=B:=⟨_,rfl⟩
  have HBE:=O hB;have hpbB:pb<B:=by omega
  have hB2:B≤w2.heap.size:=by rw[←hB];exact HK2.out.size
  obtain⟨q0,hq0⟩:∃b,w2.heap.size=b:=⟨_,rfl⟩
  have HO3:Hid (w3.ownsRow B 5 1 (.slice (some ⟨q0,0,none⟩) 0 0) 0 []):=O (by rw[←hw3,←hq0];exact aP (World.ownsRow_made w2 #[] 0 (Nat.le_refl _) (by unfold maxLen;omega) rfl) hB2);have HK3:=O (HK2.out.trans hk3);have a0:=HK3.out.cell HA0.out id;have hB3:B≤w3.heap.size:=Nat.le_trans hB2 hk3.size;have hq0B:B≤q0:=by omega
  clear hk3 hb3 hs3 hB b0 c0 HK2;rw[HPB.out];go_wp2_with fail;refine(kM w3 B _ [] n 1 HO3.out hB3 (by omega) (by omega) (by simp) (by omega)).mono ?_;rintro e w4 ⟨v4,rfl,ho4,hb4,hk4⟩
  have HK4:=O (HK3.out.trans' hk4 (U:=aB) (fun _ _ h=>h) (fun i hi e=>by
   have e':q0=i:=Option.some.inj e;have:=HBE.out;omega))
  obtain⟨pa,pc',rfl,-,-⟩:=(Rd.of_owns ho4).form;have hlen0:([]++be n 1:List UInt8).length=1:=by simp[bD]
  rw[hlen0] at ho4 ⊢
  have HO4:Hid (w4.ownsRow B 5 1 (.slice pa 1 pc') 1 ((bQ p 0).map vb)):=O (by
   have e:bQ p 0=[]++be n 1:=by unfold bQ;rw[HN.out];simp
   rw[e];exact ho4)
  clear ho4 hb4 hk4 HO3 HK3 hlen0 a0 hw3 hq0;go_wp2_with fail
  go_loopw [5,18] (fun t i wr=>∃(k ql:Nat) (pa:Option Addr) (pc:Nat),k≤3/\t=.slice pa ql pc/\i=.int .i64 k/\ql≤10/\Hid (ql=1+3*k)/\Hid (wr.ownsRow B 5 1 (.slice pa ql pc) ql ((bQ p k).map vb))/\Hid (aA aB w1 wr)) (fun _ i _=>3-(intOf i).toNat)
  case atStart=>exact⟨0,1,pa,pc',by omega,rfl,rfl,by omega,O rfl,HO4,HK4⟩
  case round =>
  clear HO4 HK4;obtain⟨k,ql,pa,pcp,hk,rfl,rfl,hql,HQL,HO,HKW⟩:=hrel;have a0:=HKW.out.cell HA0.out id
  by_cases hlt:k<3
  ·have hki:(k:Int)<3:=by omega
   have hk0:(0:Int)≤(k:Int):=by omega
   obtain⟨d,s,hds,hd8,hs4⟩:=GJ HIN.out k;have HDS:=O hds;obtain⟨w8,hw8,hk8,hb8,hs8⟩:=aU wr #[.int .i64 0,.int .i64 0] 49;obtain⟨ab,hab⟩:∃b,wr.heap.size=b:=⟨_,rfl⟩
   rw[hab] at hb8;have HLT:Hid (∀i,(Value.slice pa ql pcp).ownBlock=some i->i<ab):=O (fun i hi=>by rw[←hab];exact(HO.out.lt i hi).2);have HW8:=O hw8;have HB8:=O hb8;have HABE:=O hab;have HAW:Hid (w1.heap.size≤ab):=O (by rw[←hab];exact HKW.out.size);have HK8:=O (HKW.out.trans hk8);have HO8:=O (hk8.owns HO.out fun _ _=>id);have a8:=HK8.out.cell HA0.out id;have hrk:=HRA.out.keep (HKA.out.trans HK8.out) (fun _ _=>id);clear hk8 hb8 hs8 hds a0
   by_cases hka:k<n
   ·have hkai:(k:Int)<(n:Int):=by omega
    obtain⟨x,h_x⟩:∃x,p.addrs[k]?=some x:=⟨p.addrs[k]'(by rw[HN.out];exact hka),List.getElem?_eq_getElem _⟩
    have hxe:x=⟨(d:Int),(s:Int)⟩:=by
     have:=HDS.out;rw[List.getD_eq_getElem?_getD,h_x] at this;exact this
    subst hxe;rw[←HN.out] at hrk;obtain⟨g,o,cap',h_v,h_at⟩:=mD hrk h_x;rw[HN.out] at h_v;have e1:oa=some ⟨g,o,none⟩:=by cases h_v;rfl
    subst e1;have HX:=O h_at;clear h_x h_v h_at hrk
    go_wp2_with (first
     | ((with_reducible show WL (some 7) (.alloc 49));refine aS rfl 49 rfl eE eA #[.int .i64 0,.int .i64 0] rfl ?_;rw[hw8,hab])
     | ((with_reducible show WL _ (.load 49 (.tmp 29)));refine wpList_load_mid rfl 49 (.tmp 29) rfl g (o+k*2) rfl (aN ⟨(d:Int),(s:Int)⟩) _ HX.out bX rfl cE ?_)
     | ((with_reducible show WL none (.store 49 (.tmp 7) (.tmp 30)));refine aM rfl 49 (.tmp 7) (.tmp 30) rfl ab 0 (aN ⟨(d:Int),(s:Int)⟩) rfl rfl #[.int .i64 0,.int .i64 0] 49 HB8.out (Nat.le_refl _) cE (bH _) ?_
        intro w9 hb9 hk9;rw[aG _ _ (by rfl)] at hb9;have HAB:=O hb9;have HK9:=O (HK8.out.trans' hk9 (U:=aB) (fun _ _ h=>h) (fun i hi e=>by have:=HAW.out;omega));have HO9:=O (hk9.owns HO8.out (fun i hi e=>by have:=HLT.out i hi;omega));clear hb9 hk9))
    clear HW8 HB8 HK8 HO8 a8 hw8 hab;obtain⟨S,hS0⟩:∃S:World->Prop,S=fun w'=>aA aB w1 w'/\w'.heap[ab]?=some (.cells (aN ⟨(d:Int),(s:Int)⟩).toArray 49 (0,0)):=⟨_,rfl⟩
    have HS1:=O (show ∀w',S w'->aA aB w1 w' from fun w' h=>by rw[hS0] at h;exact h.1);have HS2:=O (show ∀w',S w'->w'.heap[ab]?=some (.cells (aN ⟨(d:Int),(s:Int)⟩).toArray 49 (0,0)) from fun w' h=>by rw[hS0] at h;exact h.2);have HSI:=O (show ∀w',aA aB w1 w'->w'.heap[ab]?=some (.cells (aN ⟨(d:Int),(s:Int)⟩).toArray 49 (0,0))->S w' from fun w' h h2=>by rw[hS0];exact⟨h,h2⟩);have HD0:=O (fun w' (h:S w')=>(aC (HS2.out w' h) rfl:w'.cell? ⟨ab,0,none⟩=some (.int .i64 (d:Int))));have HD1:=O (fun w' (h:S w')=>(aC (HS2.out w' h) rfl:w'.cell? ⟨ab,1,none⟩=some (.int .i64 (s:Int))));have hS:S w9.drew:=HSI.out _ HK9.out.drew ((aA.refl aB w9).drew.blk HAB.out id);have hod:=(aA.refl aB w9).drew.owns HO9.out (fun _ _=>id);clear hS0;refine wp_region_held (S:=S) (by kernel_rfl) ?_;change wpAnyH _ _ _ _ _ _ _ _ w9.drew;generalize w9.drew=w10 at hS hod ⊢;refine tka 0 (.slice pa ql pcp) rfl hS ?_;simp only[Act.put,List.setIfInBounds_toArray,List.set_cons_zero,List.set_cons_succ,List.getElem_toArray,List.getElem_cons_zero];refine tnb 1 (.pointer (some ⟨ab,0,none⟩)) rfl hS ?_;refine tnd 2 (.int .i64 (d:Int)) rfl (.inl ⟨by rfl,fun w' hw'=>by have c:=HD0.out w' hw';go_simp⟩) hS ?_;refine tnb 4 (.pointer (some ⟨ab,1,none⟩)) rfl hS ?_;refine tnd 5 (.int .i64 (s:Int)) rfl (.inl ⟨by rfl,fun w' hw'=>by have c:=HD1.out w' hw';go_simp⟩) hS ?_;refine wA9 3 ?_;go_wp2_with fail;have hB10:B≤w10.heap.size:=by rw[←HBE.out];exact(HS1.out _ hS).size
    have hod':w10.ownsRow B 5 1 (.slice pa ql pcp) (bQ p k).length ((bQ p k).map vb):=by rw[eK,←HQL.out];exact hod
    refine(kM w10 B _ (bQ p k) d 1 hod' hB10 (by omega) (by omega) (by rw[eK];omega) (by omega)).mono ?_;rintro e w11 ⟨v11,rfl,ho11,hb11,hk11⟩;obtain⟨qa,qc,rfl,-,-⟩:=(Rd.of_owns ho11).form;have hlt9:∀i,(Value.slice pa ql pcp).ownBlock=some i->B≤i/\i<ab:=fun i hi=>⟨bE hod hi,HLT.out i hi⟩
    have hS11:S w11:=HSI.out _ ((HS1.out _ hS).trans' hk11 (U:=aB) (fun _ _ h=>h) (fun i hi e=>by have:=(hlt9 i e).1;have:=HBE.out;omega)) (hk11.blk (HS2.out _ hS) (fun e=>by have:=(hlt9 ab e).2;omega))
    have hq11:∀i,(Value.slice qa (bQ p k++be d 1).length qc).ownBlock=some i->B≤i/\i≠ab:=fun i hi=>⟨bE ho11 hi,by
     rcases hb11 with h|h
     ·rw[h] at hi;have:=(hlt9 i hi).2;omega
     ·have h1:=h i hi
      have h2:=lt_of_block (HS2.out _ hS);omega⟩
    have hlen:(bQ p k++be d 1).length=ql+1:=by rw[List.length_append,eK,bD,HQL.out]
    have hB11:B≤w11.heap.size:=Nat.le_trans hB10 hk11.size;rw[hlen] at hq11 ⊢;have ho11':=ho11;rw[hlen] at ho11';clear hS hod hod' hk11 hb11 hlt9;go_wp2_with fail;refine⟨hS11,?_⟩;refine wA9 6 ?_;go_wp2_with fail;refine(kM w11 B _ (bQ p k++be d 1) s 2 (by rw[hlen];exact ho11') hB11 (by omega) (by omega) (by rw[hlen];omega) (by omega)).mono ?_;rintro e w12 ⟨v12,rfl,ho12,-,hk12⟩;obtain⟨ra,rc,rfl,-,-⟩:=(Rd.of_owns ho12).form;have hS12:S w12:=HSI.out _ ((HS1.out _ hS11).trans' hk12 (U:=aB) (fun _ _ h=>h) (fun i hi e=>by have:=(hq11 i e).1;have:=HBE.out;omega)) (hk12.blk (HS2.out _ hS11) (fun e=>(hq11 ab e).2 rfl));have hlen2:(bQ p k++be d 1++be s 2).length=ql+3:=by rw[List.length_append,hlen,bD]
    have hpe:bQ p k++be d 1++be s 2=bQ p (k+1):=by
     rw[pX,HDS.out]
     first|rfl|(show _=bQ p k++be (Int.toNat _) 1++be (Int.toNat _) 2;rw[Int.toNat_natCast,Int.toNat_natCast])
    rw[hlen2] at ho12 ⊢;rw[hpe] at ho12;have HO12:=O ho12;clear hS11 hq11 ho11 ho11' hk12 ho12 hpe;go_wp2_with fail;refine⟨hS12,?_⟩;refine tna 7 (.slice ra (ql+3) rc) rfl hS12 ?_;refine wpAnyH_done (by kernel_rfl) ?_ _;have HK12:=O (HS1.out _ hS12);clear hS12 HS1 HS2 HSI HD0 HD1 HAB HO9 HK9 HLT;go_wp2_with fail
    go_roundw
    case rel=>exact⟨k+1,ql+3,ra,rc,by omega,rfl,by go_num,by have:=HQL.out;omega,O (by rw[HQL.out];omega),HO12,HK12⟩
    case measure=>simp[intOf];omega
   ·have hkai:¬(k:Int)<(n:Int):=by omega
    have hd0:d=0/\s=0:=by
     have h:=HDS.out;rw[List.getD_eq_getElem?_getD,List.getElem?_eq_none (by rw[HN.out];omega)] at h;have h1:=congrArg Ad.dev h;have h2:=congrArg Ad.sec h;have h3:(0:Int)=(d:Int):=h1;have h4:(0:Int)=(s:Int):=h2;omega
    obtain⟨rfl,rfl⟩:=hd0;have HAB:Hid (w8.heap[ab]?=some (.cells (aN ⟨((0:Nat):Int),((0:Nat):Int)⟩).toArray 49 (0,0))):=HB8;have HK9:=HK8;have HO9:=HO8;clear hrk
    go_wp2_with (first
     | ((with_reducible show WL (some 7) (.alloc 49));refine aS rfl 49 rfl eE eA #[.int .i64 0,.int .i64 0] rfl ?_;rw[hw8,hab]))
    obtain⟨w9,hw9⟩:∃w9,w8=w9:=⟨_,rfl⟩
    rw[hw9] at HAB HK9 HO9 ⊢;clear HW8 HB8 HK8 HO8 a8 hw8 hab hw9;obtain⟨S,hS0⟩:∃S:World->Prop,S=fun w'=>aA aB w1 w'/\w'.heap[ab]?=some (.cells (aN ⟨((0:Nat):Int),((0:Nat):Int)⟩).toArray 49 (0,0)):=⟨_,rfl⟩
    have HS1:=O (show ∀w',S w'->aA aB w1 w' from fun w' h=>by rw[hS0] at h;exact h.1);have HS2:=O (show ∀w',S w'->w'.heap[ab]?=some (.cells (aN ⟨((0:Nat):Int),((0:Nat):Int)⟩).toArray 49 (0,0)) from fun w' h=>by rw[hS0] at h;exact h.2);have HSI:=O (show ∀w',aA aB w1 w'->w'.heap[ab]?=some (.cells (aN ⟨((0:Nat):Int),((0:Nat):Int)⟩).toArray 49 (0,0))->S w' from fun w' h h2=>by rw[hS0];exact⟨h,h2⟩);have HD0:=O (fun w' (h:S w')=>(aC (HS2.out w' h) rfl:w'.cell? ⟨ab,0,none⟩=some (.int .i64 ((0:Nat):Int))));have HD1:=O (fun w' (h:S w')=>(aC (HS2.out w' h) rfl:w'.cell? ⟨ab,1,none⟩=some (.int .i64 ((0:Nat):Int))));have hS:S w9.drew:=HSI.out _ HK9.out.drew ((aA.refl aB w9).drew.blk HAB.out id);have hod:=(aA.refl aB w9).drew.owns HO9.out (fun _ _=>id);clear hS0;refine wp_region_held (S:=S) (by kernel_rfl) ?_;change wpAnyH _ _ _ _ _ _ _ _ w9.drew;generalize w9.drew=w10 at hS hod ⊢;refine tka 0 (.slice pa ql pcp) rfl hS ?_;simp only[Act.put,List.setIfInBounds_toArray,List.set_cons_zero,List.set_cons_succ,List.getElem_toArray,List.getElem_cons_zero];refine tnb 1 (.pointer (some ⟨ab,0,none⟩)) rfl hS ?_;refine tnd 2 (.int .i64 ((0:Nat):Int)) rfl (.inl ⟨by rfl,fun w' hw'=>by have c:=HD0.out w' hw';go_simp⟩) hS ?_;refine tnb 4 (.pointer (some ⟨ab,1,none⟩)) rfl hS ?_;refine tnd 5 (.int .i64 ((0:Nat):Int)) rfl (.inl ⟨by rfl,fun w' hw'=>by have c:=HD1.out w' hw';go_simp⟩) hS ?_;refine wA9 3 ?_;go_wp2_with fail;have hB10:B≤w10.heap.size:=by rw[←HBE.out];exact(HS1.out _ hS).size
    have hod':w10.ownsRow B 5 1 (.slice pa ql pcp) (bQ p k).length ((bQ p k).map vb):=by rw[eK,←HQL.out];exact hod
    refine(kM w10 B _ (bQ p k) 0 1 hod' hB10 (by omega) (by omega) (by rw[eK];omega) (by omega)).mono ?_;rintro e w11 ⟨v11,rfl,ho11,hb11,hk11⟩;obtain⟨qa,qc,rfl,-,-⟩:=(Rd.of_owns ho11).form;have hlt9:∀i,(Value.slice pa ql pcp).ownBlock=some i->B≤i/\i<ab:=fun i hi=>⟨bE hod hi,HLT.out i hi⟩
    have hS11:S w11:=HSI.out _ ((HS1.out _ hS).trans' hk11 (U:=aB) (fun _ _ h=>h) (fun i hi e=>by have:=(hlt9 i e).1;have:=HBE.out;omega)) (hk11.blk (HS2.out _ hS) (fun e=>by have:=(hlt9 ab e).2;omega))
    have hq11:∀i,(Value.slice qa (bQ p k++be 0 1).length qc).ownBlock=some i->B≤i/\i≠ab:=fun i hi=>⟨bE ho11 hi,by
     rcases hb11 with h|h
     ·rw[h] at hi;have:=(hlt9 i hi).2;omega
     ·have h1:=h i hi
      have h2:=lt_of_block (HS2.out _ hS);omega⟩
    have hlen:(bQ p k++be 0 1).length=ql+1:=by rw[List.length_append,eK,bD,HQL.out]
    have hB11:B≤w11.heap.size:=Nat.le_trans hB10 hk11.size;rw[hlen] at hq11 ⊢;have ho11':=ho11;rw[hlen] at ho11';clear hS hod hod' hk11 hb11 hlt9;go_wp2_with fail;refine⟨hS11,?_⟩;refine wA9 6 ?_;go_wp2_with fail;refine(kM w11 B _ (bQ p k++be 0 1) 0 2 (by rw[hlen];exact ho11') hB11 (by omega) (by omega) (by rw[hlen];omega) (by omega)).mono ?_;rintro e w12 ⟨v12,rfl,ho12,-,hk12⟩;obtain⟨ra,rc,rfl,-,-⟩:=(Rd.of_owns ho12).form;have hS12:S w12:=HSI.out _ ((HS1.out _ hS11).trans' hk12 (U:=aB) (fun _ _ h=>h) (fun i hi e=>by have:=(hq11 i e).1;have:=HBE.out;omega)) (hk12.blk (HS2.out _ hS11) (fun e=>(hq11 ab e).2 rfl));have hlen2:(bQ p k++be 0 1++be 0 2).length=ql+3:=by rw[List.length_append,hlen,bD]
    have hpe:bQ p k++be 0 1++be 0 2=bQ p (k+1):=by
     rw[pX,HDS.out]
     first|rfl|(show _=bQ p k++be (Int.toNat _) 1++be (Int.toNat _) 2;rw[Int.toNat_natCast,Int.toNat_natCast])
    rw[hlen2] at ho12 ⊢;rw[hpe] at ho12;have HO12:=O ho12;clear hS11 hq11 ho11 ho11' hk12 ho12 hpe;go_wp2_with fail;refine⟨hS12,?_⟩;refine tna 7 (.slice ra (ql+3) rc) rfl hS12 ?_;refine wpAnyH_done (by kernel_rfl) ?_ _;have HK12:=O (HS1.out _ hS12);clear hS12 HS1 HS2 HSI HD0 HD1 HAB HO9 HK9 HLT;go_wp2_with fail
    go_roundw
    case rel=>exact⟨k+1,ql+3,ra,rc,by omega,rfl,by go_num,by have:=HQL.out;omega,O (by rw[HQL.out];omega),HO12,HK12⟩
    case measure=>simp[intOf];omega
  ·obtain rfl:k=3:=by omega
   have HSM:=O ((dY (p:=p) (v:=.slice oa n ca) (by rw[Hpc.out];exact HRW.out)).2.2.2);rw[Nat.zero_add] at HSM;obtain⟨ss,hss⟩:∃x,p.sum.map vb=x:=⟨_,rfl⟩
   have HSS:=O hss;have hsl:ss.length=32:=by rw[←hss,List.length_map];exact HSL.out
   have hso:∀u∈ss,u.oneCell'=true:=by rw[←hss];exact bK _
   rw[hss] at HSM;have hqe:ql=10:=HQL.out;subst hqe;obtain⟨S,hS0⟩:∃S:World->Prop,S=fun w'=>aA aB w1 w':=⟨_,rfl⟩
   have HSE:=O (show ∀w',S w'->aA aB w1 w' from fun w' h=>by rw[hS0] at h;exact h);have HSI:=O (show ∀w',aA aB w1 w'->S w' from fun w' h=>by rw[hS0];exact h);have HD0:=O (fun w' (h:S w')=>(HSE.out w' h).cell HB0.out id);have HD1:=O (fun w' (h:S w')=>(HSE.out w' h).cell HC0.out id);have hod:=(aA.refl aB wr).drew.owns HO.out (fun _ _=>id);have hS:S wr.drew:=HSI.out _ HKW.out.drew;clear hS0 hss a0 HO;go_wp2_with fail;refine wp_region_held (S:=S) (by kernel_rfl) ?_;change wpAnyH _ _ _ _ _ _ _ _ wr.drew;generalize wr.drew=w10 at hS hod ⊢;refine tka 0 (.slice pa 10 pcp) rfl hS ?_;simp only[Act.put,List.setIfInBounds_toArray,List.set_cons_zero,List.set_cons_succ,List.getElem_toArray,List.getElem_cons_zero];refine tnb 1 (.pointer (some ⟨pb,1,none⟩)) rfl hS ?_;refine tnd 2 (.int .i64 (bi:Int)) rfl (.inl ⟨by rfl,fun w' hw'=>by have c:=HD0.out w' hw';go_simp⟩) hS ?_;refine tnb 4 (.pointer (some ⟨pb,2,none⟩)) rfl hS ?_;refine tnd 5 (.int .i64 (le:Int)) rfl (.inl ⟨by rfl,fun w' hw'=>by have c:=HD1.out w' hw';go_simp⟩) hS ?_;refine tnb 7 (.pointer (some ⟨pb,3,none⟩)) rfl hS ?_;refine tnb 8 (.slice (some ⟨pb,3,none⟩) 32 32) rfl hS ?_;refine wA9 3 ?_;go_wp2_with fail;have hB10:B≤w10.heap.size:=by rw[←HBE.out];exact(HSE.out _ hS).size
   refine(kM w10 B _ (bQ p 3) bi 4 (by rw[eK];exact hod) hB10 (by omega) (by omega) (by rw[eK];omega) (by omega)).mono ?_;rintro e w11 ⟨v11,rfl,ho11,hb11,hk11⟩;obtain⟨qa,qc,rfl,-,-⟩:=(Rd.of_owns ho11).form;have hS11:S w11:=HSI.out _ ((HSE.out _ hS).trans' hk11 (U:=aB) (fun _ _ h=>h) (fun i hi e=>by have:=bE hod e;have:=HBE.out;omega));have hlen:(bQ p 3++be bi 4).length=14:=by rw[List.length_append,eK,bD]
   have hB11:B≤w11.heap.size:=Nat.le_trans hB10 hk11.size;have ho11':=ho11;rw[hlen] at ho11' ⊢;clear hS hod hk11 hb11;go_wp2_with fail;refine⟨hS11,?_⟩;refine wA9 6 ?_;go_wp2_with fail;refine(kM w11 B _ (bQ p 3++be bi 4) le 1 (by rw[hlen];exact ho11') hB11 (by omega) (by omega) (by rw[hlen];omega) (by omega)).mono ?_;rintro e w12 ⟨v12,rfl,ho12,-,hk12⟩;obtain⟨ra,rc,rfl,-,-⟩:=(Rd.of_owns ho12).form;have hS12:S w12:=HSI.out _ ((HSE.out _ hS11).trans' hk12 (U:=aB) (fun _ _ h=>h) (fun i hi e=>by have:=bE ho11' e;have:=HBE.out;omega));have hlen2:(bQ p 3++be bi 4++be le 1).length=15:=by rw[List.length_append,hlen,bD]
   have hB12:B≤w12.heap.size:=Nat.le_trans hB11 hk12.size;rw[hlen2] at ho12 ⊢;clear hS11 ho11 ho11' hk12;go_wp2_with fail;refine⟨hS12,?_⟩;refine wA9 9 ?_
   refine vA rfl (.tmp 45) (.tmp 47) 215 22 rfl _ Tryz.underlying22 rfl B 5 _ 1 1 Tryz.underlying215 dF rfl (by omega) (.slice ra 15 rc) 15 ((bQ p 3++be bi 4++be le 1).map vb) rfl ho12 ⟨pb,3,none⟩ 32 32 ss rfl hsl (fun j u hj=>by
    rw[jL];exact(HSE.out _ hS12).cell (HSM.out j u hj) id) hso (by unfold maxLen;omega) (by omega) hB12 ?_
   intro v13 w13 ho13 hk13 hb13;obtain⟨sa,sc,rfl,-,-⟩:=(Rd.of_owns ho13).form;have hS13:S w13:=HSI.out _ ((HSE.out _ hS12).trans' hk13 (U:=aB) (fun _ _ h=>h) (fun i hi e=>by have:=bE ho12 e;have:=HBE.out;omega))
   have HO13:Hid (w13.ownsRow B 5 1 (.slice sa 47 sc) 47 ((dG p).map vb)):=O (by
    have e:(dG p).map vb=(bQ p 3++be bi 4++be le 1).map vb++ss:=by
     unfold dG;rw[HBI.out,HLE.out,Int.toNat_natCast,Int.toNat_natCast,List.map_append,HSS.out]
    rw[e];exact ho13)
   clear hS12 ho12 ho13 hk13 hb13;refine wpList_nil ?_;refine⟨hS13,?_⟩;refine tna 10 (.slice sa 47 sc) rfl hS13 ?_;refine tna 11 (.int .i64 0) rfl hS13 ?_;refine wpAnyH_done (by kernel_rfl) ?_ _;have HK13:=O (HSE.out _ hS13);clear hS13 HSE HSI;go_wp2_with fail
   go_ret2
   have e:ptB p=dG p:=by unfold ptB;rw[HT.out];rfl
   refine⟨_,by rw[HT.out];rfl,?_,HKA.out.trans HK13.out⟩;rw[e,fS HSL.out];exact aP HO13.out (by have:=HBE.out;have:=HPB.out;omega)
open Go.RowKit Go.Maps Go.ChangeMaps
set_option maxRecDepth 100000
set_option linter.unusedVariables false
theorem KU{n:Nat}(h:n<256):vb (UInt8.ofNat n)=.int .u8 (n:Int):=by
 unfold vb;simp;omega
def BO(w:World)(cb g p m c:Nat):Prop:=w.heap[cb]?=some (.cells #[.slice (some ⟨g,p,none⟩) m c] 300 (0,0))
theorem oV(w:World)(cb g p m c k:Nat)(bs:List UInt8)(hb:BO w cb g p m c)(hr:w.rangeAt g p (bs.map vb))(hl:bs.length=m)(hmc:m≤c)(hc:c≤9223372036854775807)(hk1:1≤k)(hk4:k≤4)(hkm:k<m) :
 Calls Tryz.prog 227 #[.pointer (some ⟨cb,0,none⟩),.int .i64 (k:Int)] w fun e w'=>e=.returned (.int .i64 (beN (bs.take k):Int))/\BO w' cb g (p+k) (m-k) (c-k)/\aA (fun i=>i=cb) w w':=by
 have c0:w.cell? ⟨cb,0,none⟩=some (.slice (some ⟨g,p,none⟩) m c):=aC hb rfl;have cf:=cK hb 0;have HB:=O hb;have HR:=O hr;have HL:=O hl;have hkc:(k:Int)≤(c:Int):=by omega
 have hkmi:(k:Int)≤(m:Int):=by omega
 have hk0:(0:Int)≤(k:Int):=by omega
 have hkcn:k≤c:=by omega
 clear hb hr hl;go_enter Tryz.func227,Tryz.ntmps227;go_wp2_with fail
 go_loop [5,15] (fun x i=>∃j:Nat,j≤k/\i=.int .i64 j/\x=.int .i64 (beN (bs.take j):Int)) (fun _ i=>k-(intOf i).toNat)
 case atStart=>exact⟨0,by omega,rfl,rfl⟩
 case round =>
  obtain⟨j,hj,rfl,rfl⟩:=hrel
  by_cases hjk:j<k
  ·have hjl:j<bs.length:=by rw[HL.out];omega
   have cj:w.cell? ⟨g,p+j,none⟩=some (.int .u8 (bs[j].toNat:Int)):=HR.out j _ (by simp[hjl,vb]);have hx:=Cp (bs.take j) (by simp;omega);have hs:=rF (bs.take j) bs[j];have hc8:=bs[j].toNat_lt;rw[←List.take_succ_eq_append_getElem hjl] at hs;obtain⟨q,hq⟩:∃q,bs[j].toNat=q:=⟨_,rfl⟩
   rw[hq] at cj hs hc8;obtain⟨y,hX⟩:∃y,beN (bs.take j)=y:=⟨_,rfl⟩
   rw[hX] at hs hx ⊢;have HS:=O hs;clear hs hX hq;have hj0:(0:Int)≤(j:Int):=by omega
   have hj1:(j:Int)<(k:Int):=by omega
   have hor:=Ei y q hx hc8;go_wp2_with fail
   go_round
   case rel=>exact⟨j+1,by omega,by go_num,by rw[HS.out];simp⟩
   case measure=>simp[intOf];omega
  ·obtain rfl:j=k:=by omega
   go_wp2_with fail;go_ret;refine⟨rfl,?_,(aA.refl (fun i=>i=cb) w).setCell (p:=⟨cb,0,none⟩) (fun _=>rfl) _⟩;have:=dC HB.out 0 (.slice (some ⟨g,p+j,none⟩) (m-j) (c-j));exact this
open Go.RowKit Go.Maps Go.ChangeMaps
set_option maxRecDepth 100000
set_option linter.unusedVariables false
def zPt:Pt:=⟨[],0,0,eD⟩
theorem El(w:World):(zeroValue 35).run Tryz.prog w=.ok (.agg (aE (.slice none 0 0) zPt).toArray) w:=by kernel_rfl
def wG(b:List UInt8)(i:Nat):Ad:=⟨(beN ((b.drop (1+3*i)).take 1):Int),(beN ((b.drop (1+3*i+1)).take 2):Int)⟩
def dL(b:List UInt8)(k:Nat):List Ad:=(List.range (min (beN (b.take 1)) k)).map (wG b)
def fX(b:List UInt8):Pt:=⟨dL b 3,(beN ((b.drop 10).take 4):Int),(beN ((b.drop 14).take 1):Int),b.drop 15⟩
def kH(b:List UInt8):Bool:=decide (b.length=47) && (fX b).may && decide (ptB (fX b)=b)
theorem nT(b:List UInt8)(k:Nat):dL b (k+1)=dL b k++if k<beN (b.take 1) then [wG b k] else []:=by
 unfold dL
 by_cases h:k<beN (b.take 1)
 ·rw[if_pos h,Nat.min_eq_right (by omega),Nat.min_eq_right (by omega),List.range_succ,List.map_append]
  rfl
 ·rw[if_neg h,Nat.min_eq_left (by omega),Nat.min_eq_left (by omega),List.append_nil]
theorem tF(l:List UInt8)(k:Nat)(h:l.length≤k):beN l<256 ^ k:=Nat.lt_of_lt_of_le (Co l) (Nat.pow_le_pow_right (by omega) h)
theorem Ct{n:Nat}(h:n<16777216):BZ (n:Int):=⟨by omega,by omega⟩
theorem Em(b:List UInt8)(i:Nat):eH (wG b i):=by
 have h1:=tF ((b.drop (1+3*i)).take 1) 1 (by simp;omega);have h2:=tF ((b.drop (1+3*i+1)).take 2) 2 (by simp;omega);exact⟨Ct (by omega),Ct (by omega)⟩
theorem Cu(b:List UInt8)(k:Nat):lC (dL b k):=fun x hx=>by
 unfold dL at hx;obtain⟨i,-,rfl⟩:=List.mem_map.1 hx;exact Em b i
structure RdW(w wr:World)(rb cb pb g o c B off n:Nat)(v:Value)(q:Pt):Prop where
 res:wr.heap[rb]?=some (.cells (aE (.slice none 0 0) zPt).toArray 35 (0,0))
 cur:BO wr cb g (o+off) (47-off) (c-off)
 pt:wr.heap[pb]?=some (.cells (aE v q).toArray 35 (0,0))
 row:wr.ownsRow B 49 2 v n (aT q.addrs)
 keep:aA aB w wr
 ord:w.heap.size≤rb/\rb<cb/\cb<pb/\pb<B
 sz:B≤wr.heap.size
theorem RdW.same{w wr w':World}{rb cb pb g o c B off n:Nat}{v:Value}{q:Pt}(h:RdW w wr rb cb pb g o c B off n v q)(k:aA aB wr w'):RdW w w' rb cb pb g o c B off n v q:=
 ⟨k.blk h.res id,k.blk h.cur id,k.blk h.pt id,k.owns h.row fun _ _=>id,h.keep.trans k,h.ord,Nat.le_trans h.sz k.size⟩
theorem RdW.num{w wr w':World}{rb cb pb g o c B off n k:Nat}{v:Value}{q:Pt}(h:RdW w wr rb cb pb g o c B off n v q)(hc:BO w' cb g (o+off+k) (47-off-k) (c-off-k))(hk:aA (fun i=>i=cb) wr w'):RdW w w' rb cb pb g o c B (off+k) n v q:=by
 obtain⟨h1,h2,h3,h4⟩:=h.ord;refine⟨hk.blk h.res (by omega),?_,hk.blk h.pt (by omega),hk.owns h.row (fun i hi e=>by have:=bE h.row hi;omega),h.keep.trans' hk (U:=aB) (fun _ _ h=>h) (fun i hi e=>by omega),h.ord,Nat.le_trans h.sz hk.size⟩;rw[←Nat.add_assoc,Nat.sub_add_eq,Nat.sub_add_eq];exact hc
theorem RdW.put{w wr w':World}{rb cb pb g o c B off n m:Nat}{v u:Value}{q r:Pt}(h:RdW w wr rb cb pb g o c B off n v q)(hp:w'.heap[pb]?=some (.cells (aE u r).toArray 35 (0,0)))(hr:w'.ownsRow B 49 2 u m (aT r.addrs))(hk:aA (fun i=>i=pb\/v.ownBlock=some i) wr w'):RdW w w' rb cb pb g o c B off m u r:=by
 obtain⟨h1,h2,h3,h4⟩:=h.ord
 have hno:∀i,i<pb->¬(i=pb\/v.ownBlock=some i):=fun i hi e=>by
  rcases e with e|e
  ·omega
  ·have:=bE h.row e;omega
 exact⟨hk.blk h.res (hno _ (by omega)),hk.blk h.cur (hno _ (by omega)),hp,hr,h.keep.trans' hk (U:=aB) (fun _ _ h=>h) (fun i hi e=>hno i (by omega) e),h.ord,Nat.le_trans h.sz hk.size⟩
theorem GU(v u:Value)(q:Pt)(l:List Ad):(aE v q).toArray.setIfInBounds 0 u=(aE u ⟨l,q.birth,q.level,q.sum⟩).toArray:=by rw[List.setIfInBounds_toArray];rfl
theorem GV(v:Value)(q:Pt)(x:Int):(aE v q).toArray.setIfInBounds 1 (.int .i64 x)=(aE v ⟨q.addrs,x,q.level,q.sum⟩).toArray:=by rw[List.setIfInBounds_toArray];rfl
theorem GW(v:Value)(q:Pt)(x:Int):(aE v q).toArray.setIfInBounds 2 (.int .i64 x)=(aE v ⟨q.addrs,q.birth,x,q.sum⟩).toArray:=by rw[List.setIfInBounds_toArray];rfl
theorem Jt(v:Value)(q:Pt)(s:List UInt8)(hq:q.sum.length=32)(hs:s.length=32):spl (aE v q).toArray 3 (s.map vb)=(aE v ⟨q.addrs,q.birth,q.level,s⟩).toArray:=by
 apply Array.ext_getElem?;intro j;rw[lM _ _ _ _ (by rw[List.size_toArray,aO hq,List.length_map,hs];exact Nat.le_refl _)];simp only[List.getElem?_toArray,List.length_map,hs]
 by_cases h3:3≤j
 ·by_cases hj:j<35
  ·rw[if_pos (by omega)]
   have e:(aE v ⟨q.addrs,q.birth,q.level,s⟩)[j]?=(s.map vb)[j-3]?:=by
    unfold aE;obtain⟨i,rfl⟩:∃i,j=i+3:=⟨j-3,by omega⟩
    simp
   rw[e]
  ·rw[if_neg (by omega),List.getElem?_eq_none (by rw[aO hq];omega),List.getElem?_eq_none (by rw[aO (p:=⟨q.addrs,q.birth,q.level,s⟩) hs];omega)]
 ·rw[if_neg (by omega)]
  have:j=0\/j=1\/j=2:=by omega
  rcases this with rfl|rfl|rfl<;>rfl
def xX(er ea:Int):List PanicEntry:=[{ v:=.iface 267 (.agg #[.int .i64 er,.int .i64 ea]),recovered:=false }]
def lR(w:World)(b:List UInt8)(e:Ending)(w':World):Prop:=
 aA aB w w'/\if kH b then ∃v,e=.returned (.agg (aE v (fX b)).toArray)/\w'.ownsRow w.heap.size 49 2 v (fX b).addrs.length (aT (fX b).addrs)
  else if b.length=47 then e=.panicked (xX 2 0) else e=.panicked (xX 4 (min b.length 47))
theorem En{w:World}{v:Value}{l:List UInt8}{n:Nat}(h:Rd w 1 v n (l.map vb))(hn:l.length=n){k:Nat}{x:UInt8}(hk:l[k]?=some x):∃g o cap,v=.slice (some ⟨g,o,none⟩) n cap/\w.cell? ⟨g,o+k,none⟩=some (.int .u8 (x.toNat:Int)):=by
 obtain⟨h0,a,cap,rfl,h1,h2,h3,h4⟩:=h;have hlt:=(List.getElem?_eq_some_iff.1 hk).1;obtain⟨g,o,rfl,hc⟩:=h4 (by rw[List.length_map];omega);exact⟨g,o,cap,rfl,hc k _ (by rw[List.getElem?_map,hk];rfl)⟩
theorem vG(w:World)(x:Int):(Instr.build 219 #[(0,.int .i64 x)]).run Tryz.prog w=.ok (.agg #[.int .i64 x,.int .i64 0]) w:=by kernel_rfl
theorem xY(w:World)(x y:Int):(Instr.build 267 #[(0,.agg #[.int .i64 x,.int .i64 y])]).run Tryz.prog w=.ok (.agg #[.int .i64 x,.int .i64 y]) w:=by kernel_rfl
theorem E8(w:World)(v v2:Value)(l m:List UInt8)(hl:Rd w 1 v l.length (l.map vb))(hm:Rd w 1 v2 m.length (m.map vb)):Calls Tryz.prog 228 #[v,v2] w (aX w (decide (l=m))):=by
 obtain⟨la,lc,rfl,-,-⟩:=hl.form;obtain⟨ma,mc,rfl,-,-⟩:=hm.form;have hlx:l.length≤maxLen:=by obtain⟨_,a',c',h1,h2,h3,-⟩:=hl;omega
 unfold maxLen at hlx;obtain⟨bb,hbb⟩:∃b,decide (l=m)=b:=⟨_,rfl⟩
 have HBB:=O hbb;rw[hbb];clear hbb;obtain⟨n,hn⟩:∃n,l.length=n:=⟨_,rfl⟩
 obtain⟨q,hq⟩:∃n,m.length=n:=⟨_,rfl⟩
 have HL:=O hl;have HM:=O hm;have HN:=O hn;have HQ:=O hq;rw[hn] at HL hlx ⊢;rw[hq] at HM ⊢;clear hl hm hn hq
 by_cases hne:n=q
 ·subst hne
  go_enter Tryz.func228,Tryz.ntmps228;go_wp2_with fail
  go_loopw [13] (fun t wr=>∃k:Nat,k≤n/\t=.int .i64 k/\Hid (l.take k=m.take k)/\Hid (aA aB w wr)) (fun t _=>n-(intOf t).toNat)
  case atStart=>exact⟨0,Nat.zero_le _,rfl,O (by simp),O (aA.refl _ _)⟩
  case round =>
  obtain⟨k,hk,rfl,HT,HK⟩:=hrel
  by_cases hlt:k<n
  ·have hki:(k:Int)<(n:Int):=by omega
   have hk0:(0:Int)≤(k:Int):=by omega
   obtain⟨x,hx⟩:∃x,l[k]?=some x:=⟨l[k]'(by rw[HN.out];exact hlt),List.getElem?_eq_getElem _⟩
   obtain⟨y,hy⟩:∃x,m[k]?=some x:=⟨m[k]'(by rw[HQ.out];exact hlt),List.getElem?_eq_getElem _⟩
   have hr:=HL.out.keep HK.out fun _ _=>id
   obtain⟨p,o,cap,hv,hc⟩:=En hr (by rw[HN.out]) hx;have e1:la=some ⟨p,o,none⟩:=by cases hv;rfl
   subst e1;have hr2:=HM.out.keep HK.out fun _ _=>id
   obtain⟨p2,o2,cap2,hv2,hc2⟩:=En hr2 (by rw[HQ.out]) hy;have e1:ma=some ⟨p2,o2,none⟩:=by cases hv2;rfl
   subst e1;have HX:=O hx;have HY:=O hy;obtain⟨bi,hbi⟩:∃b,((x.toNat:Int) != (y.toNat:Int))=b:=⟨_,rfl⟩
   have HBI:=O hbi;clear hr hr2 hv hv2 hx hy;cases bi
   ·have e:x=y:=by
     have h:=HBI.out;simp only[bne_eq_false_iff_eq] at h;exact UInt8.toNat_inj.1 (by omega)
    have HTE:Hid (l.take (k+1)=m.take (k+1)):=O (by rw[List.take_add_one,List.take_add_one,HT.out,HX.out,HY.out,e]);clear e;go_wp2_with fail
    go_quiet (fail)
    go_wp2_with fail;have HK2:=O (HK.out.drewN nq)
    go_roundw
    case rel=>exact⟨k+1,by omega,by go_num,HTE,HK2⟩
    case measure=>simp[intOf];omega
   ·have hbf:bb=false:=by
     rw[←HBB.out];refine decide_eq_false fun e=>?_
     have h1:=HX.out;rw[e,HY.out] at h1;cases h1
     have:=HBI.out;simp at this
    subst hbf;go_wp2_with fail
    go_quiet (fail)
    go_wp2_with fail;go_ret;exact⟨rfl,HK.out.drewN nq⟩
  ·obtain rfl:n=k:=by omega
   have hbt:bb=true:=by
    rw[←HBB.out];refine decide_eq_true ?_;have h:=HT.out
    rwa [List.take_of_length_le (by rw[HN.out];exact Nat.le_refl _),List.take_of_length_le (by rw[HQ.out];exact Nat.le_refl _)] at h
   subst hbt;go_wp2_with fail;go_ret;exact⟨rfl,HK.out⟩
 ·have hbf:bb=false:=by
   rw[←HBB.out];exact decide_eq_false fun e=>hne (by rw[←HN.out,←HQ.out,e])
  subst hbf;have hnei:((n:Int) != (q:Int))=true:=by simp;omega
  go_enter Tryz.func228,Tryz.ntmps228;go_wp2_with fail;go_ret;exact⟨rfl,aA.refl _ _⟩
theorem GX(w:World)(bv:Value)(b:List UInt8)(hr:Rd w 1 bv b.length (b.map vb))(hl:b.length=47):Calls Tryz.prog 204 #[bv] w (lR w b):=by
 obtain⟨g,o,c,rfl,hcells⟩:∃g o c,bv=.slice (some ⟨g,o,none⟩) 47 c/\w.rangeAt g o (b.map vb):=by
  obtain⟨h0,a,cap,rfl,h2,h3,h4,h5⟩:=hr;obtain⟨g,o,rfl,hc⟩:=h5 (by simp;omega);exact⟨g,o,cap,by rw[hl],hc⟩
 have hc47:47≤c/\c≤9223372036854775807:=by
  obtain⟨_,a',c',h1,h2,h3,-⟩:=hr;unfold maxLen at h3;injection h1 with e1 e2 e3
  omega
 have HL:=O hl
 have HRG:=O (fun wx (k:aA aB w wx) (off:Nat)=>(show wx.rangeAt g (o+off) ((b.drop off).map vb) from fun j v hj=>by
  rw[List.map_drop,List.getElem?_drop] at hj;rw[Nat.add_assoc];exact(k.rangeAt hcells) (off+j) v hj))
 have HRB:=O (fun wx (k:aA aB w wx)=>hr.keep k fun _ _=>id);rw[hl] at HRB;have hz:=El;obtain⟨zc,hzc⟩:∃x,aE (.slice none 0 0) zPt=x:=⟨_,rfl⟩
 have hzl:zc.length=35:=by rw[←hzc];rfl
 have HZ:=O hzc;rw[hzc] at hz;obtain⟨wa,hwa,ka,ha,sa⟩:=aU w zc.toArray 35;obtain⟨wb,hwb,kb,hb,sb⟩:=aU wa #[.slice (some ⟨g,o,none⟩) 47 c] 300;obtain⟨wc,hwc,kc,hc,sc⟩:=aU wb zc.toArray 35;obtain⟨rb,hrb⟩:∃x,w.heap.size=x:=⟨_,rfl⟩
 obtain⟨cb,hcb⟩:∃x,wa.heap.size=x:=⟨_,rfl⟩
 obtain⟨pb,hpb⟩:∃x,wb.heap.size=x:=⟨_,rfl⟩
 obtain⟨B,hB⟩:∃x,wc.heap.size=x:=⟨_,rfl⟩
 rw[hrb] at ha;rw[hcb] at hb;rw[hpb] at hc;have HW0:Hid (RdW w wc rb cb pb g o c B 0 0 (.slice none 0 0) zPt):=O ⟨by rw[HZ.out];exact kc.blk (kb.blk ha id) id,kc.blk hb id,by rw[HZ.out];exact hc,World.ownsRow_nil _ _ _ _,(ka.trans kb).trans kc,by omega,by omega⟩;have HRBE:=O hrb;have HBE:=O hB;clear hr hcells ha hb hc sa sb sc ka kb kc hl hzc;go_enter Tryz.func204,Tryz.ntmps204
 go_wp2_with (first
  | ((with_reducible show WL (some 2) (.alloc 35));refine aS rfl 35 rfl _ hz zc.toArray rfl ?_;rw[hwa,hrb])
  | ((with_reducible show WL (some 4) (.alloc 35));refine aS rfl 35 rfl _ hz zc.toArray rfl ?_;rw[hwc,hpb]))
 refine(oV _ cb g (o+(0)) (47-(0)) (c-(0)) 1 (b.drop (0)) HW0.out.cur (HRG.out _ HW0.out.keep _) (by rw[List.length_drop,HL.out]) (by omega) (by omega) (by omega) (by omega) (by omega)).mono ?_;rintro e w1 ⟨rfl,hcur,hkc⟩;have HW1:=O (HW0.out.num hcur hkc);clear hcur hkc;obtain⟨mn,hmn⟩:∃x,beN (b.take 1)=x:=⟨_,rfl⟩
 have hmnb:mn<256:=by rw[←hmn];exact tF _ 1 (by simp;omega)
 have HMN:=O hmn;rw[List.drop_zero,hmn];clear hmn HW0 hwa hwb hwc hrb hcb hpb hB;go_wp2_with fail
 go_loopw [24] (fun i wr=>∃(k ql:Nat) (pa:Option Addr) (pc:Nat),k≤3/\ql≤k/\i=.int .i64 k/\Hid ((dL b k).length=ql)/\Hid (RdW w wr rb cb pb g o c B (1+3*k) ql (.slice pa ql pc) ⟨dL b k,0,0,eD⟩)) (fun i _=>3-(intOf i).toNat)
 case atStart=>exact⟨0,0,none,0,by omega,by omega,rfl,O (by simp[dL]),O (by
  have h:=HW1.out;have e:dL b 0=[]:=by simp[dL]
  rw[e];exact h)⟩
 case round =>
 clear HW1;obtain⟨k,ql,pa,pcp,hk,hqk,rfl,HQL,HW⟩:=hrel
 by_cases hlt:k<3
 ·have hki:(k:Int)<3:=by omega
  have hk0:(0:Int)≤(k:Int):=by omega
  have had:=Em b k;obtain⟨d,hd⟩:∃x,beN ((b.drop (1+3*k)).take 1)=x:=⟨_,rfl⟩
  obtain⟨s,hs⟩:∃x,beN ((b.drop (1+3*k+1)).take 2)=x:=⟨_,rfl⟩
  have HAD:Hid (wG b k=⟨(d:Int),(s:Int)⟩):=O (by unfold wG;rw[hd,hs]);have HD:=O hd;have HS:=O hs;have hbe:=La (d:Int) (s:Int);clear hd hs had;go_wp2_with fail;refine(oV _ cb g (o+(1+3*k)) (47-(1+3*k)) (c-(1+3*k)) 1 (b.drop (1+3*k)) HW.out.cur (HRG.out _ HW.out.keep _) (by rw[List.length_drop,HL.out]) (by omega) (by omega) (by omega) (by omega) (by omega)).mono ?_;rintro e w2 ⟨rfl,hcur,hkc⟩;have HW2:=O (HW.out.num hcur hkc);clear hcur hkc;rw[HD.out];go_wp2_with fail;refine(oV _ cb g (o+(1+3*k+1)) (47-(1+3*k+1)) (c-(1+3*k+1)) 2 (b.drop (1+3*k+1)) HW2.out.cur (HRG.out _ HW2.out.keep _) (by rw[List.length_drop,HL.out]) (by omega) (by omega) (by omega) (by omega) (by omega)).mono ?_;rintro e w3 ⟨rfl,hcur,hkc⟩;have HW3:=O (HW2.out.num hcur hkc);clear hcur hkc;rw[HS.out];clear HW HW2;obtain⟨w4,hw4,hk4,hb4,hs4⟩:=aU w3 #[.int .i64 0,.int .i64 0] 49;obtain⟨ab,hab⟩:∃x,w3.heap.size=x:=⟨_,rfl⟩
  rw[hab] at hb4;have HB4:=O hb4;have HW4:=O (HW3.out.same hk4);have HABW:Hid (w.heap.size≤ab/\pb<ab/\∀i,(Value.slice pa ql pcp).ownBlock=some i->i<ab):=O ⟨by rw[←hab];exact HW3.out.keep.size,by rw[←hab];exact lt_of_block HW3.out.pt,fun i hi=>by rw[←hab];exact(HW3.out.row.lt i hi).2⟩;clear hk4 hb4 hs4
  by_cases hkm:k<mn
  ·have hmi:(k:Int)<(mn:Int):=by omega
   have hmd:decide ((k:Int)<(mn:Int))=true:=decide_eq_true hmi
   go_wp2_with (first
    | ((with_reducible show WL (some 7) (.alloc 49));refine aS rfl 49 rfl eE eA #[.int .i64 0,.int .i64 0] rfl ?_;rw[hw4,hab])
    | ((with_reducible show WL none (.store 49 (.tmp 7) (.tmp 31)));refine aM rfl 49 (.tmp 7) (.tmp 31) rfl ab 0 (aN ⟨(d:Int),(s:Int)⟩) rfl rfl #[.int .i64 0,.int .i64 0] 49 HB4.out (Nat.le_refl _) cE (bH _) ?_
       intro w5 hb5 hk5;rw[aG _ _ (by rfl)] at hb5;have HAB:=O hb5
       have HW5:Hid (RdW w w5 rb cb pb g o c B (1+3*k+1+2) ql (.slice pa ql pcp) ⟨dL b k,0,0,eD⟩):=O (by
        have h:=HW4.out;obtain⟨o1,o2,o3,o4⟩:=h.ord;have h7:=HABW.out;have hne:∀i,i<ab->¬i=ab:=fun i hi=>by omega
        exact⟨hk5.blk h.res (hne _ (by omega)),hk5.blk h.cur (hne _ (by omega)),hk5.blk h.pt (hne _ (by omega)),hk5.owns h.row (fun i hi e=>by have:=h7.2.2 i hi;omega),h.keep.trans' hk5 (U:=aB) (fun _ _ h=>h) (fun i hi e=>by omega),h.ord,Nat.le_trans h.sz hk5.size⟩)
       clear hb5 hk5;have a5:w5.cell? ⟨pb,0,none⟩=some (.slice pa ql pcp):=aC HW5.out.pt rfl;obtain⟨w6,hw6,hk6,hb6,hs6⟩:=aU w5 (aN ⟨(d:Int),(s:Int)⟩).toArray 49;obtain⟨bx,hbx⟩:∃x,w5.heap.size=x:=⟨_,rfl⟩
       rw[hbx] at hb6;have HRN:Hid (Rd w6 2 (.slice (some ⟨bx,0,none⟩) 1 1) 1 (aN ⟨(d:Int),(s:Int)⟩)):=O (cG (n:=1) (size:=2) (vs:=aN ⟨(d:Int),(s:Int)⟩) hb6 rfl (by unfold maxLen;omega));have HW6:=O (HW5.out.same hk6);have hsz6:B≤w6.heap.size:=HW6.out.sz;clear hk6 hb6 hs6)
    | ((with_reducible show WL _ (.load 49 (.tmp 7)));refine wpList_load_mid rfl 49 (.tmp 7) rfl ab 0 rfl (aN ⟨(d:Int),(s:Int)⟩) _ (aD HAB.out) bX rfl cE ?_)
    | ((with_reducible show WL _ (.buildSlice _ 1 _));refine bN rfl 31 49 (.tmp 37) rfl Tryz.underlying31 oP (by decide) (aN ⟨(d:Int),(s:Int)⟩) rfl (by decide) rfl ?_;rw[hw6,hbx])
    | (at_builtin;refine aI rfl (.tmp 36) (.tmp 38) 31 rfl B 49 eE 2 16 Tryz.underlying31 oP rfl (by decide) (.slice pa ql pcp) ql (aT (dL b k)) rfl HW6.out.row (.slice (some ⟨bx,0,none⟩) 1 1) 1 (aN ⟨(d:Int),(s:Int)⟩) rfl HRN.out (bH _) (by unfold maxLen;omega) (by omega) hsz6 ?_
       intro v' w7 ho5 hk5 hn5 hb5;obtain⟨va,vc,rfl,-,-⟩:=(Rd.of_owns ho5).form;have hp7:=hk5.blk HW6.out.pt (fun e=>by have:=bE HW6.out.row e;have:=HW6.out.ord;omega);have hcc7:w7.cell? ⟨pb,0,none⟩=some (.slice pa ql pcp):=aC hp7 rfl;have hcf7:=cK hp7 0;have HP7:=O hp7;have HK7:=O hk5
       have HO7:Hid (w7.ownsRow B 49 2 (.slice va (ql+1) vc) (ql+1) (aT (dL b (k+1)))):=O (by
        rw[nT,if_pos (by rw[HMN.out];exact hkm),HAD.out,qM,vF];exact ho5)
       clear ho5 hk5 hn5 hb5 hp7))
   have HW8:Hid (RdW w (w7.setCell ⟨pb,0,none⟩ (.slice va (ql+1) vc)) rb cb pb g o c B (1+3*(k+1)) (ql+1) (.slice va (ql+1) vc) ⟨dL b (k+1),0,0,eD⟩):=O (by
    have e:1+3*(k+1)=1+3*k+1+2:=by omega
    have hkk:aA (fun i=>i=pb) w7 (w7.setCell ⟨pb,0,none⟩ (.slice va (ql+1) vc)):=(aA.refl (fun i=>i=pb) w7).setCell (p:=⟨pb,0,none⟩) (fun _=>rfl) _;rw[e];refine HW6.out.put ?_ (hkk.owns HO7.out (fun i hi e=>by have:=bE HO7.out hi;have:=HW6.out.ord;omega)) ((HK7.out.mono (fun _ _ h=>.inr h)).trans' hkk (fun _ _ h=>h) (fun i hi e=>.inl e));rw[dC HP7.out,GU _ _ _ (dL b (k+1))])
   have HQ8:Hid ((dL b (k+1)).length=ql+1):=O (by rw[nT,if_pos (by rw[HMN.out];exact hkm),List.length_append,HQL.out];rfl)
   go_roundw
   case rel=>exact⟨k+1,ql+1,va,vc,by omega,by omega,by go_num,HQ8,HW8⟩
   case measure=>simp[intOf];omega
  ·have hmi:¬(k:Int)<(mn:Int):=by omega
   have hmd:decide ((k:Int)<(mn:Int))=false:=decide_eq_false hmi
   go_wp2_with (first
    | ((with_reducible show WL (some 7) (.alloc 49));refine aS rfl 49 rfl eE eA #[.int .i64 0,.int .i64 0] rfl ?_;rw[hw4,hab])
    | ((with_reducible show WL none (.store 49 (.tmp 7) (.tmp 31)));refine aM rfl 49 (.tmp 7) (.tmp 31) rfl ab 0 (aN ⟨(d:Int),(s:Int)⟩) rfl rfl #[.int .i64 0,.int .i64 0] 49 HB4.out (Nat.le_refl _) cE (bH _) ?_
       intro w5 hb5 hk5;rw[aG _ _ (by rfl)] at hb5;have HAB:=O hb5
       have HW5:Hid (RdW w w5 rb cb pb g o c B (1+3*k+1+2) ql (.slice pa ql pcp) ⟨dL b k,0,0,eD⟩):=O (by
        have h:=HW4.out;obtain⟨o1,o2,o3,o4⟩:=h.ord;have h7:=HABW.out;have hne:∀i,i<ab->¬i=ab:=fun i hi=>by omega
        exact⟨hk5.blk h.res (hne _ (by omega)),hk5.blk h.cur (hne _ (by omega)),hk5.blk h.pt (hne _ (by omega)),hk5.owns h.row (fun i hi e=>by have:=h7.2.2 i hi;omega),h.keep.trans' hk5 (U:=aB) (fun _ _ h=>h) (fun i hi e=>by omega),h.ord,Nat.le_trans h.sz hk5.size⟩)
       clear hb5 hk5
       skip))
   have HW8:Hid (RdW w w5 rb cb pb g o c B (1+3*(k+1)) ql (.slice pa ql pcp) ⟨dL b (k+1),0,0,eD⟩):=O (by
    have e:1+3*(k+1)=1+3*k+1+2:=by omega
    have e2:dL b (k+1)=dL b k:=by rw[nT,if_neg (by rw[HMN.out];exact hkm),List.append_nil]
    rw[e,e2];exact HW5.out)
   have HQ8:Hid ((dL b (k+1)).length=ql):=O (by rw[nT,if_neg (by rw[HMN.out];exact hkm),List.append_nil];exact HQL.out)
   go_roundw
   case rel=>exact⟨k+1,ql,pa,pcp,by omega,by omega,by go_num,HQ8,HW8⟩
   case measure=>simp[intOf];omega
 ·obtain rfl:k=3:=by omega
  have HW:=O (show RdW w wr rb cb pb g o c B 10 ql (.slice pa ql pcp) ⟨dL b 3,0,0,eD⟩ from HW.out);obtain⟨bi,hbi⟩:∃x,beN ((b.drop 10).take 4)=x:=⟨_,rfl⟩
  obtain⟨le,hle⟩:∃x,beN ((b.drop (10+4)).take 1)=x:=⟨_,rfl⟩
  have HBI:=O hbi;have HLE:=O hle;have HSB:Hid ((b.drop 15).length=32):=O (by rw[List.length_drop,HL.out]);clear hbi hle;go_wp2_with fail;refine(oV _ cb g (o+(10)) (47-(10)) (c-(10)) 4 (b.drop (10)) HW.out.cur (HRG.out _ HW.out.keep _) (by rw[List.length_drop,HL.out]) (by omega) (by omega) (by omega) (by omega) (by omega)).mono ?_;rintro e w2 ⟨rfl,hcur,hkc⟩;have HW2:=O (HW.out.num hcur hkc);clear hcur hkc;rw[HBI.out];have k0:=aC HW2.out.pt (i:=1) rfl;have kf:=cK HW2.out.pt 1;obtain⟨w3,hw1⟩:∃x,w2.setCell ⟨pb,1,none⟩ (.int .i64 (bi:Int))=x:=⟨_,rfl⟩
  have HW3:Hid (RdW w w3 rb cb pb g o c B (10+4) ql (.slice pa ql pcp) ⟨dL b 3,(bi:Int),0,eD⟩):=O (by
   have hkk:aA (fun i=>i=pb) w2 w3:=by rw[←hw1];exact(aA.refl (fun i=>i=pb) w2).setCell (p:=⟨pb,1,none⟩) (fun _=>rfl) _
   refine HW2.out.put ?_ (hkk.owns HW2.out.row (fun i hi e=>by have:=bE HW2.out.row hi;have:=HW2.out.ord;omega)) (hkk.mono (fun _ _ h=>.inl h));rw[←hw1,dC HW2.out.pt,GV _ _ (bi:Int)])
  clear HW;go_wp2_with fail;clear k0 kf hw1 HW2;refine(oV _ cb g (o+(10+4)) (47-(10+4)) (c-(10+4)) 1 (b.drop (10+4)) HW3.out.cur (HRG.out _ HW3.out.keep _) (by rw[List.length_drop,HL.out]) (by omega) (by omega) (by omega) (by omega) (by omega)).mono ?_;rintro e w4 ⟨rfl,hcur,hkc⟩;have HW4:=O (HW3.out.num hcur hkc);clear hcur hkc;rw[HLE.out];have k0:=aC HW4.out.pt (i:=2) rfl;have kf:=cK HW4.out.pt 2;obtain⟨w5,hw2⟩:∃x,w4.setCell ⟨pb,2,none⟩ (.int .i64 (le:Int))=x:=⟨_,rfl⟩
  have HW5:Hid (RdW w w5 rb cb pb g o c B (10+4+1) ql (.slice pa ql pcp) ⟨dL b 3,(bi:Int),(le:Int),eD⟩):=O (by
   have hkk:aA (fun i=>i=pb) w4 w5:=by rw[←hw2];exact(aA.refl (fun i=>i=pb) w4).setCell (p:=⟨pb,2,none⟩) (fun _=>rfl) _
   refine HW4.out.put ?_ (hkk.owns HW4.out.row (fun i hi e=>by have:=bE HW4.out.row hi;have:=HW4.out.ord;omega)) (hkk.mono (fun _ _ h=>.inl h));rw[←hw2,dC HW4.out.pt,GW _ _ (le:Int)])
  go_wp2_with fail;clear k0 kf hw2 HW4 HW3;obtain⟨S,hS0⟩:∃S:World->Prop,S=fun w'=>aA (fun i=>i=pb) w5 w':=⟨_,rfl⟩
  have HSE:=O (show ∀w',S w'->aA (fun i=>i=pb) w5 w' from fun w' h=>by rw[hS0] at h;exact h);have HSI:=O (show ∀w',aA (fun i=>i=pb) w5 w'->S w' from fun w' h=>by rw[hS0];exact h);have HW6:=O (HW5.out.same (aA.refl aB w5).drew);have hS:S w5.drew:=by rw[hS0];exact(aA.refl _ _).drew
  have HCU:=O (fun w' (h:S w')=>(aC ((HSE.out w' h).blk HW5.out.cur (by have:=HW5.out.ord;omega)) rfl:w'.cell? ⟨cb,0,none⟩=some (.slice (some ⟨g,o+(10+4+1),none⟩) (47-(10+4+1)) (c-(10+4+1)))));refine wp_region_held (S:=S) (by kernel_rfl) ?_;change wpAnyH _ _ _ _ _ _ _ _ w5.drew;generalize w5.drew=w6 at hS HW6 ⊢;refine tkb 0 (.pointer (some ⟨pb,3,none⟩)) rfl hS ?_;simp only[Act.put,List.setIfInBounds_toArray,List.set_cons_zero,List.set_cons_succ,List.getElem_toArray,List.getElem_cons_zero];refine tnb 1 (.slice (some ⟨pb,3,none⟩) 32 32) rfl hS ?_;refine tna 2 (.pointer (some ⟨cb,0,none⟩)) rfl hS ?_;refine tnb 3 (.pointer (some ⟨cb,0,none⟩)) rfl hS ?_;refine tnb 4 (.pointer (some ⟨cb,0,none⟩)) rfl hS ?_;refine tnd 5 (.slice (some ⟨g,o+(10+4+1),none⟩) (47-(10+4+1)) (c-(10+4+1))) rfl (.inl ⟨by rfl,fun w' hw'=>by have c:=HCU.out w' hw';go_simp⟩) hS ?_;refine wA9 6 ?_;refine qJ rfl (.tmp 49) (.tmp 53) 22 22 rfl 5 Tryz.underlying22 xN pb 3 32 32 rfl _ 32 ((b.drop 15).map vb) rfl ⟨by rw[List.length_map,HSB.out],some ⟨g,o+15,none⟩,c-15,rfl,by omega,by unfold maxLen;omega,(by intro h;cases h),fun _=>⟨g,o+15,rfl,fun i u hu=>HRG.out _ HW6.out.keep 15 i u hu⟩⟩ 32 rfl _ _ HW6.out.pt (by rw[List.size_toArray,aO (p:=⟨dL b 3,(bi:Int),(le:Int),eD⟩) rfl];decide) (bK _) ?_;intro w7 hb7 hk7;rw[List.take_of_length_le (by rw[List.length_map,HSB.out];exact Nat.le_refl _),Jt _ _ _ rfl HSB.out] at hb7
  have HW7:Hid (RdW w w7 rb cb pb g o c B (10+4+1) ql (.slice pa ql pcp) (fX b)):=O (by
   have e:fX b=⟨dL b 3,(bi:Int),(le:Int),b.drop 15⟩:=by unfold fX;rw[HBI.out,HLE.out]
   rw[e];exact HW6.out.put hb7 (hk7.owns HW6.out.row (fun i hi e=>by have:=bE HW6.out.row hi;have:=HW6.out.ord;omega)) (hk7.mono (fun _ _ h=>.inl h)))
  have hS7:S w7:=HSI.out _ ((HSE.out _ hS).trans hk7);clear hb7 hk7 hS hS0;refine wpList_nil ?_;refine⟨hS7,?_⟩;refine wpAnyH_done (by kernel_rfl) ?_ _;clear hS7 HSE HSI HCU HW6 HW5
  have HPV:Hid (PtV w7 (.slice pa ql pcp) (fX b)):=O ⟨by
   have h:=Rd.of_owns HW7.out.row;have e:(fX b).addrs.length=ql:=HQL.out;rw[e];exact h,Cu b 3,HSB.out⟩
  have HRO:=O (aD HW7.out.pt);obtain⟨pc,hpc⟩:∃x,aE (.slice pa ql pcp) (fX b)=x:=⟨_,rfl⟩
  have hpl:pc.length=35:=by rw[←hpc];exact aO HSB.out
  have HPC:=O hpc;have HBY:=O (AL w7 _ _ HPV.out);rw[hpc] at HRO HBY;obtain⟨t,ht⟩:∃t,(fX b).may=t:=⟨_,rfl⟩
  have HT:=O ht;clear hpc ht
  go_wp2_with (first
   | ((with_reducible show WL _ (.load 35 (.tmp 4)));refine wpList_load_mid rfl 35 (.tmp 4) rfl (pb) 0 rfl pc _ HRO.out aJ rfl (fD hpl) ?_))
  refine HBY.out.mono ?_;rintro e w8 ⟨v8,rfl,ho8,hk8⟩;have HW8:=O (HW7.out.same hk8);have hrx:=Rd.of_owns ho8;obtain⟨xa,xc,rfl,-,-⟩:=hrx.form;have HRX:=O hrx;rw[HT.out];clear ho8 hk8 hrx HBY HRO HW7;cases t
  ·have HPO:Hid (∀w' e,aA aB w w'->e=.panicked (xX 2 0)->lR w b e w'):=O (fun w' e k he=>by
    unfold lR;rw[show kH b=false by unfold kH;rw[HT.out];simp,if_neg (by decide),if_pos HL.out];exact⟨k,he⟩)
   have hb1:=fun w=>vG w 2
   have hb2:=fun w=>xY w 2 0
   go_wp2_with fail;exact⟨rfl,HPO.out _ _ HW8.out.keep rfl⟩
  ·obtain⟨u,hu⟩:∃u,decide (ptB (fX b)=b)=u:=⟨_,rfl⟩
   have HU:=O hu;have HEQ:=E8 w8 _ (.slice (some ⟨g,o,none⟩) 47 c) (ptB (fX b)) b HRX.out (by rw[HL.out];exact HRB.out _ HW8.out.keep);rw[hu] at HEQ;have HEQ:=O HEQ;clear hu;go_wp2_with fail;refine HEQ.out.mono ?_;rintro e w9 ⟨rfl,hk9⟩;have HW9:=O (HW8.out.same hk9);have HRO:=O (aD HW9.out.pt);rw[HPC.out] at HRO;clear hk9 HEQ HW8;cases u
   ·have HPO:Hid (∀w' e,aA aB w w'->e=.panicked (xX 2 0)->lR w b e w'):=O (fun w' e k he=>by
     unfold lR;rw[show kH b=false by unfold kH;rw[HU.out];simp,if_neg (by decide),if_pos HL.out];exact⟨k,he⟩)
    have hb1:=fun w=>vG w 2
    have hb2:=fun w=>xY w 2 0
    go_wp2_with fail;exact⟨rfl,HPO.out _ _ HW9.out.keep rfl⟩
   ·have hrs:=HW9.out.res
    rw[HZ.out] at hrs;have HRS:=O hrs
    have hpo:∀x∈pc,x.oneCell'=true:=by
     intro x hx;rw[←HPC.out] at hx;unfold aE at hx;simp only[List.mem_cons] at hx;rcases hx with rfl|rfl|rfl|hx
     ·rfl
     ·rfl
     ·rfl
     ·exact bK _ x hx
    clear hrs
    go_wp2_with (first
     | ((with_reducible show WL _ (.load 35 (.tmp 4)));refine wpList_load_mid rfl 35 (.tmp 4) rfl (pb) 0 rfl pc _ HRO.out aJ rfl (fD hpl) ?_)
     | ((with_reducible show WL none (.store 35 (.tmp 2) (.tmp 71)));refine aM rfl 35 (.tmp 2) (.tmp 71) rfl rb 0 pc rfl rfl zc.toArray 35 HRS.out (by rw[hpl,List.size_toArray,hzl];exact Nat.le_refl _) (fD hpl) hpo ?_;intro w10 hb10 hk10;have HB10:=O hb10;have HK10:=O hk10;clear hb10 hk10))
    refine bodyPost_ret (results_cell_row rfl _ _ rb _ _ _ _ rfl HB10.out aJ rfl (by rw[fH,List.size_toArray,hzl];exact xW)) rfl ?_;have hkk:aA aB w w10:=HW9.out.keep.trans' HK10.out (fun _ _ h=>h) (fun i hi e=>by have:=HW9.out.ord;omega);refine⟨hkk,?_⟩;rw[if_pos (by unfold kH;rw[HL.out,HT.out,HU.out];rfl)];refine⟨_,by rw[aG _ _ (by rw[hpl,List.size_toArray,hzl]),←HPC.out],?_⟩;have e:(fX b).addrs.length=ql:=HQL.out;rw[e];exact aP (HK10.out.owns HW9.out.row (fun i hi e=>by have:=bE HW9.out.row hi;have:=HW9.out.ord;omega)) (by have:=HW9.out.ord;omega)
open Go.RowKit Go.Maps Go.ChangeMaps
set_option maxRecDepth 100000
set_option linter.unusedVariables false
theorem Eo(w:World):(zeroValue 219).run Tryz.prog w=.ok (.agg #[.int .i64 0,.int .i64 0]) w:=by kernel_rfl
theorem zT{P:Program}{fn:Func}{p q:Tmp}{ty uy:TypeId}(h:fn.results=#[.cell p ty,.cell q uy])(tmps:Array Value)(w:World)(g g':Nat)(t t':TypeId)(cs cs':Array Value)(fr fr':Nat×Nat)(d d':TypeDesc)
 (hp:tmps.getD p undef=.pointer (some ⟨g,0,none⟩)) (hg:w.heap[g]?=some (.cells cs t fr)) (hu:P.underlying ty=some d) (hd:(match d with|.struct _|.array _ _=>true|_=>false)=true) (hi:(P.info? ty).map (·.size)=some cs.size)
 (hp':tmps.getD q undef=.pointer (some ⟨g',0,none⟩)) (hg':w.heap[g']?=some (.cells cs' t' fr')) (hu':P.underlying uy=some d') (hd':(match d' with|.struct _|.array _ _=>true|_=>false)=true) (hi':(P.info? uy).map (·.size)=some cs'.size) :
 (results fn tmps).run P w=.ok (.tuple #[.agg cs,.agg cs']) w:=by
 have hq:tmps[p]?.getD undef=.pointer (some ⟨g,0,none⟩):=by simpa using hp
 have hq':tmps[q]?.getD undef=.pointer (some ⟨g',0,none⟩):=by simpa using hp'
 simp[results,h,hq,hq',asAddr,run_loadVar_row w g t ty cs fr d hg hu hd hi,run_loadVar_row w g' t' uy cs' fr' d' hg' hu' hd' hi']
theorem DF(A F:Nat)(w:World) :
 CallsD Tryz.prog 203 #[.pointer (some ⟨A,0,none⟩),.pointer (some ⟨F,0,none⟩)] .returning w fun e u' w'=>e=.returned (.tuple #[])/\u'=.returning/\w'=w:=by
 refine callsD_of_wpS Tryz.func203 rfl fun c₀ cs hu=>?_
 apply wpS_seq;apply wpS_region;simp[wpOpsS,go_sem,recoverD,hu,Tryz.ntmps203,Exit.thenS];refine wpS_of_wp ?_;go_wp2_with fail;cases c₀
 simp_all [bodyPostS,results,Tryz.results203]
open Go.RowKit Go.Maps Go.ChangeMaps
set_option maxRecDepth 100000
set_option linter.unusedVariables false
def KV(b:List UInt8):Int×Int:=if b.length=47 then (2,0) else (4,min b.length 47)
def GY(w:World)(b:List UInt8)(e:Ending)(w':World):Prop:=
 aA aB w w'/\if kH b then ∃v,e=.returned (.tuple #[.agg (aE v (fX b)).toArray,.agg #[.int .i64 0,.int .i64 0]])/\w'.ownsRow w.heap.size 49 2 v (fX b).addrs.length (aT (fX b).addrs)
  else e=.returned (.tuple #[.agg (aE (.slice none 0 0) zPt).toArray,.agg #[.int .i64 (KV b).1,.int .i64 (KV b).2]])
theorem bR{oa:Option Addr}{n ca:Nat}(p:Pt):∀u∈aE (.slice oa n ca) p,u.oneCell'=true:=by
 intro x hx;unfold aE at hx;simp only[List.mem_cons] at hx;rcases hx with rfl|rfl|rfl|hx
 ·rfl
 ·rfl
 ·rfl
 ·exact bK _ x hx
theorem Ju(w:World)(bv:Value)(b:List UInt8)(hr:Rd w 1 bv b.length (b.map vb))(ht:kH b=true):Calls Tryz.prog 157 #[bv] w (GY w b):=by
 have hl0:b.length=47:=by
  have h:=ht;unfold kH at h;simp only[Bool.and_eq_true,decide_eq_true_eq] at h;exact h.1.1
 have HT:=O ht;have HC:=O (fun wx (k:aA aB w wx)=>GX wx bv b (hr.keep k fun _ _=>id) hl0);obtain⟨a,ca,rfl,-,-⟩:=hr.form;obtain⟨n,hn⟩:∃n,b.length=n:=⟨_,rfl⟩
 rw[hn] at HC ⊢;have hz:=El;obtain⟨zc,hzc⟩:∃x,aE (.slice none 0 0) zPt=x:=⟨_,rfl⟩
 have hzl:zc.length=35:=by rw[←hzc];rfl
 have HZ:=O hzc;have HN:=O hn;rw[hzc] at hz;obtain⟨wa,hwa,ka,ha,sa⟩:=aU w zc.toArray 35;obtain⟨wb,hwb,kb,hb,sb⟩:=aU wa #[.int .i64 0,.int .i64 0] 219;obtain⟨rb,hrb⟩:∃x,w.heap.size=x:=⟨_,rfl⟩
 obtain⟨fb,hfb⟩:∃x,wa.heap.size=x:=⟨_,rfl⟩
 have hrf:rb<fb:=by omega
 rw[hrb] at ha;rw[hfb] at hb;have HRB0:=O (kb.blk ha id);have HFB0:=O hb;have HKB:=O (ka.trans kb);have HRBE:=O hrb;have HSW:Hid (wb.heap.size=fb+1):=O (by omega);have hmf:∀(fn:Fn) (first cap:Array Value) (w:World),(Instr.makeFunc fn first cap).run Tryz.prog w=.ok (.func fn first cap) w:=fun _ _ _ _=>rfl
 clear hr ka kb ha hb sa sb hzc hn ht hl0
 go_enter_defers Tryz.func157,Tryz.ntmps157
 go_wp2_with (first
  | ((with_reducible show WL (some 2) (.alloc 35));refine aS rfl 35 rfl _ hz zc.toArray rfl ?_;rw[hwa,hrb])
  | ((with_reducible show WL (some 3) (.alloc 219));refine aS rfl 219 rfl _ Eo #[.int .i64 0,.int .i64 0] rfl ?_;rw[hwb,hfb]))
 refine(HC.out _ HKB.out).mono ?_;intro e w4 hpost;unfold lR at hpost;obtain⟨hk4,hpost⟩:=hpost;have HRB:=O (hk4.blk HRB0.out id);have HFB:=O (hk4.blk HFB0.out id);have HK4:=O (HKB.out.trans hk4);have HS4:Hid (fb<w4.heap.size):=O (lt_of_block HFB.out);clear hk4 HRB0 HFB0 HC;rw[HT.out] at hpost;rw[if_pos rfl] at hpost;obtain⟨v,rfl,ho4⟩:=hpost;obtain⟨m,hm⟩:∃m,(fX b).addrs.length=m:=⟨_,rfl⟩
 have HM:=O hm;rw[hm] at ho4;obtain⟨va,vc,rfl,-,-⟩:=(Rd.of_owns ho4).form;have HO4:=O ho4
 have hl47:b.length=47:=by
  have h:=HT.out;unfold kH at h;simp only[Bool.and_eq_true,decide_eq_true_eq] at h;exact h.1.1
 obtain⟨pc,hpc⟩:∃x,aE (.slice va m vc) (fX b)=x:=⟨_,rfl⟩
 have hpl:pc.length=35:=by rw[←hpc];exact aO (by show (b.drop 15).length=32;rw[List.length_drop,hl47])
 have hpo:∀u∈pc,u.oneCell'=true:=by rw[←hpc];exact bR _
 have HPC:=O hpc;rw[hpc];clear ho4 hm hpc hl47
 go_wp2_with (first
  | ((with_reducible show WL none (.store 35 (.tmp 2) (.tmp 6)));refine aM rfl 35 (.tmp 2) (.tmp 6) rfl rb 0 pc rfl rfl zc.toArray 35 HRB.out (by rw[hpl,List.size_toArray,hzl];exact Nat.le_refl _) (fD hpl) hpo ?_;intro w5 hb5 hk5;rw[aG _ _ (by rw[hpl,List.size_toArray,hzl])] at hb5;have HF5:=O (hk5.blk HFB.out (by omega));have HB5:=O hb5;have HK5:=O hk5;clear hb5 hk5)
  | ((with_reducible show WL none (.store 219 (.tmp 3) (.tmp 7)));refine aM rfl 219 (.tmp 3) (.tmp 7) rfl fb 0 [.int .i64 0,.int .i64 0] rfl rfl #[.int .i64 0,.int .i64 0] 219 HF5.out (Nat.le_refl _) kU (by simp[Value.oneCell']) ?_;intro w6 hb6 hk6;rw[aG _ _ (by rfl)] at hb6;have HB6:=O (hk6.blk HB5.out (by omega));have HF6:=O hb6;have HK6:=O hk6;clear hb6 hk6))
 refine leaves_cons (f:=203) (args:=#[.pointer (some ⟨rb,0,none⟩),.pointer (some ⟨fb,0,none⟩)]) (by simp) (by simp[go_sem]) ?_;refine(DF _ _ _).mono ?_;rintro e u' w'' ⟨rfl,rfl,rfl⟩;refine⟨_,zT rfl _ _ rb fb _ _ _ _ _ _ _ _ rfl HB6.out aJ rfl (by rw[List.size_toArray,hpl];exact xW) rfl HF6.out Tryz.underlying219 rfl kU,?_,?_⟩
 ·exact(HK4.out.trans' HK5.out (U:=aB) (fun _ _ h=>h) (fun i hi e=>by have:=HRBE.out;omega)).trans' HK6.out (fun _ _ h=>h) (fun i hi e=>by have:=HRBE.out;omega)
 ·rw[HT.out,if_pos rfl]
  refine⟨_,by rw[HPC.out],?_⟩;rw[HM.out];have h5:=HK5.out.owns HO4.out (fun i hi e=>by have:=bE HO4.out hi;have:=HSW.out;omega);exact aP (HK6.out.owns h5 (fun i hi e=>by have:=bE HO4.out hi;have:=HSW.out;omega)) (by have:=HRBE.out;have:=HSW.out;omega)
theorem Kj(n k:Nat):be n (k+1)=be (n / 256) k++[UInt8.ofNat n]:=by
 unfold be;rw[List.range_succ,List.map_append,List.map_cons,List.map_nil]
 congr 1
 ·refine List.map_congr_left fun j hj=>?_
  rw[List.mem_range] at hj;unfold iE;rw[show 8*(k+1-1-j)=8*(k-1-j)+8 by omega,Nat.pow_add,Nat.mul_comm,←Nat.div_div_eq_div_mul]
 ·unfold iE
  simp
theorem L2(n:Nat):∀k,beN (be n k)=n % 256 ^ k:=by
 intro k
 induction k generalizing n with
 | zero=>simp[be,beN,Nat.mod_one]
 | succ k ih =>
   rw[Kj,rF,ih];have h1:(UInt8.ofNat n).toNat=n % 256:=by simp
   rw[h1,Nat.pow_succ,Nat.mul_comm (256 ^ k) 256,Nat.mod_mul];omega
theorem nF{z:Int}{k:Nat}(h0:0≤z)(h:z<256 ^ k):(beN (be z.toNat k):Int)=z:=by
 rw[L2,Nat.mod_eq_of_lt]
 ·exact Int.toNat_of_nonneg h0
 ·have:((z.toNat:Nat):Int)<((256 ^ k:Nat):Int):=by rw[Int.toNat_of_nonneg h0];simpa using h
  exact_mod_cast this
theorem EB{A B C:List UInt8}{i k:Nat}(h1:A.length=i)(h2:B.length=k):((A++(B++C)).drop i).take k=B:=by
 subst h1 h2;rw[List.drop_left,List.take_left]
theorem FP(p:Pt)(i:Nat)(h:i<3):((dG p).drop (1+3*i)).take 1=be (p.addrs.getD i zAd).dev.toNat 1/\((dG p).drop (1+3*i+1)).take 2=be (p.addrs.getD i zAd).sec.toNat 2:=by
 have h3:i=0\/i=1\/i=2:=by omega
 rcases h3 with rfl|rfl|rfl<;>exact⟨rfl,rfl⟩
theorem Is{p:Pt}(hm:p.may=true){i:Nat}(h:i<3):wG (dG p) i=p.addrs.getD i zAd:=by
 obtain⟨h1,h2⟩:=FP p i h;obtain⟨d,s,hd,hd8,hs⟩:=GJ (mO hm).2.1 i;unfold wG;rw[h1,h2,hd];have e1:=nF (z:=(d:Int)) (k:=1) (by omega) (by omega);have e2:=nF (z:=(s:Int)) (k:=2) (by omega) (by omega);show (⟨_,_⟩:Ad)=_;rw[e1,e2]
theorem It{p:Pt}(hs:p.sum.length=32)(hm:p.may=true):fX (dG p)=p:=by
 obtain⟨b1,b2,b3,b4,b5,b6⟩:=mO hm
 have hc:beN ((dG p).take 1)=p.addrs.length:=by
  have h0:(dG p).take 1=be p.addrs.length 1:=rfl;have:=nF (z:=(p.addrs.length:Int)) (k:=1) (by omega) (by omega);rw[h0];rw[Int.toNat_natCast] at this
  exact_mod_cast this
 have ha:dL (dG p) 3=p.addrs:=by
  unfold dL;rw[hc,Nat.min_eq_left b1];apply List.ext_getElem?;intro i;rw[List.getElem?_map]
  by_cases hi:i<p.addrs.length
  ·rw[List.getElem?_range hi,Option.map_some,Is hm (by omega),List.getD_eq_getElem?_getD,List.getElem?_eq_getElem hi]
   rfl
  ·rw[List.getElem?_eq_none (by simpa using hi),List.getElem?_eq_none (by omega)]
   rfl
 have l3:(bQ p 3).length=10:=eK p 3
 have e1:((dG p).drop 10).take 4=be p.birth.toNat 4:=by
  unfold dG;rw[List.append_assoc,List.append_assoc];exact EB l3 (bD _ _)
 have e2:((dG p).drop 14).take 1=be p.level.toNat 1:=by
  unfold dG;rw[List.append_assoc];exact EB (by rw[List.length_append,l3,bD]) (bD _ _)
 have e3:(dG p).drop 15=p.sum:=by
  unfold dG;have:(bQ p 3++be p.birth.toNat 4++be p.level.toNat 1).length=15:=by rw[List.length_append,List.length_append,l3,bD,bD]
  rw[←this,List.drop_left]
 unfold fX;rw[ha,e1,e2,e3,nF b3 (by omega),nF b5 (by omega)]
end
end Go.Proofs.YthihofpfonfjfaaGreatDoor
