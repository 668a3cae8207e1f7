import Derived.Test.YtiinnfhjpaeffaaGreatW1
import Derived.Test.YtiinnfhjpaeffaaGreatW8
import Derived.Test.YtiinnfhjpaeffaaGreatW16
namespace Go.Proofs.YtiinnfhjpaeffaaGreat
set_option maxHeartbeats 64000000
set_option maxRecDepth 100000
set_option linter.unusedVariables false
section
open Go.RowKit Go.Maps Go.ChangeMaps
structure Pt where
 addrs:List Ad
 birth:Int
 level:Int
 sum:List UInt8
def eA:List UInt8:=List.replicate 32 0
def Pt.noth(p:Pt):Bool:=(p.birth == 0) && (p.level == 0) && decide (p.sum=eA)
def Pt.hole(p:Pt):Bool:=((p.addrs.length:Int) == 0) && p.noth
def kG(a:Ad):Bool:=decide (0≤a.dev) && decide (a.dev<8) && decide (5≤a.sec) && decide (a.sec<4096)
def qS(l:List Ad):Bool:=l.all kG && decide ((l.map (·.dev)).Nodup) && decide (1≤l.length) && decide (l.length≤3)
def Pt.numsB(p:Pt):Bool:=decide (1≤p.birth) && decide (p.birth≤2147483648) && decide (0≤p.level) && decide (p.level≤3)
def Pt.may(p:Pt):Bool:=p.hole || (qS p.addrs && p.numsB)
def Pt.like(p q:Pt):Bool:=(p.birth == q.birth) && (p.level == q.level) && decide (p.sum=q.sum) && (decide (0<p.addrs.length) == decide (0<q.addrs.length))
structure Ub where
 txg:Int
 root:Pt
 len:Int
 pool:List UInt8
def Ub.may(u:Ub):Bool:=decide (1≤u.txg) && decide (u.txg≤2147483648) && decide (0≤u.len) && decide (u.len≤16384) && (u.root.hole || (u.root.may && (u.root.level == 3) && decide (u.root.birth≤u.txg)))
def aE(v:Value)(p:Pt):List Value:=v::.int .i64 p.birth::.int .i64 p.level::p.sum.map vb
def dP(v:Value)(u:Ub):List Value:=.int .i64 u.txg::(aE v u.root++(.int .i64 u.len::u.pool.map vb))
theorem aJ{v:Value}{p:Pt}(h:p.sum.length=32):(aE v p).length=35:=by simp[aE,h]
theorem kS{v:Value}{u:Ub}(h:u.root.sum.length=32)(h':u.pool.length=32):(dP v u).length=69:=by simp[dP,aE,h,h']
theorem qF{w:World}{b o:Nat}{A B C:List Value}(h:w.rangeAt b o (A++(B++C))):w.rangeAt b (o+A.length) B:=fun j v hj=>by
 have hl:=(List.getElem?_eq_some_iff.1 hj).1;have:=h (A.length+j) v (by rw[List.getElem?_append_right (by omega),show A.length+j-A.length=j by omega,List.getElem?_append_left hl];exact hj)
 rwa [←Nat.add_assoc] at this
theorem bO{w:World}{b o:Nat}{v:Value}{p:Pt}(h:w.rangeAt b o (aE v p)):w.cell? ⟨b,o,none⟩=some v/\w.cell? ⟨b,o+1,none⟩=some (.int .i64 p.birth)/\w.cell? ⟨b,o+2,none⟩=some (.int .i64 p.level)/\w.rangeAt b (o+3) (p.sum.map vb):=by
 refine⟨h 0 _ rfl,h 1 _ rfl,h 2 _ rfl,?_⟩;have h2:w.rangeAt b o ([v,.int .i64 p.birth,.int .i64 p.level]++(p.sum.map vb++[])):=by rw[List.append_nil];exact h
 exact qF h2
theorem fY{w:World}{b o:Nat}{v:Value}{u:Ub}(hs:u.root.sum.length=32)(h:w.rangeAt b o (dP v u)):w.cell? ⟨b,o,none⟩=some (.int .i64 u.txg)/\w.rangeAt b (o+1) (aE v u.root)/\w.cell? ⟨b,o+36,none⟩=some (.int .i64 u.len)/\w.rangeAt b (o+37) (u.pool.map vb):=by
 refine⟨h 0 _ rfl,?_,?_,?_⟩
 ·have h2:w.rangeAt b o ([.int .i64 u.txg]++(aE v u.root++(.int .i64 u.len::u.pool.map vb))):=h
  exact qF h2
 ·have h2:w.rangeAt b o ((.int .i64 u.txg::aE v u.root)++([.int .i64 u.len]++u.pool.map vb)):=h
  have h3:=qF h2 0 _ rfl;rw[show (Value.int .i64 u.txg::aE v u.root).length=36 by rw[List.length_cons,aJ hs]] at h3;exact h3
 ·have h2:w.rangeAt b o ((.int .i64 u.txg::(aE v u.root++[.int .i64 u.len]))++(u.pool.map vb++[])):=by
   have e:dP v u=(.int .i64 u.txg::(aE v u.root++[.int .i64 u.len]))++(u.pool.map vb++[]):=by simp[dP]
   rw[←e];exact h
  have h3:=qF h2;rw[show (Value.int .i64 u.txg::(aE v u.root++[.int .i64 u.len])).length=37 by rw[List.length_cons,List.length_append,aJ hs];rfl] at h3;exact h3
theorem aF:Tryz.prog.underlying 27=some (.struct (Tryz.prog.fieldsOf 27)):=by kernel_rfl
theorem yK:(Tryz.prog.info? 27).map (·.size)=some 35:=by kernel_rfl
theorem lC:Tryz.prog.underlying 45=some (.struct (Tryz.prog.fieldsOf 45)):=by kernel_rfl
theorem Nc:(Tryz.prog.info? 45).map (·.size)=some 69:=by kernel_rfl
theorem cH{l:List Value}(h:l.length=35):(Tryz.prog.info? 27).map (·.size)=some l.length:=by rw[h];exact yK
theorem EK{l:List Value}(h:l.length=69):(Tryz.prog.info? 45).map (·.size)=some l.length:=by rw[h];exact Nc
theorem Ae{l:List Value}(h:l.length=32):(Tryz.prog.info? 25).map (·.size)=some l.length:=by rw[h];exact nS
theorem J2(w:World):(sizeOf 5).run Tryz.prog w=.ok 1 w:=by kernel_rfl
theorem FM(xs ys:List UInt8)(hx:xs.length=32)(hy:ys.length=32)(w:World):Sem.run Tryz.prog (binOp .eql 25 (.agg (xs.map vb).toArray) (.agg (ys.map vb).toArray)) w=.ok (.bool (decide (xs=ys))) w:=by
 have:=run_eql_bytes (P:=Tryz.prog) w 25 5 32 Tryz.underlying25 Tryz.underlying5 J2 xs ys hx hy;rw[show decide (xs=ys)=(xs == ys) by rw[Bool.eq_iff_iff];simp];exact this
theorem L5:Tryz.prog.eqGuardType Tryz.prog.depth 25=false:=by kernel_rfl
theorem L6(w:World):(Instr.build 25 #[]).run Tryz.prog w=.ok (.agg (eA.map vb).toArray) w:=by kernel_rfl
structure PtV(w:World)(v:Value)(p:Pt):Prop where
 rd:Rd w 2 v p.addrs.length (aQ p.addrs)
 ads:jU p.addrs
 sum:p.sum.length=32
theorem PtV.keep{T:Nat->Prop}{w w':World}{v:Value}{p:Pt}(h:PtV w v p)(k:aA T w w')(hT:∀i,v.ownBlock=some i->¬T i):PtV w' v p:=⟨h.rd.keep k hT,h.ads,h.sum⟩
structure UbV(w:World)(v:Value)(u:Ub):Prop where
 root:PtV w v u.root
 pool:u.pool.length=32
theorem UbV.keep{T:Nat->Prop}{w w':World}{v:Value}{u:Ub}(h:UbV w v u)(k:aA T w w')(hT:∀i,v.ownBlock=some i->¬T i):UbV w' v u:=⟨h.root.keep k hT,h.pool⟩
theorem J3{n:Nat}:((n:Int) == 0)=decide (n=0):=by rw[Bool.eq_iff_iff];simp
theorem J4(w:World)(v:Value)(p:Pt)(h0:PtV w v p):Calls Tryz.prog 109 #[.agg (aE v p).toArray] w (aX w p.noth):=by
 obtain⟨w1,hw1,hk1,hb_0,hs1⟩:=aT w (aE v p).toArray 27;obtain⟨a0,b0,c0,d0⟩:=bO (aD hb_0);have HP0:=O d0;have HB0:=O hb_0;have hl0:(aE v p).length=35:=aJ h0.sum;simp only[Nat.zero_add] at a0 b0 c0;have HK:=O hk1;have heq:=FM p.sum eA h0.sum rfl;have hsl:(p.sum.map vb).length=32:=by rw[List.length_map];exact h0.sum
 obtain⟨t1,ht1⟩:∃t:Bool,(p.birth == 0)=t:=⟨_,rfl⟩
 obtain⟨t2,ht2⟩:∃t:Bool,(p.level == 0)=t:=⟨_,rfl⟩
 obtain⟨t3,ht3⟩:∃t:Bool,decide (p.sum=eA)=t:=⟨_,rfl⟩
 have hs:p.noth=(t1 && t2 && t3):=by unfold Pt.noth;rw[ht1,ht2,ht3]
 rw[hs];rw[ht3] at heq;obtain⟨ss,hss⟩:∃x,p.sum.map vb=x:=⟨_,rfl⟩
 have Hss:=O hss;obtain⟨pc,hpc⟩:∃x,aE v p=x:=⟨_,rfl⟩
 have Hpc:=O hpc;rw[hss] at heq hsl HP0;rw[hpc] at hw1 ⊢;have heqz:∀w,Sem.run Tryz.prog (binOp .eql 25 (.agg ss.toArray) (.agg #[.int .u8 0,.int .u8 0,.int .u8 0,.int .u8 0,.int .u8 0,.int .u8 0,.int .u8 0,.int .u8 0,.int .u8 0,.int .u8 0,.int .u8 0,.int .u8 0,.int .u8 0,.int .u8 0,.int .u8 0,.int .u8 0,.int .u8 0,.int .u8 0,.int .u8 0,.int .u8 0,.int .u8 0,.int .u8 0,.int .u8 0,.int .u8 0,.int .u8 0,.int .u8 0,.int .u8 0,.int .u8 0,.int .u8 0,.int .u8 0,.int .u8 0,.int .u8 0])) w=.ok (.bool t3) w:=heq;clear heq;clear hs ht3 hb_0 d0 hk1 hs1 hss hpc h0 HB0
 cases t1<;>cases t2<;>cases t3<;>(
  go_in
  go_wp2_with (first
   | ((with_reducible show WL _ (.load 25 (.tmp 12)));refine aM (by rfl) 25 (.tmp 12) rfl (w.heap.size) 3 rfl ss _ HP0.out Tryz.underlying25 rfl (Ae hsl) ?_))
  go_ret;exact⟨rfl,HK.out⟩)
theorem cJ(w:World)(v:Value)(p:Pt)(h0:PtV w v p):Calls Tryz.prog 65 #[.agg (aE v p).toArray] w (aX w p.hole):=by
 obtain⟨oa,ca,hv,-,-⟩:=h0.rd.form;subst hv;obtain⟨w1,hw1,hk1,hb_0,hs1⟩:=aT w (aE (.slice oa p.addrs.length ca) p).toArray 27;obtain⟨a0,b0,c0,d0⟩:=bO (aD hb_0);have HP0:=O d0;have HB0:=O hb_0;have hl0:(aE (.slice oa p.addrs.length ca) p).length=35:=aJ h0.sum;simp only[Nat.zero_add] at a0 b0 c0;have HC:=O (J4 w1 _ p (h0.keep hk1 fun _ _=>id));have HK:=O hk1;obtain⟨t1,ht1⟩:∃t:Bool,((p.addrs.length:Int) == 0)=t:=⟨_,rfl⟩
 obtain⟨t2,ht2⟩:∃t:Bool,p.noth=t:=⟨_,rfl⟩
 have hs:p.hole=(t1 && t2):=by unfold Pt.hole;rw[ht1,ht2]
 rw[hs];rw[ht2] at HC;have HR0:=O (aD HB0.out);obtain⟨pc,hpc⟩:∃x,aE (.slice oa p.addrs.length ca) p=x:=⟨_,rfl⟩
 have Hpc:=O hpc;rw[hpc] at hw1 HC hl0 HR0 ⊢;obtain⟨n,hn⟩:∃x,p.addrs.length=x:=⟨_,rfl⟩
 have Hn:=O hn;rw[hn] at a0 ht1;have ht1n:decide (n=0)=t1:=by rw[←ht1,J3]
 clear hs ht2 hb_0 d0 hk1 hs1 hpc h0 HB0 HP0 hn;cases t1
 ·go_in
  go_wp2;go_ret;exact⟨rfl,HK.out⟩
 ·go_in
  go_wp2_with (first
   | ((with_reducible show WL _ (.load 27 (.tmp 1)));refine aM (by rfl) 27 (.tmp 1) rfl (w.heap.size) 0 rfl pc _ HR0.out aF rfl (cH hl0) ?_))
  refine HC.out.mono ?_;rintro e w2 ⟨rfl,hk⟩;have HK2:=O (HK.out.trans hk);clear hk HC
  cases t2<;>(
   go_wp2;go_ret;exact⟨rfl,HK2.out⟩)
theorem J5(w:World)(v u:Value)(p q:Pt)(h0:PtV w v p)(h1:PtV w u q):Calls Tryz.prog 72 #[.agg (aE v p).toArray,.agg (aE u q).toArray] w (aX w (p.like q)):=by
 obtain⟨oa,ca,hv,-,-⟩:=h0.rd.form;subst hv;obtain⟨ob,cb,hv,-,-⟩:=h1.rd.form;subst hv;obtain⟨w1,hw1⟩:∃w1,(w.alloc (.cells (aE (.slice oa p.addrs.length ca) p).toArray 27)).alloc (.cells (aE (.slice ob q.addrs.length cb) q).toArray 27)=w1:=⟨_,rfl⟩
 have hb_0:w1.heap[w.heap.size]?=some (.cells (aE (.slice oa p.addrs.length ca) p).toArray 27 (0,0)):=by rw[←hw1];exact heap_alloc2_old _ _ _
 have hb_1:w1.heap[w.heap.size+1]?=some (.cells (aE (.slice ob q.addrs.length cb) q).toArray 27 (0,0)):=by rw[←hw1];exact heap_alloc2_new _ _ _
 have hk1:aA aB w w1:=by rw[←hw1];exact((aA.refl _ _).alloc _).alloc _
 obtain⟨a0,b0,c0,d0⟩:=bO (aD hb_0);have HP0:=O d0;have HB0:=O hb_0;have hl0:(aE (.slice oa p.addrs.length ca) p).length=35:=aJ h0.sum;simp only[Nat.zero_add] at a0 b0 c0;obtain⟨a1,b1,c1,d1⟩:=bO (aD hb_1);have HP1:=O d1;have HB1:=O hb_1;have hl1:(aE (.slice ob q.addrs.length cb) q).length=35:=aJ h1.sum;simp only[Nat.zero_add] at a1 b1 c1;have HK:=O hk1;have heq:=FM p.sum q.sum h0.sum h1.sum;have hsl:(p.sum.map vb).length=32:=by rw[List.length_map];exact h0.sum
 have hql:(q.sum.map vb).length=32:=by rw[List.length_map];exact h1.sum
 obtain⟨t1,ht1⟩:∃t:Bool,(p.birth == q.birth)=t:=⟨_,rfl⟩
 obtain⟨t2,ht2⟩:∃t:Bool,(p.level == q.level)=t:=⟨_,rfl⟩
 obtain⟨t3,ht3⟩:∃t:Bool,decide (p.sum=q.sum)=t:=⟨_,rfl⟩
 obtain⟨t4,ht4⟩:∃t:Bool,decide (0<p.addrs.length)=t:=⟨_,rfl⟩
 obtain⟨t5,ht5⟩:∃t:Bool,decide (0<q.addrs.length)=t:=⟨_,rfl⟩
 have hs:p.like q=(t1 && t2 && t3 && (t4 == t5)):=by unfold Pt.like;rw[ht1,ht2,ht3,ht4,ht5]
 rw[hs];rw[ht3] at heq;obtain⟨ss,hss⟩:∃x,p.sum.map vb=x:=⟨_,rfl⟩
 have Hss:=O hss;obtain⟨zz,hzz⟩:∃x,q.sum.map vb=x:=⟨_,rfl⟩
 have Hzz:=O hzz;obtain⟨pc,hpc⟩:∃x,aE (.slice oa p.addrs.length ca) p=x:=⟨_,rfl⟩
 have Hpc:=O hpc;obtain⟨qc,hqc⟩:∃x,aE (.slice ob q.addrs.length cb) q=x:=⟨_,rfl⟩
 have Hqc:=O hqc;rw[hss] at heq hsl HP0;rw[hzz] at heq hql HP1;rw[hpc,hqc] at hw1 ⊢;obtain⟨n,hn⟩:∃x,p.addrs.length=x:=⟨_,rfl⟩
 have Hn:=O hn;obtain⟨m,hm⟩:∃x,q.addrs.length=x:=⟨_,rfl⟩
 have Hm:=O hm;rw[hn] at a0 ht4;rw[hm] at a1 ht5;have ht4n:decide ((0:Int)<(n:Int))=t4:=by rw[←ht4];exact decide_eq_decide.2 (by omega)
 have ht5n:decide ((0:Int)<(m:Int))=t5:=by rw[←ht5];exact decide_eq_decide.2 (by omega)
 clear hs ht3 hb_0 hb_1 d0 d1 hk1 hss hzz hpc hqc h0 h1 HB0 HB1 hn hm
 cases t1<;>cases t2<;>cases t3<;>cases t4<;>cases t5<;>(
  go_in
  go_wp2_with (first
   | ((with_reducible show WL _ (.load 25 (.tmp 18)));refine aM (by rfl) 25 (.tmp 18) rfl (w.heap.size) 3 rfl ss _ HP0.out Tryz.underlying25 rfl (Ae hsl) ?_)
   | ((with_reducible show WL _ (.load 25 (.tmp 20)));refine aM (by rfl) 25 (.tmp 20) rfl (w.heap.size+1) 3 rfl zz _ HP1.out Tryz.underlying25 rfl (Ae hql) ?_))
  go_ret;exact⟨rfl,HK.out⟩)
open Go.RowKit Go.Maps Go.ChangeMaps
set_option maxRecDepth 100000
set_option linter.unusedVariables false
theorem Nd(w:World):(zeroValue 258).run Tryz.prog w=.ok (.agg (Array.replicate 8 (.bool false))) w:=by kernel_rfl
def qG(l:List Ad):List Value:=(List.range 8).map fun(d:Nat)=>Value.bool (decide ((d:Int)∈l.map (·.dev)))
theorem sG{l:List Ad}{d:Nat}(h:d<8):(qG l).toArray[d]?=some (.bool (decide ((d:Int)∈l.map (·.dev)))):=by
 unfold qG;rw[List.getElem?_toArray,List.getElem?_map,List.getElem?_range h];rfl
theorem J6{l:List Ad}{d:Nat}{s:Int}(h:d<8):(qG l).toArray.setIfInBounds d (.bool true)=(qG (l++[⟨(d:Int),s⟩])).toArray:=by
 rw[List.setIfInBounds_toArray]
 congr 1
 refine List.ext_getElem? fun i=>?_
 unfold qG;rw[List.getElem?_set,List.getElem?_map,List.getElem?_map,List.length_map,List.length_range]
 by_cases hi:i<8
 ·rw[List.getElem?_range hi,List.map_append]
  by_cases e:d=i
  ·subst e
   rw[if_pos rfl,if_pos hi];simp
  ·rw[if_neg e]
   have:¬(i:Int)=(d:Int):=by omega
   simp[this]
 ·rw[if_neg (by omega)]
  rw[List.getElem?_eq_none (by rw[List.length_range];omega)];rfl
theorem Nf{l:List Ad}{k:Nat}{x:Ad}(hx:l[k]?=some x)(h:kG x=false\/x.dev∈(l.take k).map (·.dev)):qS l=false:=by
 unfold qS;rcases h with h|h
 ·have h1:l.all kG=false:=by
   rw[List.all_eq_false];exact⟨x,List.mem_of_getElem? hx,by rw[h];simp⟩
  rw[h1];simp
 ·have h1:¬(l.map (·.dev)).Nodup:=by
   intro hn;have hk:=(List.getElem?_eq_some_iff.1 hx).1
   have e:l=l.take k++x::l.drop (k+1):=by
    conv=>lhs;rw[←List.take_append_drop k l]
    rw[List.drop_eq_getElem_cons hk]
    congr 2
    rw[List.getElem?_eq_getElem hk] at hx;exact Option.some.inj hx
   rw[e,List.map_append,List.map_cons] at hn;exact(List.nodup_append.1 hn).2.2 _ h _ (List.mem_cons_self ..) rfl
  rw[decide_eq_false h1];simp
theorem L7{l:List Ad}(h1:l.all kG=true)(h2:(l.map (·.dev)).Nodup):qS l=(decide (1≤l.length) && decide (l.length≤3)):=by
 unfold qS;rw[h1,decide_eq_true h2];simp
theorem Hy(w:World)(v:Value)(l:List Ad)(ho:jU l)(hr:Rd w 2 v l.length (aQ l)):Calls Tryz.prog 127 #[v] w (aX w (qS l)):=by
 obtain⟨oa,ca,rfl,-,hmm⟩:=hr.form;have hmx:l.length≤maxLen:=by have h:=hr.2;obtain⟨a',cap',h1,h2,h3,-⟩:=h;omega
 unfold maxLen at hmx;obtain⟨bb,hbb⟩:∃b,qS l=b:=⟨_,rfl⟩
 have HBB:=O hbb;rw[hbb];obtain⟨n,hn⟩:∃n,l.length=n:=⟨_,rfl⟩
 have HN:=O hn;have HR:=O hr;have HO:=O ho;rw[hn] at HR hmx ⊢;clear hmm hr hn hbb ho;obtain⟨w1,hw1,hk1,hb1,hs1⟩:=aT w (Array.replicate 8 (.bool false)) 258;have HB1:Hid (w1.heap[w.heap.size]?=some (.cells (qG []).toArray 258 (0,0))):=O hb1;have HK1:=O hk1;obtain⟨sb,hsb⟩:∃s,w.heap.size=s:=⟨_,rfl⟩
 have hsw:sb<w1.heap.size:=by omega
 have HSB:=O hsb;rw[hsb] at HB1;clear hk1 hb1 hs1;go_in
 go_wp2_with (first
  | ((with_reducible show WL (some 3) (.alloc 258));refine aR rfl 258 rfl _ Nd (Array.replicate 8 (.bool false)) rfl ?_;rw[hw1,hsb]))
 clear hw1 hsb
 go_loopw [8] (fun i wr=>∃k:Nat,k≤n/\i=.int .i64 k/\Hid (wr.heap[sb]?=some (.cells (qG (l.take k)).toArray 258 (0,0)))/\Hid ((l.take k).all kG=true/\((l.take k).map (·.dev)).Nodup)/\Hid (aA (fun i=>i=sb) w1 wr)) (fun i _=>n-(intOf i).toNat)
 case atStart=>exact⟨0,Nat.zero_le _,rfl,O HB1.out,O ⟨rfl,List.nodup_nil⟩,O (aA.refl _ _)⟩
 case round =>
 clear HB1;obtain⟨k,hk,rfl,HS,HI,HKR⟩:=hrel;have HK:=O (HK1.out.trans' HKR.out (U:=aB) (fun _ _ h=>h) (fun i hi e=>by have:=HSB.out;omega))
 by_cases hlt:k<n
 ·have hki:(k:Int)<(n:Int):=by omega
  have hk0:(0:Int)≤(k:Int):=by omega
  obtain⟨⟨xd,xs⟩,h_x⟩:∃x,l[k]?=some x:=⟨l[k]'(by rw[HN.out];exact hlt),List.getElem?_eq_getElem _⟩
  have h_r:=HR.out.keep HK.out fun _ _=>id
  rw[←HN.out] at h_r;obtain⟨g,o,cap',h_v,h_at⟩:=iX h_r h_x;have e1:oa=some ⟨g,o,none⟩:=by cases h_v;rfl
  subst e1;have HX:=O h_at;have HE:=O h_x;have hTK:l.take (k+1)=l.take k++[⟨xd,xs⟩]:=by rw[List.take_add_one,h_x];rfl
  have HTK:=O hTK;clear h_x h_r h_v h_at hTK;have hin:=HO.out _ (List.mem_of_getElem? HE.out);have HNO:Hid (kG ⟨xd,xs⟩=false\/xd∈(l.take k).map (·.dev)->bb=false):=O (fun h=>by rw[←HBB.out];exact Nf HE.out h)
  by_cases h1:xd<0
  ·have hbf:bb=false:=HNO.out (.inl (by unfold kG;simp;omega))
   have d1:decide (xd<0)=true:=decide_eq_true h1;subst hbf
   go_wp2_with (first
    | ((with_reducible show WL _ (.load 82 (.tmp 10)));refine wpList_load_mid rfl 82 (.tmp 10) rfl g (o+k*2) rfl (aO ⟨xd,xs⟩) _ HX.out bS rfl bW ?_)
    | ((with_reducible show WL (some 5) (.alloc 82));refine aR rfl 82 rfl eF eC #[.int .i64 0,.int .i64 0] rfl ?_)
    | ((with_reducible show WL none (.store 82 (.tmp 5) (.tmp 11)));refine aP rfl 82 (.tmp 5) (.tmp 11) rfl wr.heap.size 0 (aO ⟨xd,xs⟩) rfl rfl #[.int .i64 0,.int .i64 0] 82 (heap_alloc_new _ _) (Nat.le_refl _) bW (bL _) ?_
       intro w3 hb3 hk3;rw[aI _ _ (by rfl)] at hb3;have hk4:aA aB wr w3:=((aA.refl aB wr).alloc _).trans' hk3 (fun _ _ h=>h) (fun i hi e=>by omega);have HK4:=O hk4;have hc0:w3.cell? ⟨wr.heap.size,0,none⟩=some (.int .i64 xd):=aC hb3 rfl;have hc1:w3.cell? ⟨wr.heap.size,1,none⟩=some (.int .i64 xs):=aC hb3 rfl;have HS3:=O (hk4.blk HS.out id)
       skip
       clear hb3 hk3 hk4))
   go_ret;exact⟨rfl,HK.out.trans HK4.out⟩
  by_cases h2:8≤xd
  ·have hbf:bb=false:=HNO.out (.inl (by unfold kG;simp;omega))
   have d2:decide (8≤xd)=true:=decide_eq_true h2;subst hbf
   go_wp2_with (first
    | ((with_reducible show WL _ (.load 82 (.tmp 10)));refine wpList_load_mid rfl 82 (.tmp 10) rfl g (o+k*2) rfl (aO ⟨xd,xs⟩) _ HX.out bS rfl bW ?_)
    | ((with_reducible show WL (some 5) (.alloc 82));refine aR rfl 82 rfl eF eC #[.int .i64 0,.int .i64 0] rfl ?_)
    | ((with_reducible show WL none (.store 82 (.tmp 5) (.tmp 11)));refine aP rfl 82 (.tmp 5) (.tmp 11) rfl wr.heap.size 0 (aO ⟨xd,xs⟩) rfl rfl #[.int .i64 0,.int .i64 0] 82 (heap_alloc_new _ _) (Nat.le_refl _) bW (bL _) ?_
       intro w3 hb3 hk3;rw[aI _ _ (by rfl)] at hb3;have hk4:aA aB wr w3:=((aA.refl aB wr).alloc _).trans' hk3 (fun _ _ h=>h) (fun i hi e=>by omega);have HK4:=O hk4;have hc0:w3.cell? ⟨wr.heap.size,0,none⟩=some (.int .i64 xd):=aC hb3 rfl;have hc1:w3.cell? ⟨wr.heap.size,1,none⟩=some (.int .i64 xs):=aC hb3 rfl;have HS3:=O (hk4.blk HS.out id)
       skip
       clear hb3 hk3 hk4))
   go_ret;exact⟨rfl,HK.out.trans HK4.out⟩
  obtain⟨d,rfl⟩:∃d:Nat,xd=(d:Int):=⟨xd.toNat,by omega⟩
  have hd8:d<8:=by omega
  have hdi:(d:Int)<8:=by omega
  have hd0:(0:Int)≤(d:Int):=by omega
  obtain⟨s,hse⟩:∃s,decide ((d:Int)∈(l.take k).map (·.dev))=s:=⟨_,rfl⟩
  have HSE:=O hse;clear h1 h2;cases s
  ·have hnd:(d:Int) ∉ (l.take k).map (·.dev):=of_decide_eq_false HSE.out
   have HND:=O hnd;clear hnd
   by_cases h3:xs<5
   ·have hbf:bb=false:=HNO.out (.inl (by unfold kG;simp;omega))
    have d3:decide (xs<5)=true:=decide_eq_true h3;subst hbf
    go_wp2_with (first
     | ((with_reducible show WL _ (.load 82 (.tmp 10)));refine wpList_load_mid rfl 82 (.tmp 10) rfl g (o+k*2) rfl (aO ⟨(d:Int),xs⟩) _ HX.out bS rfl bW ?_)
     | ((with_reducible show WL (some 5) (.alloc 82));refine aR rfl 82 rfl eF eC #[.int .i64 0,.int .i64 0] rfl ?_)
     | ((with_reducible show WL none (.store 82 (.tmp 5) (.tmp 11)));refine aP rfl 82 (.tmp 5) (.tmp 11) rfl wr.heap.size 0 (aO ⟨(d:Int),xs⟩) rfl rfl #[.int .i64 0,.int .i64 0] 82 (heap_alloc_new _ _) (Nat.le_refl _) bW (bL _) ?_
        intro w3 hb3 hk3;rw[aI _ _ (by rfl)] at hb3;have hk4:aA aB wr w3:=((aA.refl aB wr).alloc _).trans' hk3 (fun _ _ h=>h) (fun i hi e=>by omega);have HK4:=O hk4;have hc0:w3.cell? ⟨wr.heap.size,0,none⟩=some (.int .i64 (d:Int)):=aC hb3 rfl;have hc1:w3.cell? ⟨wr.heap.size,1,none⟩=some (.int .i64 xs):=aC hb3 rfl;have HS3:=O (hk4.blk HS.out id);have hcs:=aC HS3.out (sG (l:=l.take k) hd8);rw[hse] at hcs;clear hb3 hk3 hk4))
    go_ret;exact⟨rfl,HK.out.trans HK4.out⟩
   by_cases h4:4096≤xs
   ·have hbf:bb=false:=HNO.out (.inl (by unfold kG;simp;omega))
    have d4:decide (4096≤xs)=true:=decide_eq_true h4;subst hbf
    go_wp2_with (first
     | ((with_reducible show WL _ (.load 82 (.tmp 10)));refine wpList_load_mid rfl 82 (.tmp 10) rfl g (o+k*2) rfl (aO ⟨(d:Int),xs⟩) _ HX.out bS rfl bW ?_)
     | ((with_reducible show WL (some 5) (.alloc 82));refine aR rfl 82 rfl eF eC #[.int .i64 0,.int .i64 0] rfl ?_)
     | ((with_reducible show WL none (.store 82 (.tmp 5) (.tmp 11)));refine aP rfl 82 (.tmp 5) (.tmp 11) rfl wr.heap.size 0 (aO ⟨(d:Int),xs⟩) rfl rfl #[.int .i64 0,.int .i64 0] 82 (heap_alloc_new _ _) (Nat.le_refl _) bW (bL _) ?_
        intro w3 hb3 hk3;rw[aI _ _ (by rfl)] at hb3;have hk4:aA aB wr w3:=((aA.refl aB wr).alloc _).trans' hk3 (fun _ _ h=>h) (fun i hi e=>by omega);have HK4:=O hk4;have hc0:w3.cell? ⟨wr.heap.size,0,none⟩=some (.int .i64 (d:Int)):=aC hb3 rfl;have hc1:w3.cell? ⟨wr.heap.size,1,none⟩=some (.int .i64 xs):=aC hb3 rfl;have HS3:=O (hk4.blk HS.out id);have hcs:=aC HS3.out (sG (l:=l.take k) hd8);rw[hse] at hcs;clear hb3 hk3 hk4))
    go_ret;exact⟨rfl,HK.out.trans HK4.out⟩
   go_wp2_with (first
    | ((with_reducible show WL _ (.load 82 (.tmp 10)));refine wpList_load_mid rfl 82 (.tmp 10) rfl g (o+k*2) rfl (aO ⟨(d:Int),xs⟩) _ HX.out bS rfl bW ?_)
    | ((with_reducible show WL (some 5) (.alloc 82));refine aR rfl 82 rfl eF eC #[.int .i64 0,.int .i64 0] rfl ?_)
    | ((with_reducible show WL none (.store 82 (.tmp 5) (.tmp 11)));refine aP rfl 82 (.tmp 5) (.tmp 11) rfl wr.heap.size 0 (aO ⟨(d:Int),xs⟩) rfl rfl #[.int .i64 0,.int .i64 0] 82 (heap_alloc_new _ _) (Nat.le_refl _) bW (bL _) ?_
       intro w3 hb3 hk3;rw[aI _ _ (by rfl)] at hb3;have hk4:aA aB wr w3:=((aA.refl aB wr).alloc _).trans' hk3 (fun _ _ h=>h) (fun i hi e=>by omega);have HK4:=O hk4;have hc0:w3.cell? ⟨wr.heap.size,0,none⟩=some (.int .i64 (d:Int)):=aC hb3 rfl;have hc1:w3.cell? ⟨wr.heap.size,1,none⟩=some (.int .i64 xs):=aC hb3 rfl;have HS3:=O (hk4.blk HS.out id);have hcs:=aC HS3.out (sG (l:=l.take k) hd8);have hfz:=cV HS3.out d;rw[hse] at hcs;clear hb3 hk3 hk4))
   have HK5:Hid (aA (fun i=>i=sb) w1 (w3.setCell ⟨sb,d,none⟩ (.bool true))):=O ((HKR.out.trans' HK4.out (U:=fun i=>i=sb) (fun _ _ h=>h) (fun _ _ h=>h.elim)).setCell (p:=⟨sb,d,none⟩) (fun _=>rfl) _);have HS5:Hid ((w3.setCell ⟨sb,d,none⟩ (.bool true)).heap[sb]?=some (.cells (qG (l.take (k+1))).toArray 258 (0,0))):=O (by rw[dO HS3.out,J6 (s:=xs) hd8,←HTK.out])
   have HI5:Hid ((l.take (k+1)).all kG=true/\((l.take (k+1)).map (·.dev)).Nodup):=O (by
    rw[HTK.out];refine⟨?_,?_⟩
    ·rw[List.all_append,HI.out.1]
     unfold kG;simp;omega
    ·rw[List.map_append,List.nodup_append]
     refine⟨HI.out.2,by simp,fun x hx y hy e=>?_⟩;subst e;have e2:x=(d:Int):=by simpa using hy
     rw[e2] at hx;exact HND.out hx)
   go_roundw
   case rel=>exact⟨k+1,by omega,by go_num,HS5,HI5,HK5⟩
   case measure=>simp[intOf];omega
  ·have hbf:bb=false:=HNO.out (.inr (of_decide_eq_true HSE.out))
   subst hbf
   go_wp2_with (first
    | ((with_reducible show WL _ (.load 82 (.tmp 10)));refine wpList_load_mid rfl 82 (.tmp 10) rfl g (o+k*2) rfl (aO ⟨(d:Int),xs⟩) _ HX.out bS rfl bW ?_)
    | ((with_reducible show WL (some 5) (.alloc 82));refine aR rfl 82 rfl eF eC #[.int .i64 0,.int .i64 0] rfl ?_)
    | ((with_reducible show WL none (.store 82 (.tmp 5) (.tmp 11)));refine aP rfl 82 (.tmp 5) (.tmp 11) rfl wr.heap.size 0 (aO ⟨(d:Int),xs⟩) rfl rfl #[.int .i64 0,.int .i64 0] 82 (heap_alloc_new _ _) (Nat.le_refl _) bW (bL _) ?_
       intro w3 hb3 hk3;rw[aI _ _ (by rfl)] at hb3;have hk4:aA aB wr w3:=((aA.refl aB wr).alloc _).trans' hk3 (fun _ _ h=>h) (fun i hi e=>by omega);have HK4:=O hk4;have hc0:w3.cell? ⟨wr.heap.size,0,none⟩=some (.int .i64 (d:Int)):=aC hb3 rfl;have hc1:w3.cell? ⟨wr.heap.size,1,none⟩=some (.int .i64 xs):=aC hb3 rfl;have HS3:=O (hk4.blk HS.out id);have hcs:=aC HS3.out (sG (l:=l.take k) hd8);rw[hse] at hcs;clear hb3 hk3 hk4))
   go_ret;exact⟨rfl,HK.out.trans HK4.out⟩
 ·obtain rfl:n=k:=by omega
  have hbf:bb=(decide (1≤n) && decide (n≤3)):=by
   rw[←HBB.out,←HN.out];have h1:=HI.out;rw[List.take_of_length_le (by rw[HN.out];exact Nat.le_refl _)] at h1;exact L7 h1.1 h1.2
  have HBF:=O hbf;obtain⟨t1,ht1⟩:∃t,decide (1≤n)=t:=⟨_,rfl⟩
  obtain⟨t2,ht2⟩:∃t,decide (n≤3)=t:=⟨_,rfl⟩
  have hi1:decide ((1:Int)≤(n:Int))=t1:=by rw[←ht1];exact decide_eq_decide.2 (by omega)
  have hi2:decide ((n:Int)≤3)=t2:=by rw[←ht2];exact decide_eq_decide.2 (by omega)
  rw[ht1,ht2] at HBF;clear hbf
  cases t1<;>cases t2<;>(
   go_wp2;go_ret;exact⟨by rw[HBF.out];rfl,HK.out⟩)
def lL(w:World)(b:Bool)(e:Ending)(w':World):Prop:=e=.returned (.int .i64 (if b then 0 else 2))/\aA aB w w'
theorem jI{p:Pt}(h:p.hole=true):p.may=true:=by unfold Pt.may;rw[h];rfl
theorem jX(w:World)(v:Value)(p:Pt)(h0:PtV w v p):Calls Tryz.prog 95 #[.agg (aE v p).toArray] w (lL w p.may):=by
 obtain⟨oa,ca,hv,-,-⟩:=h0.rd.form;subst hv;obtain⟨n,hn⟩:∃x,p.addrs.length=x:=⟨_,rfl⟩
 have HN:=O hn;have h0n:=h0;rw[hn] at h0n ⊢;obtain⟨w1,hw1,hk1,hb_0,hs1⟩:=aT w (aE (.slice oa n ca) p).toArray 27;obtain⟨a0,b0,c0,d0⟩:=bO (aD hb_0);have HP0:=O d0;have HB0:=O hb_0;have hl0:(aE (.slice oa n ca) p).length=35:=aJ h0n.sum;simp only[Nat.zero_add] at a0 b0 c0;have HC:=O (cJ w1 _ p (h0n.keep hk1 fun _ _=>id));have HM:=O (fun wx (k:aA aB w wx)=>Hy wx (.slice oa n ca) p.addrs h0.ads (h0n.rd.keep k fun _ _=>id));have HK:=O hk1;obtain⟨t1,ht1⟩:∃t:Bool,p.hole=t:=⟨_,rfl⟩
 obtain⟨t2,ht2⟩:∃t:Bool,qS p.addrs=t:=⟨_,rfl⟩
 obtain⟨t3,ht3⟩:∃t:Bool,decide (1≤p.birth)=t:=⟨_,rfl⟩
 obtain⟨t4,ht4⟩:∃t:Bool,decide (p.birth≤2147483648)=t:=⟨_,rfl⟩
 obtain⟨t5,ht5⟩:∃t:Bool,decide (0≤p.level)=t:=⟨_,rfl⟩
 obtain⟨t6,ht6⟩:∃t:Bool,decide (p.level≤3)=t:=⟨_,rfl⟩
 have hs:p.may=(t1 || (t2 && (t3 && t4 && t5 && t6))):=by unfold Pt.may Pt.numsB;rw[ht1,ht2,ht3,ht4,ht5,ht6]
 have HS:=O hs;rw[ht1] at HC;rw[ht2] at HM;have HR0:=O (aD HB0.out);obtain⟨pc,hpc⟩:∃x,aE (.slice oa n ca) p=x:=⟨_,rfl⟩
 have Hpc:=O hpc;rw[hpc] at hw1 HC hl0 HR0 ⊢;clear hs ht1 ht2 hb_0 d0 hk1 hs1 hpc h0 h0n HB0 HP0 hn;cases t1
 ·skip
  cases t2
  ·skip
   go_in
   go_wp2_with (first
    | ((with_reducible show WL _ (.load 27 (.tmp 1)));refine aM (by rfl) 27 (.tmp 1) rfl (w.heap.size) 0 rfl pc _ HR0.out aF rfl (cH hl0) ?_))
   refine HC.out.mono ?_;rintro e w2 ⟨rfl,hk⟩;have HR0:=O (hk.rangeAt HR0.out);have HK:=O (HK.out.trans hk);obtain⟨a0,b0,c0,-⟩:=bO (p:=p) (v:=(.slice oa n ca)) (by rw[Hpc.out];exact HR0.out);simp only[Nat.zero_add] at a0 b0 c0;clear hk;go_wp2_with fail;refine(HM.out _ HK.out).mono ?_;rintro e w3 ⟨rfl,hk⟩;have HR0:=O (hk.rangeAt HR0.out);have HK:=O (HK.out.trans hk);obtain⟨a0,b0,c0,-⟩:=bO (p:=p) (v:=(.slice oa n ca)) (by rw[Hpc.out];exact HR0.out);simp only[Nat.zero_add] at a0 b0 c0;clear hk;go_wp2;go_ret;exact⟨by rw[HS.out];rfl,HK.out⟩
  ·skip
   cases t3
   ·have y3:decide (p.birth<1)=true:=decide_eq_true (by have:=of_decide_eq_false ht3;omega)
    go_in
    go_wp2_with (first
     | ((with_reducible show WL _ (.load 27 (.tmp 1)));refine aM (by rfl) 27 (.tmp 1) rfl (w.heap.size) 0 rfl pc _ HR0.out aF rfl (cH hl0) ?_))
    refine HC.out.mono ?_;rintro e w2 ⟨rfl,hk⟩;have HR0:=O (hk.rangeAt HR0.out);have HK:=O (HK.out.trans hk);obtain⟨a0,b0,c0,-⟩:=bO (p:=p) (v:=(.slice oa n ca)) (by rw[Hpc.out];exact HR0.out);simp only[Nat.zero_add] at a0 b0 c0;clear hk;go_wp2_with fail;refine(HM.out _ HK.out).mono ?_;rintro e w3 ⟨rfl,hk⟩;have HR0:=O (hk.rangeAt HR0.out);have HK:=O (HK.out.trans hk);obtain⟨a0,b0,c0,-⟩:=bO (p:=p) (v:=(.slice oa n ca)) (by rw[Hpc.out];exact HR0.out);simp only[Nat.zero_add] at a0 b0 c0;clear hk;go_wp2;go_ret;exact⟨by rw[HS.out];rfl,HK.out⟩
   ·have y3:decide (p.birth<1)=false:=decide_eq_false (by have:=of_decide_eq_true ht3;omega)
    cases t4
    ·have y4:decide (2147483648<p.birth)=true:=decide_eq_true (by have:=of_decide_eq_false ht4;omega)
     go_in
     go_wp2_with (first
      | ((with_reducible show WL _ (.load 27 (.tmp 1)));refine aM (by rfl) 27 (.tmp 1) rfl (w.heap.size) 0 rfl pc _ HR0.out aF rfl (cH hl0) ?_))
     refine HC.out.mono ?_;rintro e w2 ⟨rfl,hk⟩;have HR0:=O (hk.rangeAt HR0.out);have HK:=O (HK.out.trans hk);obtain⟨a0,b0,c0,-⟩:=bO (p:=p) (v:=(.slice oa n ca)) (by rw[Hpc.out];exact HR0.out);simp only[Nat.zero_add] at a0 b0 c0;clear hk;go_wp2_with fail;refine(HM.out _ HK.out).mono ?_;rintro e w3 ⟨rfl,hk⟩;have HR0:=O (hk.rangeAt HR0.out);have HK:=O (HK.out.trans hk);obtain⟨a0,b0,c0,-⟩:=bO (p:=p) (v:=(.slice oa n ca)) (by rw[Hpc.out];exact HR0.out);simp only[Nat.zero_add] at a0 b0 c0;clear hk;go_wp2;go_ret;exact⟨by rw[HS.out];rfl,HK.out⟩
    ·have y4:decide (2147483648<p.birth)=false:=decide_eq_false (by have:=of_decide_eq_true ht4;omega)
     cases t5
     ·have y5:decide (p.level<0)=true:=decide_eq_true (by have:=of_decide_eq_false ht5;omega)
      go_in
      go_wp2_with (first
       | ((with_reducible show WL _ (.load 27 (.tmp 1)));refine aM (by rfl) 27 (.tmp 1) rfl (w.heap.size) 0 rfl pc _ HR0.out aF rfl (cH hl0) ?_))
      refine HC.out.mono ?_;rintro e w2 ⟨rfl,hk⟩;have HR0:=O (hk.rangeAt HR0.out);have HK:=O (HK.out.trans hk);obtain⟨a0,b0,c0,-⟩:=bO (p:=p) (v:=(.slice oa n ca)) (by rw[Hpc.out];exact HR0.out);simp only[Nat.zero_add] at a0 b0 c0;clear hk;go_wp2_with fail;refine(HM.out _ HK.out).mono ?_;rintro e w3 ⟨rfl,hk⟩;have HR0:=O (hk.rangeAt HR0.out);have HK:=O (HK.out.trans hk);obtain⟨a0,b0,c0,-⟩:=bO (p:=p) (v:=(.slice oa n ca)) (by rw[Hpc.out];exact HR0.out);simp only[Nat.zero_add] at a0 b0 c0;clear hk;go_wp2;go_ret;exact⟨by rw[HS.out];rfl,HK.out⟩
     ·have y5:decide (p.level<0)=false:=decide_eq_false (by have:=of_decide_eq_true ht5;omega)
      cases t6
      ·have y6:decide (3<p.level)=true:=decide_eq_true (by have:=of_decide_eq_false ht6;omega)
       go_in
       go_wp2_with (first
        | ((with_reducible show WL _ (.load 27 (.tmp 1)));refine aM (by rfl) 27 (.tmp 1) rfl (w.heap.size) 0 rfl pc _ HR0.out aF rfl (cH hl0) ?_))
       refine HC.out.mono ?_;rintro e w2 ⟨rfl,hk⟩;have HR0:=O (hk.rangeAt HR0.out);have HK:=O (HK.out.trans hk);obtain⟨a0,b0,c0,-⟩:=bO (p:=p) (v:=(.slice oa n ca)) (by rw[Hpc.out];exact HR0.out);simp only[Nat.zero_add] at a0 b0 c0;clear hk;go_wp2_with fail;refine(HM.out _ HK.out).mono ?_;rintro e w3 ⟨rfl,hk⟩;have HR0:=O (hk.rangeAt HR0.out);have HK:=O (HK.out.trans hk);obtain⟨a0,b0,c0,-⟩:=bO (p:=p) (v:=(.slice oa n ca)) (by rw[Hpc.out];exact HR0.out);simp only[Nat.zero_add] at a0 b0 c0;clear hk;go_wp2;go_ret;exact⟨by rw[HS.out];rfl,HK.out⟩
      ·have y6:decide (3<p.level)=false:=decide_eq_false (by have:=of_decide_eq_true ht6;omega)
       go_in
       go_wp2_with (first
        | ((with_reducible show WL _ (.load 27 (.tmp 1)));refine aM (by rfl) 27 (.tmp 1) rfl (w.heap.size) 0 rfl pc _ HR0.out aF rfl (cH hl0) ?_))
       refine HC.out.mono ?_;rintro e w2 ⟨rfl,hk⟩;have HR0:=O (hk.rangeAt HR0.out);have HK:=O (HK.out.trans hk);obtain⟨a0,b0,c0,-⟩:=bO (p:=p) (v:=(.slice oa n ca)) (by rw[Hpc.out];exact HR0.out);simp only[Nat.zero_add] at a0 b0 c0;clear hk;go_wp2_with fail;refine(HM.out _ HK.out).mono ?_;rintro e w3 ⟨rfl,hk⟩;have HR0:=O (hk.rangeAt HR0.out);have HK:=O (HK.out.trans hk);obtain⟨a0,b0,c0,-⟩:=bO (p:=p) (v:=(.slice oa n ca)) (by rw[Hpc.out];exact HR0.out);simp only[Nat.zero_add] at a0 b0 c0;clear hk;go_wp2;go_ret;exact⟨by rw[HS.out];rfl,HK.out⟩
 ·skip
  go_in
  go_wp2_with (first
   | ((with_reducible show WL _ (.load 27 (.tmp 1)));refine aM (by rfl) 27 (.tmp 1) rfl (w.heap.size) 0 rfl pc _ HR0.out aF rfl (cH hl0) ?_))
  refine HC.out.mono ?_;rintro e w2 ⟨rfl,hk⟩;have HR0:=O (hk.rangeAt HR0.out);have HK:=O (HK.out.trans hk);obtain⟨a0,b0,c0,-⟩:=bO (p:=p) (v:=(.slice oa n ca)) (by rw[Hpc.out];exact HR0.out);simp only[Nat.zero_add] at a0 b0 c0;clear hk;go_wp2;go_ret;exact⟨by rw[HS.out];rfl,HK.out⟩
theorem sH(w:World)(v:Value)(u:Ub)(h0:UbV w v u):Calls Tryz.prog 51 #[.agg (dP v u).toArray] w (lL w u.may):=by
 obtain⟨oa,ca,hv,-,-⟩:=h0.root.rd.form;subst hv;obtain⟨n,hn⟩:∃x,u.root.addrs.length=x:=⟨_,rfl⟩
 rw[hn] at h0 ⊢;obtain⟨w1,hw1,hk1,hb_0,hs1⟩:=aT w (dP (.slice oa n ca) u).toArray 45;obtain⟨a0,r0,b0,d0⟩:=fY h0.root.sum (aD hb_0);obtain⟨e0,f0,g0,-⟩:=bO r0;have HP0:=O d0;have HR0:=O r0;have HB0:=O hb_0;have hl0:(aE (.slice oa n ca) u.root).length=35:=aJ h0.root.sum;have hm0:(u.pool.map vb).length=32:=by rw[List.length_map];exact h0.pool
 simp only[Nat.zero_add] at a0 b0 e0 f0 g0;have HC:=O (fun wx (k:aA aB w wx)=>cJ wx (.slice oa n ca) u.root (h0.root.keep k fun _ _=>id));have HM:=O (fun wx (k:aA aB w wx)=>jX wx (.slice oa n ca) u.root (h0.root.keep k fun _ _=>id));have HK:=O hk1;have hhm:=@jI u.root;obtain⟨t1,ht1⟩:∃t:Bool,decide (1≤u.txg)=t:=⟨_,rfl⟩
 obtain⟨t2,ht2⟩:∃t:Bool,decide (u.txg≤2147483648)=t:=⟨_,rfl⟩
 obtain⟨t3,ht3⟩:∃t:Bool,decide (0≤u.len)=t:=⟨_,rfl⟩
 obtain⟨t4,ht4⟩:∃t:Bool,decide (u.len≤16384)=t:=⟨_,rfl⟩
 obtain⟨t5,ht5⟩:∃t:Bool,u.root.hole=t:=⟨_,rfl⟩
 obtain⟨t6,ht6⟩:∃t:Bool,u.root.may=t:=⟨_,rfl⟩
 obtain⟨t7,ht7⟩:∃t:Bool,(u.root.level == 3)=t:=⟨_,rfl⟩
 obtain⟨t8,ht8⟩:∃t:Bool,decide (u.root.birth≤u.txg)=t:=⟨_,rfl⟩
 have hs:u.may=(t1 && t2 && t3 && t4 && (t5 || (t6 && t7 && t8))):=by unfold Ub.may;rw[ht1,ht2,ht3,ht4,ht5,ht6,ht7,ht8]
 have HS:=O hs;rw[ht5] at HC hhm;rw[ht6] at HM hhm;have HHM:=O hhm;obtain⟨pc,hpc⟩:∃x,aE (.slice oa n ca) u.root=x:=⟨_,rfl⟩
 have Hpc:=O hpc;obtain⟨uc,huc⟩:∃x,dP (.slice oa n ca) u=x:=⟨_,rfl⟩
 have Huc:=O huc;rw[hpc] at HC HM hl0 HR0;rw[huc] at hw1 HB0 ⊢;have HSU:=O h0.root.sum;have HUB:=O (aD HB0.out);clear hs ht5 ht6 hb_0 d0 r0 hk1 hs1 hpc huc h0 HB0 HP0 hhm hm0 hn;cases t1
 ·have y1:decide (u.txg<1)=true:=decide_eq_true (by have:=of_decide_eq_false ht1;omega)
  go_in;go_wp2;go_ret;exact⟨by rw[HS.out];rfl,HK.out⟩
 ·have y1:decide (u.txg<1)=false:=decide_eq_false (by have:=of_decide_eq_true ht1;omega)
  cases t2
  ·have y2:decide (2147483648<u.txg)=true:=decide_eq_true (by have:=of_decide_eq_false ht2;omega)
   go_in;go_wp2;go_ret;exact⟨by rw[HS.out];rfl,HK.out⟩
  ·have y2:decide (2147483648<u.txg)=false:=decide_eq_false (by have:=of_decide_eq_true ht2;omega)
   cases t3
   ·have y3:decide (u.len<0)=true:=decide_eq_true (by have:=of_decide_eq_false ht3;omega)
    go_in;go_wp2;go_ret;exact⟨by rw[HS.out];rfl,HK.out⟩
   ·have y3:decide (u.len<0)=false:=decide_eq_false (by have:=of_decide_eq_true ht3;omega)
    cases t4
    ·have y4:decide (16384<u.len)=true:=decide_eq_true (by have:=of_decide_eq_false ht4;omega)
     go_in;go_wp2;go_ret;exact⟨by rw[HS.out];rfl,HK.out⟩
    ·have y4:decide (16384<u.len)=false:=decide_eq_false (by have:=of_decide_eq_true ht4;omega)
     cases t5
     ·skip
      cases t6
      ·skip
       go_in
       go_wp2_with (first
        | ((with_reducible show WL _ (.load 27 (.tmp 23)));refine aM (by rfl) 27 (.tmp 23) rfl (w.heap.size) 1 rfl pc _ HR0.out aF rfl (cH hl0) ?_))
       refine(HC.out _ HK.out).mono ?_;rintro e w2 ⟨rfl,hk⟩;have HR0:=O (hk.rangeAt HR0.out);have HUB:=O (hk.rangeAt HUB.out);have HK:=O (HK.out.trans hk);obtain⟨a0,-,b0,-⟩:=fY (u:=u) (v:=.slice oa n ca) HSU.out (by rw[Huc.out];exact HUB.out);obtain⟨e0,f0,g0,-⟩:=bO (p:=u.root) (v:=.slice oa n ca) (by rw[Hpc.out];exact HR0.out);simp only[Nat.zero_add] at a0 b0 e0 f0 g0;clear hk
       go_wp2_with (first
        | ((with_reducible show WL _ (.load 27 (.tmp 27)));refine aM (by rfl) 27 (.tmp 27) rfl (w.heap.size) 1 rfl pc _ HR0.out aF rfl (cH hl0) ?_))
       refine(HM.out _ HK.out).mono ?_;rintro e w3 ⟨rfl,hk⟩;have HR0:=O (hk.rangeAt HR0.out);have HUB:=O (hk.rangeAt HUB.out);have HK:=O (HK.out.trans hk);obtain⟨a0,-,b0,-⟩:=fY (u:=u) (v:=.slice oa n ca) HSU.out (by rw[Huc.out];exact HUB.out);obtain⟨e0,f0,g0,-⟩:=bO (p:=u.root) (v:=.slice oa n ca) (by rw[Hpc.out];exact HR0.out);simp only[Nat.zero_add] at a0 b0 e0 f0 g0;clear hk;go_wp2;go_ret;exact⟨by rw[HS.out];rfl,HK.out⟩
      ·skip
       cases t7
       ·have y7:(u.root.level != 3)=true:=by simp only[bne,ht7];rfl
        go_in
        go_wp2_with (first
         | ((with_reducible show WL _ (.load 27 (.tmp 23)));refine aM (by rfl) 27 (.tmp 23) rfl (w.heap.size) 1 rfl pc _ HR0.out aF rfl (cH hl0) ?_))
        refine(HC.out _ HK.out).mono ?_;rintro e w2 ⟨rfl,hk⟩;have HR0:=O (hk.rangeAt HR0.out);have HUB:=O (hk.rangeAt HUB.out);have HK:=O (HK.out.trans hk);obtain⟨a0,-,b0,-⟩:=fY (u:=u) (v:=.slice oa n ca) HSU.out (by rw[Huc.out];exact HUB.out);obtain⟨e0,f0,g0,-⟩:=bO (p:=u.root) (v:=.slice oa n ca) (by rw[Hpc.out];exact HR0.out);simp only[Nat.zero_add] at a0 b0 e0 f0 g0;clear hk
        go_wp2_with (first
         | ((with_reducible show WL _ (.load 27 (.tmp 27)));refine aM (by rfl) 27 (.tmp 27) rfl (w.heap.size) 1 rfl pc _ HR0.out aF rfl (cH hl0) ?_))
        refine(HM.out _ HK.out).mono ?_;rintro e w3 ⟨rfl,hk⟩;have HR0:=O (hk.rangeAt HR0.out);have HUB:=O (hk.rangeAt HUB.out);have HK:=O (HK.out.trans hk);obtain⟨a0,-,b0,-⟩:=fY (u:=u) (v:=.slice oa n ca) HSU.out (by rw[Huc.out];exact HUB.out);obtain⟨e0,f0,g0,-⟩:=bO (p:=u.root) (v:=.slice oa n ca) (by rw[Hpc.out];exact HR0.out);simp only[Nat.zero_add] at a0 b0 e0 f0 g0;clear hk;go_wp2;go_ret;exact⟨by rw[HS.out];rfl,HK.out⟩
       ·have y7:(u.root.level != 3)=false:=by simp only[bne,ht7];rfl
        cases t8
        ·have y8:decide (u.txg<u.root.birth)=true:=decide_eq_true (by have:=of_decide_eq_false ht8;omega)
         go_in
         go_wp2_with (first
          | ((with_reducible show WL _ (.load 27 (.tmp 23)));refine aM (by rfl) 27 (.tmp 23) rfl (w.heap.size) 1 rfl pc _ HR0.out aF rfl (cH hl0) ?_))
         refine(HC.out _ HK.out).mono ?_;rintro e w2 ⟨rfl,hk⟩;have HR0:=O (hk.rangeAt HR0.out);have HUB:=O (hk.rangeAt HUB.out);have HK:=O (HK.out.trans hk);obtain⟨a0,-,b0,-⟩:=fY (u:=u) (v:=.slice oa n ca) HSU.out (by rw[Huc.out];exact HUB.out);obtain⟨e0,f0,g0,-⟩:=bO (p:=u.root) (v:=.slice oa n ca) (by rw[Hpc.out];exact HR0.out);simp only[Nat.zero_add] at a0 b0 e0 f0 g0;clear hk
         go_wp2_with (first
          | ((with_reducible show WL _ (.load 27 (.tmp 27)));refine aM (by rfl) 27 (.tmp 27) rfl (w.heap.size) 1 rfl pc _ HR0.out aF rfl (cH hl0) ?_))
         refine(HM.out _ HK.out).mono ?_;rintro e w3 ⟨rfl,hk⟩;have HR0:=O (hk.rangeAt HR0.out);have HUB:=O (hk.rangeAt HUB.out);have HK:=O (HK.out.trans hk);obtain⟨a0,-,b0,-⟩:=fY (u:=u) (v:=.slice oa n ca) HSU.out (by rw[Huc.out];exact HUB.out);obtain⟨e0,f0,g0,-⟩:=bO (p:=u.root) (v:=.slice oa n ca) (by rw[Hpc.out];exact HR0.out);simp only[Nat.zero_add] at a0 b0 e0 f0 g0;clear hk;go_wp2;go_ret;exact⟨by rw[HS.out];rfl,HK.out⟩
        ·have y8:decide (u.txg<u.root.birth)=false:=decide_eq_false (by have:=of_decide_eq_true ht8;omega)
         go_in
         go_wp2_with (first
          | ((with_reducible show WL _ (.load 27 (.tmp 23)));refine aM (by rfl) 27 (.tmp 23) rfl (w.heap.size) 1 rfl pc _ HR0.out aF rfl (cH hl0) ?_))
         refine(HC.out _ HK.out).mono ?_;rintro e w2 ⟨rfl,hk⟩;have HR0:=O (hk.rangeAt HR0.out);have HUB:=O (hk.rangeAt HUB.out);have HK:=O (HK.out.trans hk);obtain⟨a0,-,b0,-⟩:=fY (u:=u) (v:=.slice oa n ca) HSU.out (by rw[Huc.out];exact HUB.out);obtain⟨e0,f0,g0,-⟩:=bO (p:=u.root) (v:=.slice oa n ca) (by rw[Hpc.out];exact HR0.out);simp only[Nat.zero_add] at a0 b0 e0 f0 g0;clear hk
         go_wp2_with (first
          | ((with_reducible show WL _ (.load 27 (.tmp 27)));refine aM (by rfl) 27 (.tmp 27) rfl (w.heap.size) 1 rfl pc _ HR0.out aF rfl (cH hl0) ?_))
         refine(HM.out _ HK.out).mono ?_;rintro e w3 ⟨rfl,hk⟩;have HR0:=O (hk.rangeAt HR0.out);have HUB:=O (hk.rangeAt HUB.out);have HK:=O (HK.out.trans hk);obtain⟨a0,-,b0,-⟩:=fY (u:=u) (v:=.slice oa n ca) HSU.out (by rw[Huc.out];exact HUB.out);obtain⟨e0,f0,g0,-⟩:=bO (p:=u.root) (v:=.slice oa n ca) (by rw[Hpc.out];exact HR0.out);simp only[Nat.zero_add] at a0 b0 e0 f0 g0;clear hk;go_wp2;go_ret;exact⟨by rw[HS.out];rfl,HK.out⟩
     ·skip
      go_in
      go_wp2_with (first
       | ((with_reducible show WL _ (.load 27 (.tmp 23)));refine aM (by rfl) 27 (.tmp 23) rfl (w.heap.size) 1 rfl pc _ HR0.out aF rfl (cH hl0) ?_))
      refine(HC.out _ HK.out).mono ?_;rintro e w2 ⟨rfl,hk⟩;have HR0:=O (hk.rangeAt HR0.out);have HUB:=O (hk.rangeAt HUB.out);have HK:=O (HK.out.trans hk);obtain⟨a0,-,b0,-⟩:=fY (u:=u) (v:=.slice oa n ca) HSU.out (by rw[Huc.out];exact HUB.out);obtain⟨e0,f0,g0,-⟩:=bO (p:=u.root) (v:=.slice oa n ca) (by rw[Hpc.out];exact HR0.out);simp only[Nat.zero_add] at a0 b0 e0 f0 g0;clear hk;go_wp2;go_ret;exact⟨by rw[HS.out];rfl,HK.out⟩
open Go.RowKit Go.Maps Go.ChangeMaps
set_option maxRecDepth 100000
set_option linter.unusedVariables false
def Pt.eqB(p q:Pt):Bool:=decide (p.addrs=q.addrs) && (p.birth == q.birth) && (p.level == q.level) && decide (p.sum=q.sum)
def Ub.eqB(u v:Ub):Bool:=(u.txg == v.txg) && (u.len == v.len) && decide (u.pool=v.pool) && u.root.eqB v.root
theorem Hz(p q:Pt):(p.like q && decide (p.addrs=q.addrs))=p.eqB q:=by
 unfold Pt.like Pt.eqB
 by_cases h:p.addrs=q.addrs
 ·rw[h]
  simp only[BEq.rfl,Bool.and_true,decide_true,Bool.true_and]
 ·simp[h]
theorem Ee(w:World)(va vb':Value)(xs ys:List Ad)(hx:Rd w 2 va xs.length (aQ xs))(hy:Rd w 2 vb' ys.length (aQ ys))(bb:Bool)(he:decide (xs=ys)=bb) :
 Calls Tryz.prog 73 #[va,vb'] w fun e w'=>e=.returned (.bool bb)/\aA aB w w':=by
 obtain⟨oa,ca,rfl,hla,hma⟩:=hx.form;obtain⟨ob,cb,rfl,hlb,hmb⟩:=hy.form;have hmx:xs.length≤maxLen:=by omega
 unfold maxLen at hmx;have HE:=O he;have HRX:=O hx;have HRY:=O hy;obtain⟨n,hn⟩:∃n,xs.length=n:=⟨_,rfl⟩
 obtain⟨m,hm⟩:∃m,ys.length=m:=⟨_,rfl⟩
 have HN:=O hn;have HM:=O hm;rw[hn] at HRX hmx;rw[hm] at HRY;rw[hn,hm];clear hx hy he hla hma hlb hmb hn hm
 by_cases hnm:n=m
 ·subst hnm
  go_in;go_wp2_with fail
  go_loopw [13] (fun i wr=>∃k:Nat,k≤n/\i=.int .i64 k/\Hid (xs.take k=ys.take k)/\Hid (aA aB w wr)) (fun i _=>n-(intOf i).toNat)
  case atStart=>exact⟨0,Nat.zero_le _,rfl,O rfl,O (aA.refl _ _)⟩
  case round =>
  obtain⟨k,hk,rfl,HT,HK⟩:=hrel
  by_cases hlt:k<n
  ·obtain⟨x,hx⟩:∃x,xs[k]?=some x:=⟨xs[k]'(by rw[HN.out];exact hlt),List.getElem?_eq_getElem _⟩
   obtain⟨y,hy⟩:∃y,ys[k]?=some y:=⟨ys[k]'(by rw[HM.out];exact hlt),List.getElem?_eq_getElem _⟩
   obtain⟨S,hS0⟩:∃S:World->Prop,S=fun w'=>aA aB w w':=⟨_,rfl⟩
   have hra:=HRX.out;have hrb:=HRY.out;rw[←HN.out] at hra;rw[←HM.out] at hrb;obtain⟨g,o,cap,hv,-⟩:=iX hra hx;obtain⟨g2,o2,cap2,hv2,-⟩:=iX hrb hy;have e1:oa=some ⟨g,o,none⟩:=by cases hv;rfl
   have e2:ob=some ⟨g2,o2,none⟩:=by cases hv2;rfl
   subst e1 e2;obtain⟨xc,hxc⟩:∃xc,aO x=xc:=⟨_,rfl⟩
   obtain⟨yc,hyc⟩:∃yc,aO y=yc:=⟨_,rfl⟩
   have HSX:=O (show ∀w',S w'->w'.rangeAt g (o+k*2) xc from fun w' h=>by
    rw[hS0] at h;obtain⟨g',o',c',hv',hr'⟩:=iX (hra.keep h fun _ _=>id) hx;cases hv'
    rw[←hxc];exact hr')
   have HSY:=O (show ∀w',S w'->w'.rangeAt g2 (o2+k*2) yc from fun w' h=>by
    rw[hS0] at h;obtain⟨g',o',c',hv',hr'⟩:=iX (hrb.keep h fun _ _=>id) hy;cases hv'
    rw[←hyc];exact hr')
   have HX:Hid ((Tryz.prog.info? 82).map (·.size)=some xc.length):=O (by rw[←hxc];exact bW);have HY:Hid ((Tryz.prog.info? 82).map (·.size)=some yc.length):=O (by rw[←hyc];exact bW);obtain⟨bq,hbq⟩:∃bq,(!decide (x=y))=bq:=⟨_,rfl⟩
   have HNE:Hid (∀w',Sem.run Tryz.prog (binOp .neq 82 (.agg xc.toArray) (.agg yc.toArray)) w'=.ok (.bool bq) w'):=O (fun w'=>by rw[←hxc,←hyc,←hbq];exact NT x y w');have HBQ:=O hbq;have HSE:=O (show ∀w',S w'->aA aB w w' from fun w' h=>by rw[hS0] at h;exact h);have hS:S wr.drew:=by rw[hS0];exact HK.out.drew
   have HTX:Hid (xs.take (k+1)=xs.take k++[x]):=O (by rw[List.take_add_one,hx];rfl);have HTY:Hid (ys.take (k+1)=ys.take k++[y]):=O (by rw[List.take_add_one,hy];rfl);have HXE:=O hx;have HYE:=O hy;have hki:(k:Int)<(n:Int):=by omega
   have hk0:(0:Int)≤(k:Int):=by omega
   clear hx hy hS0 hra hrb hv hv2 hxc hyc hbq HK;go_wp2_with fail;refine wp_region_held (S:=S) (by kernel_rfl) ?_;change wpAnyH _ _ _ _ _ _ _ _ wr.drew;generalize wr.drew=w6 at *;refine tka 0 (.slice (some ⟨g,o,none⟩) n ca) rfl hS ?_;simp only[Act.put,List.setIfInBounds_toArray,List.set_cons_zero,List.set_cons_succ,List.getElem_toArray,List.getElem_cons_zero];refine tna 1 (.int .i64 k) rfl hS ?_;refine tkd 2 (.pointer (some ⟨g,o+k*2,none⟩)) rfl (.inl ⟨by rfl,fun _ _=>?_⟩) hS ?_
   ·go_simp
   refine nrm ?_;refine tnd 3 (.agg xc.toArray) rfl (yieldsIf_load_mid (by rfl) 82 (.tmp 18) rfl g (o+k*2) rfl xc _ HSX.out bS rfl HX.out) hS ?_;refine tna 4 (.slice (some ⟨g2,o2,none⟩) n cb) rfl hS ?_;refine tna 5 (.int .i64 k) rfl hS ?_;refine tkd 6 (.pointer (some ⟨g2,o2+k*2,none⟩)) rfl (.inl ⟨by rfl,fun _ _=>?_⟩) hS ?_
   ·go_simp
   refine nrm ?_;refine tnd 7 (.agg yc.toArray) rfl (yieldsIf_load_mid (by rfl) 82 (.tmp 22) rfl g2 (o2+k*2) rfl yc _ HSY.out bS rfl HY.out) hS ?_;refine tnd 8 (.bool bq) rfl (pI (by rfl) 82 (.tmp 19) (.tmp 23) 82 rfl xc.toArray yc.toArray rfl rfl LJ HNE.out) hS ?_;refine wpAnyH_done (by kernel_rfl) ?_ _;have HKE:=O (HSE.out _ hS);clear hS;cases bq
   ·have hxy:x=y:=by have:=HBQ.out;simpa using this
    have HTE:Hid (xs.take (k+1)=ys.take (k+1)):=O (by rw[HTX.out,HTY.out,HT.out,hxy]);clear hxy;go_wp2
    go_roundw
    case rel=>exact⟨k+1,by omega,by go_num,HTE,HKE⟩
    case measure=>simp[intOf];omega
   ·have hxy:x≠y:=by have:=HBQ.out;simpa using this
    have hf:bb=false:=by
     rw[←HE.out];refine decide_eq_false fun e=>hxy ?_
     have h1:=HXE.out;rw[e,HYE.out] at h1;exact(Option.some.inj h1).symm
    subst hf;clear hxy;go_wp2;go_ret;exact⟨rfl,HKE.out⟩
  ·obtain rfl:k=n:=by omega
   have hf:bb=true:=by
    rw[←HE.out];have:=HT.out;rw[List.take_of_length_le (by rw[HN.out];exact Nat.le_refl _),List.take_of_length_le (by rw[HM.out];exact Nat.le_refl _)] at this;exact decide_eq_true this
   subst hf;go_wp2;go_ret;exact⟨rfl,HK.out⟩
 ·have hf:bb=false:=by
   rw[←HE.out];refine decide_eq_false fun e=>hnm ?_
   rw[←HN.out,←HM.out,e]
  subst hf;have hni:¬(n:Int)=(m:Int):=by omega
  go_in;go_wp2;go_ret;exact⟨rfl,aA.refl _ _⟩
theorem FN(w:World)(v u:Value)(p q:Pt)(h0:PtV w v p)(h1:PtV w u q):Calls Tryz.prog 40 #[.agg (aE v p).toArray,.agg (aE u q).toArray] w (aX w (p.eqB q)):=by
 obtain⟨oa,ca,hv,-,-⟩:=h0.rd.form;subst hv;obtain⟨ob,cb,hv,-,-⟩:=h1.rd.form;subst hv;obtain⟨n,hn⟩:∃x,p.addrs.length=x:=⟨_,rfl⟩
 obtain⟨m,hm⟩:∃x,q.addrs.length=x:=⟨_,rfl⟩
 have HN:=O hn;have HM:=O hm;rw[hn] at h0 ⊢;rw[hm] at h1 ⊢;obtain⟨w1,hw1⟩:∃w1,(w.alloc (.cells (aE (.slice oa n ca) p).toArray 27)).alloc (.cells (aE (.slice ob m cb) q).toArray 27)=w1:=⟨_,rfl⟩
 have hb_0:w1.heap[w.heap.size]?=some (.cells (aE (.slice oa n ca) p).toArray 27 (0,0)):=by rw[←hw1];exact heap_alloc2_old _ _ _
 have hb_1:w1.heap[w.heap.size+1]?=some (.cells (aE (.slice ob m cb) q).toArray 27 (0,0)):=by rw[←hw1];exact heap_alloc2_new _ _ _
 have hk1:aA aB w w1:=by rw[←hw1];exact((aA.refl _ _).alloc _).alloc _
 obtain⟨a0,b0,c0,d0⟩:=bO (aD hb_0);have HP0:=O d0;have HB0:=O hb_0;have hl0:(aE (.slice oa n ca) p).length=35:=aJ h0.sum;simp only[Nat.zero_add] at a0 b0 c0;obtain⟨a1,b1,c1,d1⟩:=bO (aD hb_1);have HP1:=O d1;have HB1:=O hb_1;have hl1:(aE (.slice ob m cb) q).length=35:=aJ h1.sum;simp only[Nat.zero_add] at a1 b1 c1;have HK:=O hk1;have HR0:=O (aD HB0.out);have HR1:=O (aD HB1.out);have HL:=O (J5 w1 _ _ p q (h0.keep hk1 fun _ _=>id) (h1.keep hk1 fun _ _=>id));have HE:=O (fun wx (k:aA aB w wx)=>Ee wx _ _ p.addrs q.addrs (h0.rd.keep k fun _ _=>id) (h1.rd.keep k fun _ _=>id) _ rfl);obtain⟨pc,hpc⟩:∃x,aE (.slice oa n ca) p=x:=⟨_,rfl⟩
 have Hpc:=O hpc;obtain⟨qc,hqc⟩:∃x,aE (.slice ob m cb) q=x:=⟨_,rfl⟩
 have Hqc:=O hqc;obtain⟨t1,ht1⟩:∃t:Bool,p.like q=t:=⟨_,rfl⟩
 obtain⟨t2,ht2⟩:∃t:Bool,decide (p.addrs=q.addrs)=t:=⟨_,rfl⟩
 have HS:=O (show p.eqB q=(t1 && t2) by rw[←Hz,ht1,ht2]);rw[ht1] at HL;rw[ht2] at HE;rw[hpc] at hw1 HL hl0 HR0 ⊢;rw[hqc] at hw1 HL hl1 HR1 ⊢;clear ht1 ht2 hb_0 hb_1 d0 d1 hk1 hpc hqc h0 h1 HB0 HB1 HP0 HP1 hn hm;cases t1
 ·go_in
  go_wp2_with (first
   | ((with_reducible show WL _ (.load 27 (.tmp 2)));refine aM (by rfl) 27 (.tmp 2) rfl (w.heap.size) 0 rfl pc _ HR0.out aF rfl (cH hl0) ?_)
   | ((with_reducible show WL _ (.load 27 (.tmp 3)));refine aM (by rfl) 27 (.tmp 3) rfl (w.heap.size+1) 0 rfl qc _ HR1.out aF rfl (cH hl1) ?_))
  refine HL.out.mono ?_;rintro e w2 ⟨rfl,hk⟩;have HR0:=O (hk.rangeAt HR0.out);have HR1:=O (hk.rangeAt HR1.out);have HK:=O (HK.out.trans hk);obtain⟨a0,b0,c0,d0⟩:=bO (p:=p) (v:=.slice oa n ca) (by rw[Hpc.out];exact HR0.out);obtain⟨a1,b1,c1,d1⟩:=bO (p:=q) (v:=.slice ob m cb) (by rw[Hqc.out];exact HR1.out);simp only[Nat.zero_add] at a0 b0 c0 a1 b1 c1;have HP0:=O d0;have HP1:=O d1;clear hk d0 d1;go_wp2;go_ret;exact⟨by rw[HS.out];rfl,HK.out⟩
 ·go_in
  go_wp2_with (first
   | ((with_reducible show WL _ (.load 27 (.tmp 2)));refine aM (by rfl) 27 (.tmp 2) rfl (w.heap.size) 0 rfl pc _ HR0.out aF rfl (cH hl0) ?_)
   | ((with_reducible show WL _ (.load 27 (.tmp 3)));refine aM (by rfl) 27 (.tmp 3) rfl (w.heap.size+1) 0 rfl qc _ HR1.out aF rfl (cH hl1) ?_))
  refine HL.out.mono ?_;rintro e w2 ⟨rfl,hk⟩;have HR0:=O (hk.rangeAt HR0.out);have HR1:=O (hk.rangeAt HR1.out);have HK:=O (HK.out.trans hk);obtain⟨a0,b0,c0,d0⟩:=bO (p:=p) (v:=.slice oa n ca) (by rw[Hpc.out];exact HR0.out);obtain⟨a1,b1,c1,d1⟩:=bO (p:=q) (v:=.slice ob m cb) (by rw[Hqc.out];exact HR1.out);simp only[Nat.zero_add] at a0 b0 c0 a1 b1 c1;have HP0:=O d0;have HP1:=O d1;clear hk d0 d1;go_wp2_with fail;refine(HE.out _ HK.out).mono ?_;rintro e w3 ⟨rfl,hk⟩;have HK:=O (HK.out.trans hk);clear hk
  cases t2<;>(
   go_wp2;go_ret;exact⟨by rw[HS.out];rfl,HK.out⟩)
theorem L8(n k r:Nat)(h:r<k):(be n k).take (r+1)=(be n k).take r++[iF n k r]:=by
 unfold be;rw[List.take_add_one,List.getElem?_map,List.getElem?_range h];rfl
def L9(w:World)(base:Nat)(v:Value)(l:List UInt8)(e:Ending)(w':World):Prop:=
 ∃v',e=.returned v'/\w'.ownsRow base 5 1 v' l.length (l.map vb)/\(v'.ownBlock=v.ownBlock\/∀i,v'.ownBlock=some i->w.heap.size≤i)/\aA (fun i=>v.ownBlock=some i) w w'
theorem kT(w:World)(base:Nat)(v:Value)(l:List UInt8)(n k:Nat)(ho:w.ownsRow base 5 1 v l.length (l.map vb))(hb:base≤w.heap.size)(h1:1≤k)(hk:k≤4)(hl:l.length≤1000)(hn:n≤9223372036854775807) :
 Calls Tryz.prog 190 #[v,.int .i64 (n:Int),.int .i64 (k:Int)] w (L9 w base v (l++be n k)):=by
 have HO:=O ho;obtain⟨oa,ca,rfl,-,-⟩:=(Rd.of_owns ho).form;obtain⟨q,hq⟩:∃q,l.length=q:=⟨_,rfl⟩
 have HQ:=O hq;rw[hq] at HO hl ⊢;clear ho hq;go_in;go_wp2_with fail
 go_loopw [0,7] (fun t i wr=>∃(r:Nat) (ii:Int) (pa:Option Addr) (pc:Nat),r≤k/\ii=(k:Int)-1-(r:Int)/\t=.slice pa (q+r) pc/\i=.int .i64 ii/\Hid (wr.ownsRow base 5 1 (.slice pa (q+r) pc) (q+r) ((l++(be n k).take r).map vb))/\Hid ((Value.slice pa (q+r) pc).ownBlock=(Value.slice oa q ca).ownBlock\/∀i,(Value.slice pa (q+r) pc).ownBlock=some i->w.heap.size≤i)/\Hid (aA (fun i=>(Value.slice oa q ca).ownBlock=some i) w wr)) (fun _ i _=>(intOf i+1).toNat)
 case atStart=>exact⟨0,(k:Int)-1,oa,ca,Nat.zero_le _,by omega,rfl,by go_num,O (by rw[List.take_zero,List.append_nil];exact HO.out),O (.inl rfl),O (aA.refl _ _)⟩
 case round =>
 clear HO;obtain⟨r,ii,pa,pc,hr,hii,rfl,rfl,HR,HB,HK⟩:=hrel
 by_cases hlt:r<k
 ·have hi0:(0:Int)≤ii:=by omega
  have hi4:ii≤3:=by omega
  obtain⟨j,hj⟩:∃j:Nat,ii=(j:Int):=⟨ii.toNat,by omega⟩
  have hjr:j=k-r-1:=by omega
  have hj3:j≤3:=by omega
  have hjj:=sD n k r;rw[←hjr] at hjj;have HV:Hid (Value.int .u8 ((n:Int) / 2 ^ (8*j) % 256)=vb (iF n k r)):=O (by unfold vb;rw[hjj]);have hd:0≤ii:=hi0;obtain⟨w8,hw8,hk8,hb8,hs8⟩:=aT wr #[.int .u8 ((n:Int) / 2 ^ (8*j) % 256)] 5;obtain⟨bz,hbz⟩:∃b,wr.heap.size=b:=⟨_,rfl⟩
  rw[hbz] at hb8;have HR8:Hid (Rd w8 1 (.slice (some ⟨bz,0,none⟩) 1 1) 1 [vb (iF n k r)]):=O (by rw[←HV.out];exact eE (n:=1) (size:=1) (vs:=[.int .u8 ((n:Int) / 2 ^ (8*j) % 256)]) hb8 rfl (by unfold maxLen;omega));have HO8:=O (hk8.owns HR.out fun _ _=>id);have HK8:=O (HK.out.trans' hk8 (U:=fun i=>(Value.slice oa q ca).ownBlock=some i) (fun _ _ h=>h) (fun _ _ h=>h.elim));have hsz8:base≤w8.heap.size:=Nat.le_trans hb HK8.out.size;have HBZ:=O hbz;have HSW:=O HK.out.size;have hone:∀u∈[vb (iF n k r)],u.oneCell'=true:=by intro u hu;rw[List.mem_singleton.1 hu];rfl
  have HW8:=O hw8;subst hj;have HII:=O hii;have hj1:(j:Int)≤3:=hi4;clear hii hk8 hb8 hs8 hbz hw8 hjj hjr HR HK
  go_wp2_with (first
   | (at_builtin;try rw[HW8.out]
      try rw[HBZ.out]
      refine aN rfl (.tmp 14) (.tmp 20) 268 rfl base 5 _ 1 1 Tryz.underlying268 fN rfl (by omega) (.slice pa (q+r) pc) (q+r) ((l++(be n k).take r).map vb) rfl HO8.out (.slice (some ⟨bz,0,none⟩) 1 1) 1 [vb (iF n k r)] rfl HR8.out hone (by unfold maxLen;omega) (by omega) hsz8 ?_;intro v' w9 ho5 hk5 hn5 hb5;obtain⟨va,vc,rfl,-,-⟩:=(Rd.of_owns ho5).form;have HO5:Hid (w9.ownsRow base 5 1 (.slice va (q+(r+1)) vc) (q+(r+1)) ((l++(be n k).take (r+1)).map vb)):=O (by rw[L8 n k r hlt,←List.append_assoc,List.map_append,List.map_singleton];exact ho5)
      have HB5:Hid ((Value.slice va (q+r+1) vc).ownBlock=(Value.slice oa q ca).ownBlock\/∀i,(Value.slice va (q+r+1) vc).ownBlock=some i->w.heap.size≤i):=O (by
       rcases hb5 with h|h
       ·rw[h]
        exact HB.out
       ·refine .inr fun i hi=>?_
        rw[h] at hi;cases hi
        exact HK8.out.size)
      have HK9:=O (HK8.out.trans' hk5 (U:=fun i=>(Value.slice oa q ca).ownBlock=some i) (fun _ _ h=>h) (fun i hi e=>by
       rcases HB.out with h|h
       ·rw[←h];exact e
       ·have:=h i e;omega))
      clear ho5 hk5 hn5 hb5))
  go_roundw
  case rel=>exact⟨r+1,(j:Int)-1,va,vc,by omega,by have:=HII.out;omega,rfl,by go_num,HO5,HB5,HK9⟩
  case measure=>simp[intOf]
 ·obtain rfl:k=r:=by omega
  have hi0:¬(0:Int)≤ii:=by omega
  have hd:decide ((0:Int)≤ii)=false:=decide_eq_false hi0;have hi5:ii<0:=by omega
  clear hii;go_wp2;go_ret;refine⟨_,rfl,?_,HB.out,HK.out⟩;have h:=HR.out;rw[List.take_of_length_le (by rw[bH];exact Nat.le_refl _)] at h;rw[List.length_append,bH,HQ.out];exact h
theorem CF{P:Program}{t u e:TypeId}{du:TypeDesc}(ht:P.underlying t=some (.slice e))(hu:P.underlying u=some du)(hd:(du matches .int _)=false)(ty:TypeId)(args:Array Value)(w:World) :
 (Builtin.append_ #[t,u] ty args).run P w=(Builtin.append_ #[t,t] ty args).run P w:=by
 unfold Builtin.append_;rcases h0:args[0]? with _|s
 ·simp
 rcases h1:args[1]? with _|x
 ·simp
 simp only[List.getElem?_toArray,List.getElem?_cons_zero,List.getElem?_cons_succ];simp only[Sem.run_bind,run_underlying ht,Result.andThen_ok];cases s<;>try rfl
 simp only[Sem.run_bind,run_underlying ht,run_underlying hu,Result.andThen_ok,Sem.run_pure];cases du<;>first|rfl|(simp at hd)|skip
theorem vT{P:Program}{w:World}{ops:Array Oper}{rest:List Oper}{o:Oper}{a:Act}{Q:Exit->Act->World->Prop}(hgd:o.guard=none)(s x:Operand)(t u:TypeId)
 (ho:o.op=.call { callee:=.builtin .append,args:=#[s,x],argTypes:=#[t,u] }) (du:TypeDesc) (hu:P.underlying u=some du) (hdu:(du matches .int _)=false)
 (base:Nat) (e:TypeId) (z:Value) (size bytes:Nat) (ht:P.underlying t=some (.slice e)) (hinf:(P.info? e).map (fun i=>(i.zero,i.size,i.bytes))=some (some z,size,bytes)) (hzs:z.cells.size=size) (hsz:0<size)
 (v:Value) (n:Nat) (xs:List Value) (hs:a.eval s=v) (hown:w.ownsRow base e size v n xs)
 (ad:Addr) (m c:Nat) (news:List Value) (hx:a.eval x=.slice (some ad) m c) (hl:news.length=m*size) (hcells:∀j u,news[j]?=some u->w.cell? (ad.add j)=some u) (h1:∀u∈news,u.oneCell'=true)
 (h63:n+m≤maxLen) (hbytes:(n+m)*bytes≤140737488355328) (hbase:base≤w.heap.size)
 (h:∀v' w',w'.ownsRow base e size v' (n+m) (xs++news)->aA (fun k=>v.ownBlock=some k) w w'->(v'.ownBlock=v.ownBlock\/v'.ownBlock=some w.heap.size)->wpList P ops Q rest (a.put o.dst v') w'):wpList P ops Q (o::rest) a w:=by
 obtain⟨i,hi,hz0,hz1,hz2⟩:=info_parts hinf;refine wpList_plain hgd fun K hK=>?_
 obtain⟨v',w',hr,h2,h3,h4,h5⟩:=run_append_own_at (P:=P) w base t o.type e i z size bytes ht hi hz0 hz1 hz2 hzs hsz v n xs hown ad m c news hl hcells h1 h63 hbytes hbase;rw[←CF ht hu hdu] at hr;unfold Oper.wp execOp;simp only[ho,resolve,invoke,builtin,Sem.run_bind,Sem.run_pure,Result.andThen_ok,List.map_toArray,List.map_cons,List.map_nil,hs,hx,hr];exact hK _ _ (h v' w' h2 (aA.of_grown h3) h5)
open Go.RowKit Go.Maps Go.ChangeMaps
set_option maxRecDepth 100000
set_option linter.unusedVariables false
def zAd:Ad:=⟨0,0⟩
def Ng(a:Ad):List UInt8:=be a.dev.toNat 1++be a.sec.toNat 2
def bR(p:Pt)(k:Nat):List UInt8:=be p.addrs.length 1++(List.range k).flatMap fun i=>Ng (p.addrs.getD i zAd)
def bY(p:Pt):List UInt8:=bR p 3++be p.birth.toNat 4++be p.level.toNat 1++p.sum
def ptB(p:Pt):List UInt8:=if p.may then bY p else []
theorem qT(p:Pt)(k:Nat):bR p (k+1)=bR p k++be (p.addrs.getD k zAd).dev.toNat 1++be (p.addrs.getD k zAd).sec.toNat 2:=by
 unfold bR;rw[List.range_succ,List.flatMap_append,List.append_assoc,List.append_assoc];simp[Ng]
theorem eQ(p:Pt)(k:Nat):(bR p k).length=1+3*k:=by
 induction k with
 | zero=>simp[bR,bH]
 | succ k ih=>rw[qT,List.length_append,List.length_append,ih,bH,bH];omega
theorem eP{p:Pt}(h:p.sum.length=32):(bY p).length=47:=by
 unfold bY;simp only[List.length_append,eQ,bH,h]
theorem iC{p:Pt}(h:p.may=true):p.addrs.length≤3/\(∀a∈p.addrs,kG a=true)/\0≤p.birth/\p.birth≤2147483648/\0≤p.level/\p.level≤3:=by
 unfold Pt.may at h;rw[Bool.or_eq_true] at h;rcases h with h|h
 ·unfold Pt.hole Pt.noth at h
  simp only[Bool.and_eq_true,beq_iff_eq,decide_eq_true_eq] at h;have h0:p.addrs=[]:=List.eq_nil_of_length_eq_zero (by omega);rw[h0];exact⟨by simp,by simp,by omega,by omega,by omega,by omega⟩
 ·unfold qS Pt.numsB at h
  simp only[Bool.and_eq_true,decide_eq_true_eq,List.all_eq_true] at h;exact⟨h.1.2,h.1.1.1.1,by omega,by omega,by omega,by omega⟩
theorem H7{l:List Ad}(h:∀a∈l,kG a=true)(k:Nat):∃d s:Nat,l.getD k zAd=⟨(d:Int),(s:Int)⟩/\d<8/\s<4096:=by
 rw[List.getD_eq_getElem?_getD];cases e:l[k]? with
 | none=>exact⟨0,0,rfl,by omega,by omega⟩
 | some a =>
   have:=h a (List.mem_of_getElem? e);unfold kG at this;simp only[Bool.and_eq_true,decide_eq_true_eq] at this;obtain⟨x,y⟩:=a;simp only at this;exact⟨x.toNat,y.toNat,by show (⟨x,y⟩:Ad)=_;rw[Int.toNat_of_nonneg (by omega),Int.toNat_of_nonneg (by omega)],by omega,by omega⟩
def AW(w:World)(p:Pt)(e:Ending)(w':World):Prop:=
 ∃v,e=.returned (.tuple #[v,.int .i64 (if p.may then 0 else 2)])/\w'.ownsRow w.heap.size 5 1 v (ptB p).length ((ptB p).map vb)/\aA aB w w'
theorem uB(w:World)(v:Value)(p:Pt)(h0:PtV w v p):Calls Tryz.prog 139 #[.agg (aE v p).toArray] w (AW w p):=by
 obtain⟨oa,ca,hv,-,-⟩:=h0.rd.form;subst hv;obtain⟨n,hn⟩:∃x,p.addrs.length=x:=⟨_,rfl⟩
 have HN:=O hn;rw[hn] at h0 ⊢;obtain⟨w1,hw1,hk1,hb_0,hs1⟩:=aT w (aE (.slice oa n ca) p).toArray 27;obtain⟨a0,b0,c0,d0⟩:=bO (aD hb_0);have HP0:=O d0;have HB0:=O hb_0;have hl0:(aE (.slice oa n ca) p).length=35:=aJ h0.sum;simp only[Nat.zero_add] at a0 b0 c0;have HC:=O (jX w1 _ p (h0.keep hk1 fun _ _=>id));have HK:=O hk1;have HKA:=O hk1;have HRA:=O h0.rd;obtain⟨t,ht⟩:∃t,p.may=t:=⟨_,rfl⟩
 have HT:=O ht;rw[ht] at HC;have HR0:=O (aD HB0.out);have HSL:=O h0.sum;obtain⟨pc,hpc⟩:∃x,aE (.slice oa n ca) p=x:=⟨_,rfl⟩
 have Hpc:=O hpc;rw[hpc] at hw1 HC hl0 HR0 ⊢;have HK1:=O (aA.refl aB w1);have hs1e:w.heap.size<w1.heap.size:=by omega
 obtain⟨pb,hpb⟩:∃b,w.heap.size=b:=⟨_,rfl⟩
 have HPB:=O hpb;rw[hpb] at a0 b0 c0 HR0 hs1e;have HRW:Hid (w1.rangeAt pb 0 pc):=HR0;clear ht hb_0 d0 hk1 hs1 hpc h0 HB0 HP0 hn hpb;cases t
 ·go_in
  go_wp2_with (first
   | ((with_reducible show WL _ (.load 27 (.tmp 1)));refine aM (by rfl) 27 (.tmp 1) rfl (w.heap.size) 0 rfl pc _ (by rw[HPB.out];exact HR0.out) aF rfl (cH hl0) ?_))
  refine HC.out.mono ?_;rintro e w2 ⟨rfl,hk⟩;have HK2:=O hk;have HK:=O (HK.out.trans hk);clear hk HC;go_wp2
  go_ret2
  exact⟨_,by rw[HT.out];rfl,by rw[show ptB p=[] by unfold ptB;rw[HT.out];rfl];exact World.ownsRow_nil _ _ _ _,HK.out⟩
 ·obtain⟨hn3,hin,hb0,hb4,hl0',hl4⟩:=iC HT.out
  rw[HN.out] at hn3;have HIN:=O hin;obtain⟨bi,hbi⟩:∃b:Nat,p.birth=(b:Int):=⟨p.birth.toNat,by omega⟩
  obtain⟨le,hle⟩:∃b:Nat,p.level=(b:Int):=⟨p.level.toNat,by omega⟩
  have hbib:bi≤2147483648:=by omega
  have hleb:le≤3:=by omega
  have HBI:=O hbi;have HLE:=O hle;rw[hbi] at b0;rw[hle] at c0;have HA0:=O a0;have HB0:=O b0;have HC0:=O c0;clear hin hb0 hb4 hl0' hl4 hbi hle;go_in
  go_wp2_with (first
   | ((with_reducible show WL _ (.load 27 (.tmp 1)));refine aM (by rfl) 27 (.tmp 1) rfl (w.heap.size) 0 rfl pc _ (by rw[HPB.out];exact HR0.out) aF rfl (cH hl0) ?_))
  refine HC.out.mono ?_;rintro e w2 ⟨rfl,hk⟩;have HK2:=O hk;have HK:=O (HK.out.trans hk);clear hk HC;obtain⟨w3,hw3,hk3,hb3,hs3⟩:=aT w2 #[] 5;obtain⟨B,hB⟩:∃B,w1.heap.size=B:=⟨_,rfl⟩
  have HBE:=O hB;have hpbB:pb<B:=by omega
  have hB2:B≤w2.heap.size:=by rw[←hB];exact HK2.out.size
  obtain⟨q0,hq0⟩:∃b,w2.heap.size=b:=⟨_,rfl⟩
  have HO3:Hid (w3.ownsRow B 5 1 (.slice (some ⟨q0,0,none⟩) 0 0) 0 []):=O (by rw[←hw3,←hq0];exact aV (World.ownsRow_made w2 #[] 0 (Nat.le_refl _) (by unfold maxLen;omega) rfl) hB2);have HK3:=O (HK2.out.trans hk3);have a0:=HK3.out.cell HA0.out id;have hB3:B≤w3.heap.size:=Nat.le_trans hB2 hk3.size;have hq0B:B≤q0:=by omega
  clear hk3 hb3 hs3 hB b0 c0 HK2;rw[HPB.out];go_wp2_with fail;refine(kT w3 B _ [] n 1 HO3.out hB3 (by omega) (by omega) (by simp) (by omega)).mono ?_;rintro e w4 ⟨v4,rfl,ho4,hb4,hk4⟩
  have HK4:=O (HK3.out.trans' hk4 (U:=aB) (fun _ _ h=>h) (fun i hi e=>by
   have e':q0=i:=Option.some.inj e;have:=HBE.out;omega))
  obtain⟨pa,pc',rfl,-,-⟩:=(Rd.of_owns ho4).form;have hlen0:([]++be n 1:List UInt8).length=1:=by simp[bH]
  rw[hlen0] at ho4 ⊢
  have HO4:Hid (w4.ownsRow B 5 1 (.slice pa 1 pc') 1 ((bR p 0).map vb)):=O (by
   have e:bR p 0=[]++be n 1:=by unfold bR;rw[HN.out];simp
   rw[e];exact ho4)
  clear ho4 hb4 hk4 HO3 HK3 hlen0 a0 hw3 hq0;go_wp2_with fail
  go_loopw [5,18] (fun t i wr=>∃(k ql:Nat) (pa:Option Addr) (pc:Nat),k≤3/\t=.slice pa ql pc/\i=.int .i64 k/\ql≤10/\Hid (ql=1+3*k)/\Hid (wr.ownsRow B 5 1 (.slice pa ql pc) ql ((bR p k).map vb))/\Hid (aA aB w1 wr)) (fun _ i _=>3-(intOf i).toNat)
  case atStart=>exact⟨0,1,pa,pc',by omega,rfl,rfl,by omega,O rfl,HO4,HK4⟩
  case round =>
  clear HO4 HK4;obtain⟨k,ql,pa,pcp,hk,rfl,rfl,hql,HQL,HO,HKW⟩:=hrel;have a0:=HKW.out.cell HA0.out id
  by_cases hlt:k<3
  ·have hki:(k:Int)<3:=by omega
   have hk0:(0:Int)≤(k:Int):=by omega
   obtain⟨d,s,hds,hd8,hs4⟩:=H7 HIN.out k;have HDS:=O hds;obtain⟨w8,hw8,hk8,hb8,hs8⟩:=aT wr #[.int .i64 0,.int .i64 0] 82;obtain⟨ab,hab⟩:∃b,wr.heap.size=b:=⟨_,rfl⟩
   rw[hab] at hb8;have HLT:Hid (∀i,(Value.slice pa ql pcp).ownBlock=some i->i<ab):=O (fun i hi=>by rw[←hab];exact(HO.out.lt i hi).2);have HW8:=O hw8;have HB8:=O hb8;have HABE:=O hab;have HAW:Hid (w1.heap.size≤ab):=O (by rw[←hab];exact HKW.out.size);have HK8:=O (HKW.out.trans hk8);have HO8:=O (hk8.owns HO.out fun _ _=>id);have a8:=HK8.out.cell HA0.out id;have hrk:=HRA.out.keep (HKA.out.trans HK8.out) (fun _ _=>id);clear hk8 hb8 hs8 hds a0
   by_cases hka:k<n
   ·have hkai:(k:Int)<(n:Int):=by omega
    obtain⟨x,h_x⟩:∃x,p.addrs[k]?=some x:=⟨p.addrs[k]'(by rw[HN.out];exact hka),List.getElem?_eq_getElem _⟩
    have hxe:x=⟨(d:Int),(s:Int)⟩:=by
     have:=HDS.out;rw[List.getD_eq_getElem?_getD,h_x] at this;exact this
    subst hxe;rw[←HN.out] at hrk;obtain⟨g,o,cap',h_v,h_at⟩:=iX hrk h_x;rw[HN.out] at h_v;have e1:oa=some ⟨g,o,none⟩:=by cases h_v;rfl
    subst e1;have HX:=O h_at;clear h_x h_v h_at hrk
    go_wp2_with (first
     | ((with_reducible show WL (some 7) (.alloc 82));refine aR rfl 82 rfl eF eC #[.int .i64 0,.int .i64 0] rfl ?_;rw[hw8,hab])
     | ((with_reducible show WL _ (.load 82 (.tmp 29)));refine wpList_load_mid rfl 82 (.tmp 29) rfl g (o+k*2) rfl (aO ⟨(d:Int),(s:Int)⟩) _ HX.out bS rfl bW ?_)
     | ((with_reducible show WL none (.store 82 (.tmp 7) (.tmp 30)));refine aP rfl 82 (.tmp 7) (.tmp 30) rfl ab 0 (aO ⟨(d:Int),(s:Int)⟩) rfl rfl #[.int .i64 0,.int .i64 0] 82 HB8.out (Nat.le_refl _) bW (bL _) ?_
        intro w9 hb9 hk9;rw[aI _ _ (by rfl)] at hb9;have HAB:=O hb9;have HK9:=O (HK8.out.trans' hk9 (U:=aB) (fun _ _ h=>h) (fun i hi e=>by have:=HAW.out;omega));have HO9:=O (hk9.owns HO8.out (fun i hi e=>by have:=HLT.out i hi;omega));clear hb9 hk9))
    clear HW8 HB8 HK8 HO8 a8 hw8 hab;obtain⟨S,hS0⟩:∃S:World->Prop,S=fun w'=>aA aB w1 w'/\w'.heap[ab]?=some (.cells (aO ⟨(d:Int),(s:Int)⟩).toArray 82 (0,0)):=⟨_,rfl⟩
    have HS1:=O (show ∀w',S w'->aA aB w1 w' from fun w' h=>by rw[hS0] at h;exact h.1);have HS2:=O (show ∀w',S w'->w'.heap[ab]?=some (.cells (aO ⟨(d:Int),(s:Int)⟩).toArray 82 (0,0)) from fun w' h=>by rw[hS0] at h;exact h.2);have HSI:=O (show ∀w',aA aB w1 w'->w'.heap[ab]?=some (.cells (aO ⟨(d:Int),(s:Int)⟩).toArray 82 (0,0))->S w' from fun w' h h2=>by rw[hS0];exact⟨h,h2⟩);have HD0:=O (fun w' (h:S w')=>(aC (HS2.out w' h) rfl:w'.cell? ⟨ab,0,none⟩=some (.int .i64 (d:Int))));have HD1:=O (fun w' (h:S w')=>(aC (HS2.out w' h) rfl:w'.cell? ⟨ab,1,none⟩=some (.int .i64 (s:Int))));have hS:S w9.drew:=HSI.out _ HK9.out.drew ((aA.refl aB w9).drew.blk HAB.out id);have hod:=(aA.refl aB w9).drew.owns HO9.out (fun _ _=>id);clear hS0;refine wp_region_held (S:=S) (by kernel_rfl) ?_;change wpAnyH _ _ _ _ _ _ _ _ w9.drew;generalize w9.drew=w10 at hS hod ⊢;refine tka 0 (.slice pa ql pcp) rfl hS ?_;simp only[Act.put,List.setIfInBounds_toArray,List.set_cons_zero,List.set_cons_succ,List.getElem_toArray,List.getElem_cons_zero];refine tnb 1 (.pointer (some ⟨ab,0,none⟩)) rfl hS ?_;refine tnd 2 (.int .i64 (d:Int)) rfl (.inl ⟨by rfl,fun w' hw'=>by have c:=HD0.out w' hw';go_simp⟩) hS ?_;refine tnb 4 (.pointer (some ⟨ab,1,none⟩)) rfl hS ?_;refine tnd 5 (.int .i64 (s:Int)) rfl (.inl ⟨by rfl,fun w' hw'=>by have c:=HD1.out w' hw';go_simp⟩) hS ?_;refine wA9 3 ?_;go_wp2_with fail;have hB10:B≤w10.heap.size:=by rw[←HBE.out];exact(HS1.out _ hS).size
    have hod':w10.ownsRow B 5 1 (.slice pa ql pcp) (bR p k).length ((bR p k).map vb):=by rw[eQ,←HQL.out];exact hod
    refine(kT w10 B _ (bR p k) d 1 hod' hB10 (by omega) (by omega) (by rw[eQ];omega) (by omega)).mono ?_;rintro e w11 ⟨v11,rfl,ho11,hb11,hk11⟩;obtain⟨qa,qc,rfl,-,-⟩:=(Rd.of_owns ho11).form;have hlt9:∀i,(Value.slice pa ql pcp).ownBlock=some i->B≤i/\i<ab:=fun i hi=>⟨bJ hod hi,HLT.out i hi⟩
    have hS11:S w11:=HSI.out _ ((HS1.out _ hS).trans' hk11 (U:=aB) (fun _ _ h=>h) (fun i hi e=>by have:=(hlt9 i e).1;have:=HBE.out;omega)) (hk11.blk (HS2.out _ hS) (fun e=>by have:=(hlt9 ab e).2;omega))
    have hq11:∀i,(Value.slice qa (bR p k++be d 1).length qc).ownBlock=some i->B≤i/\i≠ab:=fun i hi=>⟨bJ ho11 hi,by
     rcases hb11 with h|h
     ·rw[h] at hi;have:=(hlt9 i hi).2;omega
     ·have h1:=h i hi
      have h2:=lt_of_block (HS2.out _ hS);omega⟩
    have hlen:(bR p k++be d 1).length=ql+1:=by rw[List.length_append,eQ,bH,HQL.out]
    have hB11:B≤w11.heap.size:=Nat.le_trans hB10 hk11.size;rw[hlen] at hq11 ⊢;have ho11':=ho11;rw[hlen] at ho11';clear hS hod hod' hk11 hb11 hlt9;go_wp2_with fail;refine⟨hS11,?_⟩;refine wA9 6 ?_;go_wp2_with fail;refine(kT w11 B _ (bR p k++be d 1) s 2 (by rw[hlen];exact ho11') hB11 (by omega) (by omega) (by rw[hlen];omega) (by omega)).mono ?_;rintro e w12 ⟨v12,rfl,ho12,-,hk12⟩;obtain⟨ra,rc,rfl,-,-⟩:=(Rd.of_owns ho12).form;have hS12:S w12:=HSI.out _ ((HS1.out _ hS11).trans' hk12 (U:=aB) (fun _ _ h=>h) (fun i hi e=>by have:=(hq11 i e).1;have:=HBE.out;omega)) (hk12.blk (HS2.out _ hS11) (fun e=>(hq11 ab e).2 rfl));have hlen2:(bR p k++be d 1++be s 2).length=ql+3:=by rw[List.length_append,hlen,bH]
    have hpe:bR p k++be d 1++be s 2=bR p (k+1):=by
     rw[qT,HDS.out]
     first|rfl|(show _=bR p k++be (Int.toNat _) 1++be (Int.toNat _) 2;rw[Int.toNat_natCast,Int.toNat_natCast])
    rw[hlen2] at ho12 ⊢;rw[hpe] at ho12;have HO12:=O ho12;clear hS11 hq11 ho11 ho11' hk12 ho12 hpe;go_wp2_with fail;refine⟨hS12,?_⟩;refine tna 7 (.slice ra (ql+3) rc) rfl hS12 ?_;refine wpAnyH_done (by kernel_rfl) ?_ _;have HK12:=O (HS1.out _ hS12);clear hS12 HS1 HS2 HSI HD0 HD1 HAB HO9 HK9 HLT;go_wp2
    go_roundw
    case rel=>exact⟨k+1,ql+3,ra,rc,by omega,rfl,by go_num,by have:=HQL.out;omega,O (by rw[HQL.out];omega),HO12,HK12⟩
    case measure=>simp[intOf];omega
   ·have hkai:¬(k:Int)<(n:Int):=by omega
    have hd0:d=0/\s=0:=by
     have h:=HDS.out;rw[List.getD_eq_getElem?_getD,List.getElem?_eq_none (by rw[HN.out];omega)] at h;have h1:=congrArg Ad.dev h;have h2:=congrArg Ad.sec h;have h3:(0:Int)=(d:Int):=h1;have h4:(0:Int)=(s:Int):=h2;omega
    obtain⟨rfl,rfl⟩:=hd0;have HAB:Hid (w8.heap[ab]?=some (.cells (aO ⟨((0:Nat):Int),((0:Nat):Int)⟩).toArray 82 (0,0))):=HB8;have HK9:=HK8;have HO9:=HO8;clear hrk
    go_wp2_with (first
     | ((with_reducible show WL (some 7) (.alloc 82));refine aR rfl 82 rfl eF eC #[.int .i64 0,.int .i64 0] rfl ?_;rw[hw8,hab]))
    obtain⟨w9,hw9⟩:∃w9,w8=w9:=⟨_,rfl⟩
    rw[hw9] at HAB HK9 HO9 ⊢;clear HW8 HB8 HK8 HO8 a8 hw8 hab hw9;obtain⟨S,hS0⟩:∃S:World->Prop,S=fun w'=>aA aB w1 w'/\w'.heap[ab]?=some (.cells (aO ⟨((0:Nat):Int),((0:Nat):Int)⟩).toArray 82 (0,0)):=⟨_,rfl⟩
    have HS1:=O (show ∀w',S w'->aA aB w1 w' from fun w' h=>by rw[hS0] at h;exact h.1);have HS2:=O (show ∀w',S w'->w'.heap[ab]?=some (.cells (aO ⟨((0:Nat):Int),((0:Nat):Int)⟩).toArray 82 (0,0)) from fun w' h=>by rw[hS0] at h;exact h.2);have HSI:=O (show ∀w',aA aB w1 w'->w'.heap[ab]?=some (.cells (aO ⟨((0:Nat):Int),((0:Nat):Int)⟩).toArray 82 (0,0))->S w' from fun w' h h2=>by rw[hS0];exact⟨h,h2⟩);have HD0:=O (fun w' (h:S w')=>(aC (HS2.out w' h) rfl:w'.cell? ⟨ab,0,none⟩=some (.int .i64 ((0:Nat):Int))));have HD1:=O (fun w' (h:S w')=>(aC (HS2.out w' h) rfl:w'.cell? ⟨ab,1,none⟩=some (.int .i64 ((0:Nat):Int))));have hS:S w9.drew:=HSI.out _ HK9.out.drew ((aA.refl aB w9).drew.blk HAB.out id);have hod:=(aA.refl aB w9).drew.owns HO9.out (fun _ _=>id);clear hS0;refine wp_region_held (S:=S) (by kernel_rfl) ?_;change wpAnyH _ _ _ _ _ _ _ _ w9.drew;generalize w9.drew=w10 at hS hod ⊢;refine tka 0 (.slice pa ql pcp) rfl hS ?_;simp only[Act.put,List.setIfInBounds_toArray,List.set_cons_zero,List.set_cons_succ,List.getElem_toArray,List.getElem_cons_zero];refine tnb 1 (.pointer (some ⟨ab,0,none⟩)) rfl hS ?_;refine tnd 2 (.int .i64 ((0:Nat):Int)) rfl (.inl ⟨by rfl,fun w' hw'=>by have c:=HD0.out w' hw';go_simp⟩) hS ?_;refine tnb 4 (.pointer (some ⟨ab,1,none⟩)) rfl hS ?_;refine tnd 5 (.int .i64 ((0:Nat):Int)) rfl (.inl ⟨by rfl,fun w' hw'=>by have c:=HD1.out w' hw';go_simp⟩) hS ?_;refine wA9 3 ?_;go_wp2_with fail;have hB10:B≤w10.heap.size:=by rw[←HBE.out];exact(HS1.out _ hS).size
    have hod':w10.ownsRow B 5 1 (.slice pa ql pcp) (bR p k).length ((bR p k).map vb):=by rw[eQ,←HQL.out];exact hod
    refine(kT w10 B _ (bR p k) 0 1 hod' hB10 (by omega) (by omega) (by rw[eQ];omega) (by omega)).mono ?_;rintro e w11 ⟨v11,rfl,ho11,hb11,hk11⟩;obtain⟨qa,qc,rfl,-,-⟩:=(Rd.of_owns ho11).form;have hlt9:∀i,(Value.slice pa ql pcp).ownBlock=some i->B≤i/\i<ab:=fun i hi=>⟨bJ hod hi,HLT.out i hi⟩
    have hS11:S w11:=HSI.out _ ((HS1.out _ hS).trans' hk11 (U:=aB) (fun _ _ h=>h) (fun i hi e=>by have:=(hlt9 i e).1;have:=HBE.out;omega)) (hk11.blk (HS2.out _ hS) (fun e=>by have:=(hlt9 ab e).2;omega))
    have hq11:∀i,(Value.slice qa (bR p k++be 0 1).length qc).ownBlock=some i->B≤i/\i≠ab:=fun i hi=>⟨bJ ho11 hi,by
     rcases hb11 with h|h
     ·rw[h] at hi;have:=(hlt9 i hi).2;omega
     ·have h1:=h i hi
      have h2:=lt_of_block (HS2.out _ hS);omega⟩
    have hlen:(bR p k++be 0 1).length=ql+1:=by rw[List.length_append,eQ,bH,HQL.out]
    have hB11:B≤w11.heap.size:=Nat.le_trans hB10 hk11.size;rw[hlen] at hq11 ⊢;have ho11':=ho11;rw[hlen] at ho11';clear hS hod hod' hk11 hb11 hlt9;go_wp2_with fail;refine⟨hS11,?_⟩;refine wA9 6 ?_;go_wp2_with fail;refine(kT w11 B _ (bR p k++be 0 1) 0 2 (by rw[hlen];exact ho11') hB11 (by omega) (by omega) (by rw[hlen];omega) (by omega)).mono ?_;rintro e w12 ⟨v12,rfl,ho12,-,hk12⟩;obtain⟨ra,rc,rfl,-,-⟩:=(Rd.of_owns ho12).form;have hS12:S w12:=HSI.out _ ((HS1.out _ hS11).trans' hk12 (U:=aB) (fun _ _ h=>h) (fun i hi e=>by have:=(hq11 i e).1;have:=HBE.out;omega)) (hk12.blk (HS2.out _ hS11) (fun e=>(hq11 ab e).2 rfl));have hlen2:(bR p k++be 0 1++be 0 2).length=ql+3:=by rw[List.length_append,hlen,bH]
    have hpe:bR p k++be 0 1++be 0 2=bR p (k+1):=by
     rw[qT,HDS.out]
     first|rfl|(show _=bR p k++be (Int.toNat _) 1++be (Int.toNat _) 2;rw[Int.toNat_natCast,Int.toNat_natCast])
    rw[hlen2] at ho12 ⊢;rw[hpe] at ho12;have HO12:=O ho12;clear hS11 hq11 ho11 ho11' hk12 ho12 hpe;go_wp2_with fail;refine⟨hS12,?_⟩;refine tna 7 (.slice ra (ql+3) rc) rfl hS12 ?_;refine wpAnyH_done (by kernel_rfl) ?_ _;have HK12:=O (HS1.out _ hS12);clear hS12 HS1 HS2 HSI HD0 HD1 HAB HO9 HK9 HLT;go_wp2
    go_roundw
    case rel=>exact⟨k+1,ql+3,ra,rc,by omega,rfl,by go_num,by have:=HQL.out;omega,O (by rw[HQL.out];omega),HO12,HK12⟩
    case measure=>simp[intOf];omega
  ·obtain rfl:k=3:=by omega
   have HSM:=O ((bO (p:=p) (v:=.slice oa n ca) (by rw[Hpc.out];exact HRW.out)).2.2.2);rw[Nat.zero_add] at HSM;obtain⟨ss,hss⟩:∃x,p.sum.map vb=x:=⟨_,rfl⟩
   have HSS:=O hss;have hsl:ss.length=32:=by rw[←hss,List.length_map];exact HSL.out
   have hso:∀u∈ss,u.oneCell'=true:=by rw[←hss];exact bN _
   rw[hss] at HSM;have hqe:ql=10:=HQL.out;subst hqe;obtain⟨S,hS0⟩:∃S:World->Prop,S=fun w'=>aA aB w1 w':=⟨_,rfl⟩
   have HSE:=O (show ∀w',S w'->aA aB w1 w' from fun w' h=>by rw[hS0] at h;exact h);have HSI:=O (show ∀w',aA aB w1 w'->S w' from fun w' h=>by rw[hS0];exact h);have HD0:=O (fun w' (h:S w')=>(HSE.out w' h).cell HB0.out id);have HD1:=O (fun w' (h:S w')=>(HSE.out w' h).cell HC0.out id);have hod:=(aA.refl aB wr).drew.owns HO.out (fun _ _=>id);have hS:S wr.drew:=HSI.out _ HKW.out.drew;clear hS0 hss a0 HO;go_wp2_with fail;refine wp_region_held (S:=S) (by kernel_rfl) ?_;change wpAnyH _ _ _ _ _ _ _ _ wr.drew;generalize wr.drew=w10 at hS hod ⊢;refine tka 0 (.slice pa 10 pcp) rfl hS ?_;simp only[Act.put,List.setIfInBounds_toArray,List.set_cons_zero,List.set_cons_succ,List.getElem_toArray,List.getElem_cons_zero];refine tnb 1 (.pointer (some ⟨pb,1,none⟩)) rfl hS ?_;refine tnd 2 (.int .i64 (bi:Int)) rfl (.inl ⟨by rfl,fun w' hw'=>by have c:=HD0.out w' hw';go_simp⟩) hS ?_;refine tnb 4 (.pointer (some ⟨pb,2,none⟩)) rfl hS ?_;refine tnd 5 (.int .i64 (le:Int)) rfl (.inl ⟨by rfl,fun w' hw'=>by have c:=HD1.out w' hw';go_simp⟩) hS ?_;refine tnb 7 (.pointer (some ⟨pb,3,none⟩)) rfl hS ?_;refine tnb 8 (.slice (some ⟨pb,3,none⟩) 32 32) rfl hS ?_;refine wA9 3 ?_;go_wp2_with fail;have hB10:B≤w10.heap.size:=by rw[←HBE.out];exact(HSE.out _ hS).size
   refine(kT w10 B _ (bR p 3) bi 4 (by rw[eQ];exact hod) hB10 (by omega) (by omega) (by rw[eQ];omega) (by omega)).mono ?_;rintro e w11 ⟨v11,rfl,ho11,hb11,hk11⟩;obtain⟨qa,qc,rfl,-,-⟩:=(Rd.of_owns ho11).form;have hS11:S w11:=HSI.out _ ((HSE.out _ hS).trans' hk11 (U:=aB) (fun _ _ h=>h) (fun i hi e=>by have:=bJ hod e;have:=HBE.out;omega));have hlen:(bR p 3++be bi 4).length=14:=by rw[List.length_append,eQ,bH]
   have hB11:B≤w11.heap.size:=Nat.le_trans hB10 hk11.size;have ho11':=ho11;rw[hlen] at ho11' ⊢;clear hS hod hk11 hb11;go_wp2_with fail;refine⟨hS11,?_⟩;refine wA9 6 ?_;go_wp2_with fail;refine(kT w11 B _ (bR p 3++be bi 4) le 1 (by rw[hlen];exact ho11') hB11 (by omega) (by omega) (by rw[hlen];omega) (by omega)).mono ?_;rintro e w12 ⟨v12,rfl,ho12,-,hk12⟩;obtain⟨ra,rc,rfl,-,-⟩:=(Rd.of_owns ho12).form;have hS12:S w12:=HSI.out _ ((HSE.out _ hS11).trans' hk12 (U:=aB) (fun _ _ h=>h) (fun i hi e=>by have:=bJ ho11' e;have:=HBE.out;omega));have hlen2:(bR p 3++be bi 4++be le 1).length=15:=by rw[List.length_append,hlen,bH]
   have hB12:B≤w12.heap.size:=Nat.le_trans hB11 hk12.size;rw[hlen2] at ho12 ⊢;clear hS11 ho11 ho11' hk12;go_wp2_with fail;refine⟨hS12,?_⟩;refine wA9 9 ?_
   refine vT rfl (.tmp 45) (.tmp 47) 268 109 rfl _ Tryz.underlying109 rfl B 5 _ 1 1 Tryz.underlying268 fN rfl (by omega) (.slice ra 15 rc) 15 ((bR p 3++be bi 4++be le 1).map vb) rfl ho12 ⟨pb,3,none⟩ 32 32 ss rfl hsl (fun j u hj=>by
    rw[lB];exact(HSE.out _ hS12).cell (HSM.out j u hj) id) hso (by unfold maxLen;omega) (by omega) hB12 ?_
   intro v13 w13 ho13 hk13 hb13;obtain⟨sa,sc,rfl,-,-⟩:=(Rd.of_owns ho13).form;have hS13:S w13:=HSI.out _ ((HSE.out _ hS12).trans' hk13 (U:=aB) (fun _ _ h=>h) (fun i hi e=>by have:=bJ ho12 e;have:=HBE.out;omega))
   have HO13:Hid (w13.ownsRow B 5 1 (.slice sa 47 sc) 47 ((bY p).map vb)):=O (by
    have e:(bY p).map vb=(bR p 3++be bi 4++be le 1).map vb++ss:=by
     unfold bY;rw[HBI.out,HLE.out,Int.toNat_natCast,Int.toNat_natCast,List.map_append,HSS.out]
    rw[e];exact ho13)
   clear hS12 ho12 ho13 hk13 hb13;refine wpList_nil ?_;refine⟨hS13,?_⟩;refine tna 10 (.slice sa 47 sc) rfl hS13 ?_;refine tna 11 (.int .i64 0) rfl hS13 ?_;refine wpAnyH_done (by kernel_rfl) ?_ _;have HK13:=O (HSE.out _ hS13);clear hS13 HSE HSI;go_wp2
   go_ret2
   have e:ptB p=bY p:=by unfold ptB;rw[HT.out];rfl
   refine⟨_,by rw[HT.out];rfl,?_,HKA.out.trans HK13.out⟩;rw[e,eP HSL.out];exact aV HO13.out (by have:=HBE.out;have:=HPB.out;omega)
open Go.RowKit Go.Maps Go.ChangeMaps
set_option maxRecDepth 100000
set_option linter.unusedVariables false
theorem Lx{n:Nat}(h:n<256):vb (UInt8.ofNat n)=.int .u8 (n:Int):=by
 unfold vb;simp;omega
end
end Go.Proofs.YtiinnfhjpaeffaaGreat
