import Derived.Test.YtoeinblfcbpcmaaGreatDoorC9
import Derived.Test.YtoeinblfcbpcmaaGreatDoorC17
namespace Go.Proofs.YtoeinblfcbpcmaaGreatDoor
open Tryz
set_option maxHeartbeats 0
set_option maxRecDepth 100000
set_option linter.unusedVariables false
section
open Go.RowKit Go.Maps Go.ChangeMaps
structure Pt where
 addrs:List Ad
 birth:Int
 level:Int
 sum:List UInt8
def dM:List UInt8:=List.replicate 32 0
def Pt.noth(p:Pt):Bool:=(p.birth == 0) && (p.level == 0) && decide (p.sum=dM)
def Pt.hole(p:Pt):Bool:=((p.addrs.length:Int) == 0) && p.noth
def lH(a:Ad):Bool:=decide (0≤a.dev) && decide (a.dev<8) && decide (5≤a.sec) && decide (a.sec<4096)
def sV(l:List Ad):Bool:=l.all lH && decide ((l.map (·.dev)).Nodup) && decide (1≤l.length) && decide (l.length≤3)
def Pt.numsB(p:Pt):Bool:=decide (1≤p.birth) && decide (p.birth≤2147483648) && decide (0≤p.level) && decide (p.level≤3)
def Pt.may(p:Pt):Bool:=p.hole || (sV p.addrs && p.numsB)
structure Ub where
 txg:Int
 root:Pt
 len:Int
 pool:List UInt8
def Ub.may(u:Ub):Bool:=decide (1≤u.txg) && decide (u.txg≤2147483648) && decide (0≤u.len) && decide (u.len≤16384) && (u.root.hole || (u.root.may && (u.root.level == 3) && decide (u.root.birth≤u.txg)))
def aL(v:Value)(p:Pt):List Value:=v::.int .i64 p.birth::.int .i64 p.level::p.sum.map vb
def aV(v:Value)(u:Ub):List Value:=.int .i64 u.txg::(aL v u.root++(.int .i64 u.len::u.pool.map vb))
variable{v:Value}{w w':World}{b o B n d k rb cb pb g c off i:Nat}{l:List Ad}{T:Nat->Prop}{P:Program}
theorem bB{p:Pt}(h:p.sum.length=32):(aL v p).length=35:=by simp[aL,h]
theorem bZ{u:Ub}(h:u.root.sum.length=32)(a:u.pool.length=32):(aV v u).length=69:=by simp[aV,aL,h,a]
theorem pC{A B C:List Value}(h:w.rangeAt b o (A++(B++C))):w.rangeAt b (o+A.length) B:=fun j v a=>by
 have e:=(List.getElem?_eq_some_iff.1 a).1;have:=h (A.length+j) v (by rw[List.getElem?_append_right (by omega),show A.length+j-A.length=j by omega,List.getElem?_append_left e];exact a)
 rwa [←Nat.add_assoc] at this
theorem dD{p:Pt}(h:w.rangeAt b o (aL v p)):w.cell? ⟨b,o,none⟩=some v/\w.cell? ⟨b,o+1,none⟩=some (.int .i64 p.birth)/\w.cell? ⟨b,o+2,none⟩=some (.int .i64 p.level)/\w.rangeAt b (o+3) (p.sum.map vb):=by
 refine⟨h 0 _ rfl,h 1 _ rfl,h 2 _ rfl,?_⟩;have a:w.rangeAt b o ([v,.int .i64 p.birth,.int .i64 p.level]++(p.sum.map vb++[])):=by rw[List.append_nil];exact h
 exact pC a
theorem gI{u:Ub}(j:u.root.sum.length=32)(h:w.rangeAt b o (aV v u)):w.cell? ⟨b,o,none⟩=some (.int .i64 u.txg)/\w.rangeAt b (o+1) (aL v u.root)/\w.cell? ⟨b,o+36,none⟩=some (.int .i64 u.len)/\w.rangeAt b (o+37) (u.pool.map vb):=by
 refine⟨h 0 _ rfl,?_,?_,?_⟩
 ·have a:w.rangeAt b o ([.int .i64 u.txg]++(aL v u.root++(.int .i64 u.len::u.pool.map vb))):=h
  exact pC a
 ·have a:w.rangeAt b o ((.int .i64 u.txg::aL v u.root)++([.int .i64 u.len]++u.pool.map vb)):=h
  have f:=pC a 0 _ rfl;rw[show (Value.int .i64 u.txg::aL v u.root).length=36 by rw[List.length_cons,bB j]] at f;exact f
 ·have a:w.rangeAt b o ((.int .i64 u.txg::(aL v u.root++[.int .i64 u.len]))++(u.pool.map vb++[])):=by
   have e:aV v u=(.int .i64 u.txg::(aL v u.root++[.int .i64 u.len]))++(u.pool.map vb++[]):=by simp[aV]
   rw[←e];exact h
  have f:=pC a;rw[show (Value.int .i64 u.txg::(aL v u.root++[.int .i64 u.len])).length=37 by rw[List.length_cons,List.length_append,bB j];rfl] at f;exact f
theorem bJ:prog.underlying 33=some (.struct (prog.fieldsOf 33)):=by kernel_rfl
theorem Bl:(prog.info? 33).map (·.size)=some 35:=by kernel_rfl
theorem cP:prog.underlying 71=some (.struct (prog.fieldsOf 71)):=by kernel_rfl
theorem P7:(prog.info? 71).map (·.size)=some 69:=by kernel_rfl
theorem cI{l:List Value}(h:l.length=35):(prog.info? 33).map (·.size)=some l.length:=by rw[h];exact Bl
theorem cR{l:List Value}(h:l.length=69):(prog.info? 71).map (·.size)=some l.length:=by rw[h];exact P7
theorem tO{l:List Value}(h:l.length=32):(prog.info? 31).map (·.size)=some l.length:=by rw[h];exact fZ
theorem MP(w:World):(sizeOf 5).run prog w=.ok 1 w:=by kernel_rfl
theorem EH(a ys:List UInt8)(e:a.length=32)(f:ys.length=32)(w:World):Sem.run prog (binOp .eql 31 (.agg (a.map vb).toArray) (.agg (ys.map vb).toArray)) w=.ok (.bool (decide (a=ys))) w:=by
 have:=run_eql_bytes (P:=prog) w 31 5 32 underlying31 underlying5 MP a ys e f;rw[show decide (a=ys)=(a == ys) by rw[Bool.eq_iff_iff];simp];exact this
theorem O4:prog.eqGuardType prog.depth 31=false:=by kernel_rfl
structure PtV(w:World)(v:Value)(p:Pt):Prop where
 rd:Rd w 2 v p.addrs.length (aJ p.addrs)
 ads:jF p.addrs
 sum:p.sum.length=32
theorem PtV.keep{p:Pt}(h:PtV w v p)(k:aA T w w')(a:∀i,v.ownBlock=some i->¬T i):PtV w' v p:=⟨h.rd.keep k a,h.ads,h.sum⟩
structure UbV(w:World)(v:Value)(u:Ub):Prop where
 root:PtV w v u.root
 pool:u.pool.length=32
theorem UbV.keep{u:Ub}(h:UbV w v u)(k:aA T w w')(a:∀i,v.ownBlock=some i->¬T i):UbV w' v u:=⟨h.root.keep k a,h.pool⟩
theorem MQ:((n:Int) == 0)=decide (n=0):=by rw[Bool.eq_iff_iff];simp
theorem MR(w:World)(v:Value)(p:Pt)(h0:PtV w v p):Calls prog 174 #[.agg (aL v p).toArray] w (bM w p.noth):=by
 obtain⟨R,A,q,a,u⟩:=aM w (aL v p).toArray 33;obtain⟨L,M,c0,D⟩:=dD (aD a);have m:=O D;have s:=O a;have N:(aL v p).length=35:=bB h0.sum;simp only[Nat.zero_add] at L M c0;have I:=O q;have e:=EH p.sum dM h0.sum rfl;have r:(p.sum.map vb).length=32:=by rw[List.length_map];exact h0.sum
 obtain⟨t1,y⟩:∃t:Bool,(p.birth == 0)=t:=⟨_,rfl⟩
 obtain⟨H,z⟩:∃t:Bool,(p.level == 0)=t:=⟨_,rfl⟩
 obtain⟨C,j⟩:∃t:Bool,decide (p.sum=dM)=t:=⟨_,rfl⟩
 have F:p.noth=(t1 && H && C):=by unfold Pt.noth;rw[y,z,j]
 rw[F];rw[j] at e;obtain⟨G,h⟩:=zX9 (p.sum.map vb)
 have K:=O h;obtain⟨Q,f⟩:=zX9 (aL v p)
 have J:=O f;rw[h] at e r m;rw[f] at A ⊢;have E:∀w,Sem.run prog (binOp .eql 31 (.agg G.toArray) (.agg #[.int .u8 0,.int .u8 0,.int .u8 0,.int .u8 0,.int .u8 0,.int .u8 0,.int .u8 0,.int .u8 0,.int .u8 0,.int .u8 0,.int .u8 0,.int .u8 0,.int .u8 0,.int .u8 0,.int .u8 0,.int .u8 0,.int .u8 0,.int .u8 0,.int .u8 0,.int .u8 0,.int .u8 0,.int .u8 0,.int .u8 0,.int .u8 0,.int .u8 0,.int .u8 0,.int .u8 0,.int .u8 0,.int .u8 0,.int .u8 0,.int .u8 0,.int .u8 0])) w=.ok (.bool C) w:=e;clear e;clear F j a D q u h f h0 s
 cases t1<;>cases H<;>cases C<;>(
  go_in
  go_wp2_with (first
   | ((with_reducible show WL _ (.load 31 (.tmp 12)));refine aP (by rfl) 31 (.tmp 12) rfl (w.heap.size) 3 rfl G _ m.out underlying31 rfl (tO r) ?_))
  go_ret;exact⟨rfl,I.out⟩)
theorem rE(w:World)(v:Value)(p:Pt)(h0:PtV w v p):Calls prog 118 #[.agg (aL v p).toArray] w (bM w p.hole):=by
 obtain⟨F,A,R,-,-⟩:=h0.rd.form;subst R;obtain⟨U,E,f,a,D⟩:=aM w (aL (.slice F p.addrs.length A) p).toArray 33;obtain⟨H,Q,c0,I⟩:=dD (aD a);have z:=O I;have q:=O a;have s:(aL (.slice F p.addrs.length A) p).length=35:=bB h0.sum;simp only[Nat.zero_add] at H Q c0;have u:=O (MR U _ p (h0.keep f fun _ _=>id));have G:=O f;obtain⟨t1,j⟩:∃t:Bool,((p.addrs.length:Int) == 0)=t:=⟨_,rfl⟩
 obtain⟨M,m⟩:∃t:Bool,p.noth=t:=⟨_,rfl⟩
 have K:p.hole=(t1 && M):=by unfold Pt.hole;rw[j,m]
 rw[K];rw[m] at u;have r:=O (aD q.out);obtain⟨S,h⟩:=zX9 (aL (.slice F p.addrs.length A) p)
 have N:=O h;rw[h] at E u s r ⊢;obtain⟨n,C⟩:=zX9 p.addrs.length
 have V:=O C;rw[C] at H j;have L:decide (n=0)=t1:=by rw[←j,MQ]
 clear K m a I f D h h0 q z C;cases t1
 ·go_in
  go_wp2;go_ret;exact⟨rfl,G.out⟩
 ·go_in
  go_wp2_with (first
   | ((with_reducible show WL _ (.load 33 (.tmp 1)));refine aP (by rfl) 33 (.tmp 1) rfl (w.heap.size) 0 rfl S _ r.out bJ rfl (cI s) ?_))
  refine u.mono ?_;rintro e W ⟨rfl,J⟩;have y:=O (G.trans J);clear J u
  cases M<;>(
   go_wp2;go_ret;exact⟨rfl,y.out⟩)
open Go.RowKit Go.Maps Go.ChangeMaps
set_option maxRecDepth 100000
set_option linter.unusedVariables false
theorem P8(w:World):(zeroValue 317).run prog w=.ok (.agg (Array.replicate 8 (.bool false))) w:=by kernel_rfl
def sA(l:List Ad):List Value:=(List.range 8).map fun(d:Nat)=>Value.bool (decide ((d:Int)∈l.map (·.dev)))
theorem uV(h:d<8):(sA l).toArray[d]?=some (.bool (decide ((d:Int)∈l.map (·.dev)))):=by
 unfold sA;rw[List.getElem?_toArray,List.getElem?_map,List.getElem?_range h];rfl
theorem MS{s:Int}(h:d<8):(sA l).toArray.setIfInBounds d (.bool true)=(sA (l++[⟨(d:Int),s⟩])).toArray:=by
 rw[List.setIfInBounds_toArray]
 congr 1
 refine List.ext_getElem? fun i=>?_
 unfold sA;rw[List.getElem?_set,List.getElem?_map,List.getElem?_map,List.length_map,List.length_range]
 by_cases a:i<8
 ·rw[List.getElem?_range a,List.map_append]
  by_cases e:d=i
  ·subst e
   rw[if_pos rfl,if_pos a];simp
  ·rw[if_neg e]
   have:¬(i:Int)=(d:Int):=by omega
   simp[this]
 ·rw[if_neg (by omega)]
  rw[List.getElem?_eq_none (by rw[List.length_range];omega)];rfl
theorem P9{x:Ad}(a:l[k]?=some x)(h:lH x=false\/x.dev∈(l.take k).map (·.dev)):sV l=false:=by
 unfold sV;rcases h with h|h
 ·have f:l.all lH=false:=by
   rw[List.all_eq_false];exact⟨x,List.mem_of_getElem? a,by rw[h];simp⟩
  rw[f];simp
 ·have f:¬(l.map (·.dev)).Nodup:=by
   intro m;have j:=(List.getElem?_eq_some_iff.1 a).1
   have e:l=l.take k++x::l.drop (k+1):=by
    conv=>lhs;rw[←List.take_append_drop k l]
    rw[List.drop_eq_getElem_cons j]
    congr 2
    rw[List.getElem?_eq_getElem j] at a;exact Option.some.inj a
   rw[e,List.map_append,List.map_cons] at m;exact(List.nodup_append.1 m).2.2 _ h _ (List.mem_cons_self ..) rfl
  rw[decide_eq_false f];simp
theorem O5(a:l.all lH=true)(e:(l.map (·.dev)).Nodup):sV l=(decide (1≤l.length) && decide (l.length≤3)):=by
 unfold sV;rw[a,decide_eq_true e];simp
theorem Kl(w:World)(v:Value)(l:List Ad)(ho:jF l)(hr:Rd w 2 v l.length (aJ l)):Calls prog 173 #[v] w (bM w (sV l)):=by
 obtain⟨oa,ca,rfl,-,qx⟩:=hr.form;have qk:l.length≤maxLen:=by have h:=hr.2;obtain⟨a',qf,R,h2,h3,-⟩:=h;omega
 unfold maxLen at qk;obtain⟨Q,V⟩:=zX9 (sV l)
 have Z:=O V;rw[V];obtain⟨n,hn⟩:=zX9 l.length
 have HN:=O hn;have HR:=O hr;have HO:=O ho;rw[hn] at HR qk ⊢;clear qx hr hn V ho;obtain⟨w1,qo,qj,qi,qy⟩:=aM w (Array.replicate 8 (.bool false)) 317;have M:Hid (w1.heap[w.heap.size]?=some (.cells (sA []).toArray 317 (0,0))):=O qi;have qq:=O qj;obtain⟨K,J⟩:=zX9 w.heap.size
 have za:K<w1.heap.size:=by omega
 have qv:=O J;rw[J] at M;clear qj qi qy;go_in
 go_wp2_with (first
  | ((with_reducible show WL (some 3) (.alloc 317));refine aG rfl 317 rfl _ P8 (Array.replicate 8 (.bool false)) rfl ?_;rw[qo,J]))
 clear qo J
 go_loopw [8] (fun i wr=>∃k:Nat,k≤n/\i=.int .i64 k/\Hid (wr.heap[K]?=some (.cells (sA (l.take k)).toArray 317 (0,0)))/\Hid ((l.take k).all lH=true/\((l.take k).map (·.dev)).Nodup)/\Hid (aA (fun i=>i=K) w1 wr)) (fun i _=>n-(intOf i).toNat)
 case atStart=>exact⟨0,Nat.zero_le _,rfl,O M.out,O ⟨rfl,List.nodup_nil⟩,O (aA.refl _ _)⟩
 case round =>
 clear M;obtain⟨k,hk,rfl,W,HI,qc⟩:=hrel;have N:=O (qq.trans' qc.out (U:=aB) (fun _ _ h=>h) (fun i Y e=>by have:=qv.out;omega))
 by_cases qw:k<n
 ·have q9:(k:Int)<(n:Int):=by omega
  have q7:(0:Int)≤(k:Int):=by omega
  obtain⟨⟨C,r⟩,I⟩:∃x,l[k]?=some x:=⟨l[k]'(by rw[HN.out];exact qw),List.getElem?_eq_getElem _⟩
  have S:=HR.keep N.out fun _ _=>id
  rw[←HN.out] at S;obtain⟨g,o,qf,qh,L⟩:=fT S I;have e1:oa=some ⟨g,o,none⟩:=by cases qh;rfl
  subst e1;have X:=O L;have HE:=O I;have qg:l.take (k+1)=l.take k++[⟨C,r⟩]:=by rw[List.take_add_one,I];rfl
  have qe:=O qg;clear I S qh L qg;have q5:=HO.out _ (List.mem_of_getElem? HE.out);have D:Hid (lH ⟨C,r⟩=false\/C∈(l.take k).map (·.dev)->Q=false):=O (fun h=>by rw[←Z.out];exact P9 HE.out h)
  by_cases R:C<0
  ·have m:Q=false:=D.out (.inl (by unfold lH;simp;omega))
   have d1:decide (C<0)=true:=decide_eq_true R;subst m
   go_wp2_with (first
    | ((with_reducible show WL _ (.load 93 (.tmp 10)));refine wpList_load_mid rfl 93 (.tmp 10) rfl g (o+k*2) rfl (aO ⟨C,r⟩) _ X.out bY rfl cK ?_)
    | ((with_reducible show WL (some 5) (.alloc 93));refine aG rfl 93 rfl eN eI #[.int .i64 0,.int .i64 0] rfl ?_)
    | ((with_reducible show WL none (.store 93 (.tmp 5) (.tmp 11)));refine aE rfl 93 (.tmp 5) (.tmp 11) rfl wr.heap.size 0 (aO ⟨C,r⟩) rfl rfl #[.int .i64 0,.int .i64 0] 93 (heap_alloc_new _ _) (Nat.le_refl _) cK (bV _) ?_
       intro q a j;rw[aI _ _ (by rfl)] at a;have f:aA aB wr q:=((aA.refl aB wr).alloc _).tT j (fun i Y e=>by omega);have u:=O f;have E:q.cell? ⟨wr.heap.size,0,none⟩=some (.int .i64 C):=aC a rfl;have F:q.cell? ⟨wr.heap.size,1,none⟩=some (.int .i64 r):=aC a rfl;have z:=O (f.blk W.out id)
       skip
       clear a j f))
   go_ret;exact⟨rfl,N.trans u.out⟩
  by_cases h2:8≤C
  ·have m:Q=false:=D.out (.inl (by unfold lH;simp;omega))
   have d2:decide (8≤C)=true:=decide_eq_true h2;subst m
   go_wp2_with (first
    | ((with_reducible show WL _ (.load 93 (.tmp 10)));refine wpList_load_mid rfl 93 (.tmp 10) rfl g (o+k*2) rfl (aO ⟨C,r⟩) _ X.out bY rfl cK ?_)
    | ((with_reducible show WL (some 5) (.alloc 93));refine aG rfl 93 rfl eN eI #[.int .i64 0,.int .i64 0] rfl ?_)
    | ((with_reducible show WL none (.store 93 (.tmp 5) (.tmp 11)));refine aE rfl 93 (.tmp 5) (.tmp 11) rfl wr.heap.size 0 (aO ⟨C,r⟩) rfl rfl #[.int .i64 0,.int .i64 0] 93 (heap_alloc_new _ _) (Nat.le_refl _) cK (bV _) ?_
       intro q a j;rw[aI _ _ (by rfl)] at a;have f:aA aB wr q:=((aA.refl aB wr).alloc _).tT j (fun i Y e=>by omega);have u:=O f;have E:q.cell? ⟨wr.heap.size,0,none⟩=some (.int .i64 C):=aC a rfl;have F:q.cell? ⟨wr.heap.size,1,none⟩=some (.int .i64 r):=aC a rfl;have z:=O (f.blk W.out id)
       skip
       clear a j f))
   go_ret;exact⟨rfl,N.trans u.out⟩
  obtain⟨d,rfl⟩:∃d:Nat,C=(d:Int):=⟨C.toNat,by omega⟩
  have G:d<8:=by omega
  have q0:(d:Int)<8:=by omega
  have qz:(0:Int)≤(d:Int):=by omega
  obtain⟨s,H⟩:=zX9 (decide ((d:Int)∈(l.take k).map (·.dev)))
  have qd:=O H;clear R h2;cases s
  ·have ql:(d:Int) ∉ (l.take k).map (·.dev):=of_decide_eq_false qd.out
   have qt:=O ql;clear ql
   by_cases h3:r<5
   ·have m:Q=false:=D.out (.inl (by unfold lH;simp;omega))
    have d3:decide (r<5)=true:=decide_eq_true h3;subst m
    go_wp2_with (first
     | ((with_reducible show WL _ (.load 93 (.tmp 10)));refine wpList_load_mid rfl 93 (.tmp 10) rfl g (o+k*2) rfl (aO ⟨(d:Int),r⟩) _ X.out bY rfl cK ?_)
     | ((with_reducible show WL (some 5) (.alloc 93));refine aG rfl 93 rfl eN eI #[.int .i64 0,.int .i64 0] rfl ?_)
     | ((with_reducible show WL none (.store 93 (.tmp 5) (.tmp 11)));refine aE rfl 93 (.tmp 5) (.tmp 11) rfl wr.heap.size 0 (aO ⟨(d:Int),r⟩) rfl rfl #[.int .i64 0,.int .i64 0] 93 (heap_alloc_new _ _) (Nat.le_refl _) cK (bV _) ?_
        intro q a j;rw[aI _ _ (by rfl)] at a;have f:aA aB wr q:=((aA.refl aB wr).alloc _).tT j (fun i Y e=>by omega);have u:=O f;have E:q.cell? ⟨wr.heap.size,0,none⟩=some (.int .i64 (d:Int)):=aC a rfl;have F:q.cell? ⟨wr.heap.size,1,none⟩=some (.int .i64 r):=aC a rfl;have z:=O (f.blk W.out id);have A:=aC z.out (uV (l:=l.take k) G);rw[H] at A;clear a j f))
    go_ret;exact⟨rfl,N.trans u.out⟩
   by_cases h4:4096≤r
   ·have m:Q=false:=D.out (.inl (by unfold lH;simp;omega))
    have d4:decide (4096≤r)=true:=decide_eq_true h4;subst m
    go_wp2_with (first
     | ((with_reducible show WL _ (.load 93 (.tmp 10)));refine wpList_load_mid rfl 93 (.tmp 10) rfl g (o+k*2) rfl (aO ⟨(d:Int),r⟩) _ X.out bY rfl cK ?_)
     | ((with_reducible show WL (some 5) (.alloc 93));refine aG rfl 93 rfl eN eI #[.int .i64 0,.int .i64 0] rfl ?_)
     | ((with_reducible show WL none (.store 93 (.tmp 5) (.tmp 11)));refine aE rfl 93 (.tmp 5) (.tmp 11) rfl wr.heap.size 0 (aO ⟨(d:Int),r⟩) rfl rfl #[.int .i64 0,.int .i64 0] 93 (heap_alloc_new _ _) (Nat.le_refl _) cK (bV _) ?_
        intro q a j;rw[aI _ _ (by rfl)] at a;have f:aA aB wr q:=((aA.refl aB wr).alloc _).tT j (fun i Y e=>by omega);have u:=O f;have E:q.cell? ⟨wr.heap.size,0,none⟩=some (.int .i64 (d:Int)):=aC a rfl;have F:q.cell? ⟨wr.heap.size,1,none⟩=some (.int .i64 r):=aC a rfl;have z:=O (f.blk W.out id);have A:=aC z.out (uV (l:=l.take k) G);rw[H] at A;clear a j f))
    go_ret;exact⟨rfl,N.trans u.out⟩
   go_wp2_with (first
    | ((with_reducible show WL _ (.load 93 (.tmp 10)));refine wpList_load_mid rfl 93 (.tmp 10) rfl g (o+k*2) rfl (aO ⟨(d:Int),r⟩) _ X.out bY rfl cK ?_)
    | ((with_reducible show WL (some 5) (.alloc 93));refine aG rfl 93 rfl eN eI #[.int .i64 0,.int .i64 0] rfl ?_)
    | ((with_reducible show WL none (.store 93 (.tmp 5) (.tmp 11)));refine aE rfl 93 (.tmp 5) (.tmp 11) rfl wr.heap.size 0 (aO ⟨(d:Int),r⟩) rfl rfl #[.int .i64 0,.int .i64 0] 93 (heap_alloc_new _ _) (Nat.le_refl _) cK (bV _) ?_
       intro q a j;rw[aI _ _ (by rfl)] at a;have f:aA aB wr q:=((aA.refl aB wr).alloc _).tT j (fun i Y e=>by omega);have u:=O f;have E:q.cell? ⟨wr.heap.size,0,none⟩=some (.int .i64 (d:Int)):=aC a rfl;have F:q.cell? ⟨wr.heap.size,1,none⟩=some (.int .i64 r):=aC a rfl;have z:=O (f.blk W.out id);have A:=aC z.out (uV (l:=l.take k) G);have q1:=bP z.out d;rw[H] at A;clear a j f))
   have qr:Hid (aA (fun i=>i=K) w1 (q.setCell ⟨K,d,none⟩ (.bool true))):=O ((qc.trans' u.out (U:=fun i=>i=K) (fun _ _ h=>h) (fun _ _ h=>h.elim)).setCell (p:=⟨K,d,none⟩) (fun _=>rfl) _);have qu:Hid ((q.setCell ⟨K,d,none⟩ (.bool true)).heap[K]?=some (.cells (sA (l.take (k+1))).toArray 317 (0,0))):=O (by rw[cH z.out,MS (s:=r) G,←qe.out])
   have qp:Hid ((l.take (k+1)).all lH=true/\((l.take (k+1)).map (·.dev)).Nodup):=O (by
    rw[qe.out];refine⟨?_,?_⟩
    ·rw[List.all_append,HI.1]
     unfold lH;simp;omega
    ·rw[List.map_append,List.nodup_append]
     refine⟨HI.2,by simp,fun x hx y hy e=>?_⟩;subst e;have e2:x=(d:Int):=by simpa using hy
     rw[e2] at hx;exact qt.out hx)
   go_roundw
   case rel=>exact⟨k+1,by omega,by go_num,qu,qp,qr⟩
   case measure=>simp[intOf];omega
  ·have m:Q=false:=D.out (.inr (of_decide_eq_true qd.out))
   subst m
   go_wp2_with (first
    | ((with_reducible show WL _ (.load 93 (.tmp 10)));refine wpList_load_mid rfl 93 (.tmp 10) rfl g (o+k*2) rfl (aO ⟨(d:Int),r⟩) _ X.out bY rfl cK ?_)
    | ((with_reducible show WL (some 5) (.alloc 93));refine aG rfl 93 rfl eN eI #[.int .i64 0,.int .i64 0] rfl ?_)
    | ((with_reducible show WL none (.store 93 (.tmp 5) (.tmp 11)));refine aE rfl 93 (.tmp 5) (.tmp 11) rfl wr.heap.size 0 (aO ⟨(d:Int),r⟩) rfl rfl #[.int .i64 0,.int .i64 0] 93 (heap_alloc_new _ _) (Nat.le_refl _) cK (bV _) ?_
       intro q a j;rw[aI _ _ (by rfl)] at a;have f:aA aB wr q:=((aA.refl aB wr).alloc _).tT j (fun i Y e=>by omega);have u:=O f;have E:q.cell? ⟨wr.heap.size,0,none⟩=some (.int .i64 (d:Int)):=aC a rfl;have F:q.cell? ⟨wr.heap.size,1,none⟩=some (.int .i64 r):=aC a rfl;have z:=O (f.blk W.out id);have A:=aC z.out (uV (l:=l.take k) G);rw[H] at A;clear a j f))
   go_ret;exact⟨rfl,N.trans u.out⟩
 ·obtain rfl:n=k:=by omega
  have m:Q=(decide (1≤n) && decide (n≤3)):=by
   rw[←Z.out,←HN.out];have R:=HI.out;rw[List.take_of_length_le (by rw[HN.out];exact Nat.le_refl _)] at R;exact O5 R.1 R.2
  have qa:=O m;obtain⟨t1,qm⟩:=zX9 (decide (1≤n))
  obtain⟨t2,qn⟩:=zX9 (decide (n≤3))
  have q3:decide ((1:Int)≤(n:Int))=t1:=by rw[←qm];exact decide_eq_decide.2 (by omega)
  have q4:decide ((n:Int)≤3)=t2:=by rw[←qn];exact decide_eq_decide.2 (by omega)
  rw[qm,qn] at qa;clear m
  cases t1<;>cases t2<;>(
   go_wp2;go_ret;exact⟨by rw[qa.out];rfl,N.out⟩)
def rF(w:World)(b:Bool)(e:Ending)(w':World):Prop:=e=.returned (.int .i64 (if b then 0 else 2))/\aA aB w w'
theorem EI{p:Pt}(h:p.hole=true):p.may=true:=by unfold Pt.may;rw[h];rfl
theorem qC(w:World)(v:Value)(p:Pt)(h0:PtV w v p):Calls prog 117 #[.agg (aL v p).toArray] w (rF w p.may):=by
 obtain⟨u,r,hv,-,-⟩:=h0.rd.form;subst hv;obtain⟨n,U⟩:=zX9 p.addrs.length
 have HN:=O U;have y:=h0;rw[U] at y ⊢;obtain⟨w1,W,E,z,V⟩:=aM w (aL (.slice u n r) p).toArray 33;obtain⟨m,q,c0,X⟩:=dD (aD z);have S:=O X;have Q:=O z;have s:(aL (.slice u n r) p).length=35:=bB y.sum;simp only[Nat.zero_add] at m q c0;have A:=O (rE w1 _ p (y.keep E fun _ _=>id));have C:=O (fun wx (k:aA aB w wx)=>Kl wx (.slice u n r) p.addrs h0.ads (y.rd.keep k fun _ _=>id));have h:=O E;obtain⟨t1,G⟩:∃t:Bool,p.hole=t:=⟨_,rfl⟩
 obtain⟨Z,H⟩:∃t:Bool,sV p.addrs=t:=⟨_,rfl⟩
 obtain⟨t3,I⟩:∃t:Bool,decide (1≤p.birth)=t:=⟨_,rfl⟩
 obtain⟨t4,J⟩:∃t:Bool,decide (p.birth≤2147483648)=t:=⟨_,rfl⟩
 obtain⟨t5,K⟩:∃t:Bool,decide (0≤p.level)=t:=⟨_,rfl⟩
 obtain⟨t6,L⟩:∃t:Bool,decide (p.level≤3)=t:=⟨_,rfl⟩
 have Y:p.may=(t1 || (Z && (t3 && t4 && t5 && t6))):=by unfold Pt.may Pt.numsB;rw[G,H,I,J,K,L]
 have D:=O Y;rw[G] at A;rw[H] at C;have a:=O (aD Q.out);obtain⟨M,F⟩:=zX9 (aL (.slice u n r) p)
 have j:=O F;rw[F] at W A s a ⊢;clear Y G H z X E V F h0 y Q S U;cases t1
 ·skip
  cases Z
  ·skip
   go_in
   go_wp2_with (first
    | ((with_reducible show WL _ (.load 33 (.tmp 1)));refine aP (by rfl) 33 (.tmp 1) rfl (w.heap.size) 0 rfl M _ a.out bJ rfl (cI s) ?_))
   refine A.mono ?_;rintro e N ⟨rfl,f⟩;have a:=O (f.rangeAt a.out);have h:=O (h.trans f);obtain⟨m,q,c0,-⟩:=dD (p:=p) (v:=(.slice u n r)) (by rw[j.out];exact a.out);simp only[Nat.zero_add] at m q c0;clear f;go_wp2_with fail;refine(C _ h.out).mono ?_;rintro e R ⟨rfl,f⟩;have a:=O (f.rangeAt a.out);have h:=O (h.trans f);obtain⟨m,q,c0,-⟩:=dD (p:=p) (v:=(.slice u n r)) (by rw[j.out];exact a.out);simp only[Nat.zero_add] at m q c0;clear f;go_wp2;go_ret;exact⟨by rw[D.out];rfl,h.out⟩
  ·skip
   cases t3
   ·have y3:decide (p.birth<1)=true:=decide_eq_true (by have:=of_decide_eq_false I;omega)
    go_in
    go_wp2_with (first
     | ((with_reducible show WL _ (.load 33 (.tmp 1)));refine aP (by rfl) 33 (.tmp 1) rfl (w.heap.size) 0 rfl M _ a.out bJ rfl (cI s) ?_))
    refine A.mono ?_;rintro e N ⟨rfl,f⟩;have a:=O (f.rangeAt a.out);have h:=O (h.trans f);obtain⟨m,q,c0,-⟩:=dD (p:=p) (v:=(.slice u n r)) (by rw[j.out];exact a.out);simp only[Nat.zero_add] at m q c0;clear f;go_wp2_with fail;refine(C _ h.out).mono ?_;rintro e R ⟨rfl,f⟩;have a:=O (f.rangeAt a.out);have h:=O (h.trans f);obtain⟨m,q,c0,-⟩:=dD (p:=p) (v:=(.slice u n r)) (by rw[j.out];exact a.out);simp only[Nat.zero_add] at m q c0;clear f;go_wp2;go_ret;exact⟨by rw[D.out];rfl,h.out⟩
   ·have y3:decide (p.birth<1)=false:=decide_eq_false (by have:=of_decide_eq_true I;omega)
    cases t4
    ·have y4:decide (2147483648<p.birth)=true:=decide_eq_true (by have:=of_decide_eq_false J;omega)
     go_in
     go_wp2_with (first
      | ((with_reducible show WL _ (.load 33 (.tmp 1)));refine aP (by rfl) 33 (.tmp 1) rfl (w.heap.size) 0 rfl M _ a.out bJ rfl (cI s) ?_))
     refine A.mono ?_;rintro e N ⟨rfl,f⟩;have a:=O (f.rangeAt a.out);have h:=O (h.trans f);obtain⟨m,q,c0,-⟩:=dD (p:=p) (v:=(.slice u n r)) (by rw[j.out];exact a.out);simp only[Nat.zero_add] at m q c0;clear f;go_wp2_with fail;refine(C _ h.out).mono ?_;rintro e R ⟨rfl,f⟩;have a:=O (f.rangeAt a.out);have h:=O (h.trans f);obtain⟨m,q,c0,-⟩:=dD (p:=p) (v:=(.slice u n r)) (by rw[j.out];exact a.out);simp only[Nat.zero_add] at m q c0;clear f;go_wp2;go_ret;exact⟨by rw[D.out];rfl,h.out⟩
    ·have y4:decide (2147483648<p.birth)=false:=decide_eq_false (by have:=of_decide_eq_true J;omega)
     cases t5
     ·have y5:decide (p.level<0)=true:=decide_eq_true (by have:=of_decide_eq_false K;omega)
      go_in
      go_wp2_with (first
       | ((with_reducible show WL _ (.load 33 (.tmp 1)));refine aP (by rfl) 33 (.tmp 1) rfl (w.heap.size) 0 rfl M _ a.out bJ rfl (cI s) ?_))
      refine A.mono ?_;rintro e N ⟨rfl,f⟩;have a:=O (f.rangeAt a.out);have h:=O (h.trans f);obtain⟨m,q,c0,-⟩:=dD (p:=p) (v:=(.slice u n r)) (by rw[j.out];exact a.out);simp only[Nat.zero_add] at m q c0;clear f;go_wp2_with fail;refine(C _ h.out).mono ?_;rintro e R ⟨rfl,f⟩;have a:=O (f.rangeAt a.out);have h:=O (h.trans f);obtain⟨m,q,c0,-⟩:=dD (p:=p) (v:=(.slice u n r)) (by rw[j.out];exact a.out);simp only[Nat.zero_add] at m q c0;clear f;go_wp2;go_ret;exact⟨by rw[D.out];rfl,h.out⟩
     ·have y5:decide (p.level<0)=false:=decide_eq_false (by have:=of_decide_eq_true K;omega)
      cases t6
      ·have y6:decide (3<p.level)=true:=decide_eq_true (by have:=of_decide_eq_false L;omega)
       go_in
       go_wp2_with (first
        | ((with_reducible show WL _ (.load 33 (.tmp 1)));refine aP (by rfl) 33 (.tmp 1) rfl (w.heap.size) 0 rfl M _ a.out bJ rfl (cI s) ?_))
       refine A.mono ?_;rintro e N ⟨rfl,f⟩;have a:=O (f.rangeAt a.out);have h:=O (h.trans f);obtain⟨m,q,c0,-⟩:=dD (p:=p) (v:=(.slice u n r)) (by rw[j.out];exact a.out);simp only[Nat.zero_add] at m q c0;clear f;go_wp2_with fail;refine(C _ h.out).mono ?_;rintro e R ⟨rfl,f⟩;have a:=O (f.rangeAt a.out);have h:=O (h.trans f);obtain⟨m,q,c0,-⟩:=dD (p:=p) (v:=(.slice u n r)) (by rw[j.out];exact a.out);simp only[Nat.zero_add] at m q c0;clear f;go_wp2;go_ret;exact⟨by rw[D.out];rfl,h.out⟩
      ·have y6:decide (3<p.level)=false:=decide_eq_false (by have:=of_decide_eq_true L;omega)
       go_in
       go_wp2_with (first
        | ((with_reducible show WL _ (.load 33 (.tmp 1)));refine aP (by rfl) 33 (.tmp 1) rfl (w.heap.size) 0 rfl M _ a.out bJ rfl (cI s) ?_))
       refine A.mono ?_;rintro e N ⟨rfl,f⟩;have a:=O (f.rangeAt a.out);have h:=O (h.trans f);obtain⟨m,q,c0,-⟩:=dD (p:=p) (v:=(.slice u n r)) (by rw[j.out];exact a.out);simp only[Nat.zero_add] at m q c0;clear f;go_wp2_with fail;refine(C _ h.out).mono ?_;rintro e R ⟨rfl,f⟩;have a:=O (f.rangeAt a.out);have h:=O (h.trans f);obtain⟨m,q,c0,-⟩:=dD (p:=p) (v:=(.slice u n r)) (by rw[j.out];exact a.out);simp only[Nat.zero_add] at m q c0;clear f;go_wp2;go_ret;exact⟨by rw[D.out];rfl,h.out⟩
 ·skip
  go_in
  go_wp2_with (first
   | ((with_reducible show WL _ (.load 33 (.tmp 1)));refine aP (by rfl) 33 (.tmp 1) rfl (w.heap.size) 0 rfl M _ a.out bJ rfl (cI s) ?_))
  refine A.mono ?_;rintro e N ⟨rfl,f⟩;have a:=O (f.rangeAt a.out);have h:=O (h.trans f);obtain⟨m,q,c0,-⟩:=dD (p:=p) (v:=(.slice u n r)) (by rw[j.out];exact a.out);simp only[Nat.zero_add] at m q c0;clear f;go_wp2;go_ret;exact⟨by rw[D.out];rfl,h.out⟩
theorem uW(w:World)(v:Value)(u:Ub)(h0:UbV w v u):Calls prog 78 #[.agg (aV v u).toArray] w (rF w u.may):=by
 obtain⟨q,m,hv,-,-⟩:=h0.root.rd.form;subst hv;obtain⟨n,hn⟩:=zX9 u.root.addrs.length
 rw[hn] at h0 ⊢;obtain⟨w1,qf,qa,G,qe⟩:=aM w (aV (.slice q n m) u).toArray 71;obtain⟨A,r0,C,d0⟩:=gI h0.root.sum (aD G);obtain⟨D,E,F,-⟩:=dD r0;have qc:=O d0;have a:=O r0;have K:=O G;have r:(aL (.slice q n m) u.root).length=35:=bB h0.root.sum;have qd:(u.pool.map vb).length=32:=by rw[List.length_map];exact h0.pool
 simp only[Nat.zero_add] at A C D E F;have L:=O (fun wx (k:aA aB w wx)=>rE wx (.slice q n m) u.root (h0.root.keep k fun _ _=>id));have Z:=O (fun wx (k:aA aB w wx)=>qC wx (.slice q n m) u.root (h0.root.keep k fun _ _=>id));have j:=O qa;have I:=@EI u.root;obtain⟨t1,N⟩:∃t:Bool,decide (1≤u.txg)=t:=⟨_,rfl⟩
 obtain⟨t2,Q⟩:∃t:Bool,decide (u.txg≤2147483648)=t:=⟨_,rfl⟩
 obtain⟨t3,R⟩:∃t:Bool,decide (0≤u.len)=t:=⟨_,rfl⟩
 obtain⟨t4,S⟩:∃t:Bool,decide (u.len≤16384)=t:=⟨_,rfl⟩
 obtain⟨t5,U⟩:∃t:Bool,u.root.hole=t:=⟨_,rfl⟩
 obtain⟨t6,V⟩:∃t:Bool,u.root.may=t:=⟨_,rfl⟩
 obtain⟨t7,W⟩:∃t:Bool,(u.root.level == 3)=t:=⟨_,rfl⟩
 obtain⟨t8,X⟩:∃t:Bool,decide (u.root.birth≤u.txg)=t:=⟨_,rfl⟩
 have hs:u.may=(t1 && t2 && t3 && t4 && (t5 || (t6 && t7 && t8))):=by unfold Ub.may;rw[N,Q,R,S,U,V,W,X]
 have H:=O hs;rw[U] at L I;rw[V] at Z I;have qg:=O I;obtain⟨J,M⟩:=zX9 (aL (.slice q n m) u.root)
 have y:=O M;obtain⟨uc,Y⟩:=zX9 (aV (.slice q n m) u)
 have z:=O Y;rw[M] at L Z r a;rw[Y] at qf K ⊢;have s:=O h0.root.sum;have f:=O (aD K.out);clear hs U V G d0 r0 qa qe M Y h0 K qc I qd hn;cases t1
 ·have y1:decide (u.txg<1)=true:=decide_eq_true (by have:=of_decide_eq_false N;omega)
  go_in;go_wp2;go_ret;exact⟨by rw[H.out];rfl,j.out⟩
 ·have y1:decide (u.txg<1)=false:=decide_eq_false (by have:=of_decide_eq_true N;omega)
  cases t2
  ·have y2:decide (2147483648<u.txg)=true:=decide_eq_true (by have:=of_decide_eq_false Q;omega)
   go_in;go_wp2;go_ret;exact⟨by rw[H.out];rfl,j.out⟩
  ·have y2:decide (2147483648<u.txg)=false:=decide_eq_false (by have:=of_decide_eq_true Q;omega)
   cases t3
   ·have y3:decide (u.len<0)=true:=decide_eq_true (by have:=of_decide_eq_false R;omega)
    go_in;go_wp2;go_ret;exact⟨by rw[H.out];rfl,j.out⟩
   ·have y3:decide (u.len<0)=false:=decide_eq_false (by have:=of_decide_eq_true R;omega)
    cases t4
    ·have y4:decide (16384<u.len)=true:=decide_eq_true (by have:=of_decide_eq_false S;omega)
     go_in;go_wp2;go_ret;exact⟨by rw[H.out];rfl,j.out⟩
    ·have y4:decide (16384<u.len)=false:=decide_eq_false (by have:=of_decide_eq_true S;omega)
     cases t5
     ·skip
      cases t6
      ·skip
       go_in
       go_wp2_with (first
        | ((with_reducible show WL _ (.load 33 (.tmp 23)));refine aP (by rfl) 33 (.tmp 23) rfl (w.heap.size) 1 rfl J _ a.out bJ rfl (cI r) ?_))
       refine(L _ j.out).mono ?_;rintro e w2 ⟨rfl,h⟩;have a:=O (h.rangeAt a.out);have f:=O (h.rangeAt f.out);have j:=O (j.trans h);obtain⟨A,-,C,-⟩:=gI (u:=u) (v:=.slice q n m) s.out (by rw[z.out];exact f.out);obtain⟨D,E,F,-⟩:=dD (p:=u.root) (v:=.slice q n m) (by rw[y.out];exact a.out);simp only[Nat.zero_add] at A C D E F;clear h
       go_wp2_with (first
        | ((with_reducible show WL _ (.load 33 (.tmp 27)));refine aP (by rfl) 33 (.tmp 27) rfl (w.heap.size) 1 rfl J _ a.out bJ rfl (cI r) ?_))
       refine(Z _ j.out).mono ?_;rintro e w3 ⟨rfl,h⟩;have a:=O (h.rangeAt a.out);have f:=O (h.rangeAt f.out);have j:=O (j.trans h);obtain⟨A,-,C,-⟩:=gI (u:=u) (v:=.slice q n m) s.out (by rw[z.out];exact f.out);obtain⟨D,E,F,-⟩:=dD (p:=u.root) (v:=.slice q n m) (by rw[y.out];exact a.out);simp only[Nat.zero_add] at A C D E F;clear h;go_wp2;go_ret;exact⟨by rw[H.out];rfl,j.out⟩
      ·skip
       cases t7
       ·have y7:(u.root.level != 3)=true:=by simp only[bne,W];rfl
        go_in
        go_wp2_with (first
         | ((with_reducible show WL _ (.load 33 (.tmp 23)));refine aP (by rfl) 33 (.tmp 23) rfl (w.heap.size) 1 rfl J _ a.out bJ rfl (cI r) ?_))
        refine(L _ j.out).mono ?_;rintro e w2 ⟨rfl,h⟩;have a:=O (h.rangeAt a.out);have f:=O (h.rangeAt f.out);have j:=O (j.trans h);obtain⟨A,-,C,-⟩:=gI (u:=u) (v:=.slice q n m) s.out (by rw[z.out];exact f.out);obtain⟨D,E,F,-⟩:=dD (p:=u.root) (v:=.slice q n m) (by rw[y.out];exact a.out);simp only[Nat.zero_add] at A C D E F;clear h
        go_wp2_with (first
         | ((with_reducible show WL _ (.load 33 (.tmp 27)));refine aP (by rfl) 33 (.tmp 27) rfl (w.heap.size) 1 rfl J _ a.out bJ rfl (cI r) ?_))
        refine(Z _ j.out).mono ?_;rintro e w3 ⟨rfl,h⟩;have a:=O (h.rangeAt a.out);have f:=O (h.rangeAt f.out);have j:=O (j.trans h);obtain⟨A,-,C,-⟩:=gI (u:=u) (v:=.slice q n m) s.out (by rw[z.out];exact f.out);obtain⟨D,E,F,-⟩:=dD (p:=u.root) (v:=.slice q n m) (by rw[y.out];exact a.out);simp only[Nat.zero_add] at A C D E F;clear h;go_wp2;go_ret;exact⟨by rw[H.out];rfl,j.out⟩
       ·have y7:(u.root.level != 3)=false:=by simp only[bne,W];rfl
        cases t8
        ·have y8:decide (u.txg<u.root.birth)=true:=decide_eq_true (by have:=of_decide_eq_false X;omega)
         go_in
         go_wp2_with (first
          | ((with_reducible show WL _ (.load 33 (.tmp 23)));refine aP (by rfl) 33 (.tmp 23) rfl (w.heap.size) 1 rfl J _ a.out bJ rfl (cI r) ?_))
         refine(L _ j.out).mono ?_;rintro e w2 ⟨rfl,h⟩;have a:=O (h.rangeAt a.out);have f:=O (h.rangeAt f.out);have j:=O (j.trans h);obtain⟨A,-,C,-⟩:=gI (u:=u) (v:=.slice q n m) s.out (by rw[z.out];exact f.out);obtain⟨D,E,F,-⟩:=dD (p:=u.root) (v:=.slice q n m) (by rw[y.out];exact a.out);simp only[Nat.zero_add] at A C D E F;clear h
         go_wp2_with (first
          | ((with_reducible show WL _ (.load 33 (.tmp 27)));refine aP (by rfl) 33 (.tmp 27) rfl (w.heap.size) 1 rfl J _ a.out bJ rfl (cI r) ?_))
         refine(Z _ j.out).mono ?_;rintro e w3 ⟨rfl,h⟩;have a:=O (h.rangeAt a.out);have f:=O (h.rangeAt f.out);have j:=O (j.trans h);obtain⟨A,-,C,-⟩:=gI (u:=u) (v:=.slice q n m) s.out (by rw[z.out];exact f.out);obtain⟨D,E,F,-⟩:=dD (p:=u.root) (v:=.slice q n m) (by rw[y.out];exact a.out);simp only[Nat.zero_add] at A C D E F;clear h;go_wp2;go_ret;exact⟨by rw[H.out];rfl,j.out⟩
        ·have y8:decide (u.txg<u.root.birth)=false:=decide_eq_false (by have:=of_decide_eq_true X;omega)
         go_in
         go_wp2_with (first
          | ((with_reducible show WL _ (.load 33 (.tmp 23)));refine aP (by rfl) 33 (.tmp 23) rfl (w.heap.size) 1 rfl J _ a.out bJ rfl (cI r) ?_))
         refine(L _ j.out).mono ?_;rintro e w2 ⟨rfl,h⟩;have a:=O (h.rangeAt a.out);have f:=O (h.rangeAt f.out);have j:=O (j.trans h);obtain⟨A,-,C,-⟩:=gI (u:=u) (v:=.slice q n m) s.out (by rw[z.out];exact f.out);obtain⟨D,E,F,-⟩:=dD (p:=u.root) (v:=.slice q n m) (by rw[y.out];exact a.out);simp only[Nat.zero_add] at A C D E F;clear h
         go_wp2_with (first
          | ((with_reducible show WL _ (.load 33 (.tmp 27)));refine aP (by rfl) 33 (.tmp 27) rfl (w.heap.size) 1 rfl J _ a.out bJ rfl (cI r) ?_))
         refine(Z _ j.out).mono ?_;rintro e w3 ⟨rfl,h⟩;have a:=O (h.rangeAt a.out);have f:=O (h.rangeAt f.out);have j:=O (j.trans h);obtain⟨A,-,C,-⟩:=gI (u:=u) (v:=.slice q n m) s.out (by rw[z.out];exact f.out);obtain⟨D,E,F,-⟩:=dD (p:=u.root) (v:=.slice q n m) (by rw[y.out];exact a.out);simp only[Nat.zero_add] at A C D E F;clear h;go_wp2;go_ret;exact⟨by rw[H.out];rfl,j.out⟩
     ·skip
      go_in
      go_wp2_with (first
       | ((with_reducible show WL _ (.load 33 (.tmp 23)));refine aP (by rfl) 33 (.tmp 23) rfl (w.heap.size) 1 rfl J _ a.out bJ rfl (cI r) ?_))
      refine(L _ j.out).mono ?_;rintro e w2 ⟨rfl,h⟩;have a:=O (h.rangeAt a.out);have f:=O (h.rangeAt f.out);have j:=O (j.trans h);obtain⟨A,-,C,-⟩:=gI (u:=u) (v:=.slice q n m) s.out (by rw[z.out];exact f.out);obtain⟨D,E,F,-⟩:=dD (p:=u.root) (v:=.slice q n m) (by rw[y.out];exact a.out);simp only[Nat.zero_add] at A C D E F;clear h;go_wp2;go_ret;exact⟨by rw[H.out];rfl,j.out⟩
open Go.RowKit Go.Maps Go.ChangeMaps
set_option maxRecDepth 100000
set_option linter.unusedVariables false
theorem O6(n k r:Nat)(h:r<k):(be n k).take (r+1)=(be n k).take r++[jH n k r]:=by
 unfold be;rw[List.take_add_one,List.getElem?_map,List.getElem?_range h];rfl
def O7(w:World)(base:Nat)(v:Value)(l:List UInt8)(e:Ending)(w':World):Prop:=
 ∃a,e=.returned a/\w'.ownsRow base 5 1 a l.length (l.map vb)/\(a.ownBlock=v.ownBlock\/∀i,a.ownBlock=some i->w.heap.size≤i)/\aA (fun i=>v.ownBlock=some i) w w'
theorem lX(w:World)(base:Nat)(v:Value)(l:List UInt8)(n k:Nat)(ho:w.ownsRow base 5 1 v l.length (l.map vb))(hb:base≤w.heap.size)(h1:1≤k)(hk:k≤4)(hl:l.length≤1000)(hn:n≤9223372036854775807) :
 Calls prog 239 #[v,.int .i64 (n:Int),.int .i64 (k:Int)] w (O7 w base v (l++be n k)):=by
 have X:=O ho;obtain⟨D,C,rfl,-,-⟩:=(Rd.of_owns ho).form;obtain⟨q,hq⟩:=zX9 l.length
 have HQ:=O hq;rw[hq] at X hl ⊢;clear ho hq;go_in;go_wp2_with fail
 go_loopw [0,7] (fun t i wr=>∃(r:Nat) (a:Int) (pa:Option Addr) (E:Nat),r≤k/\a=(k:Int)-1-(r:Int)/\t=.slice pa (q+r) E/\i=.int .i64 a/\Hid (wr.ownsRow base 5 1 (.slice pa (q+r) E) (q+r) ((l++(be n k).take r).map vb))/\Hid ((Value.slice pa (q+r) E).ownBlock=(Value.slice D q C).ownBlock\/∀i,(Value.slice pa (q+r) E).ownBlock=some i->w.heap.size≤i)/\Hid (aA (fun i=>(Value.slice D q C).ownBlock=some i) w wr)) (fun _ i _=>(intOf i+1).toNat)
 case atStart=>exact⟨0,(k:Int)-1,D,C,Nat.zero_le _,by omega,rfl,by go_num,O (by rw[List.take_zero,List.append_nil];exact X.out),O (.inl rfl),O (aA.refl _ _)⟩
 case round =>
 clear X;obtain⟨r,a,pa,E,hr,x,rfl,rfl,HR,Q,L⟩:=hrel
 by_cases qe:r<k
 ·have s:(0:Int)≤a:=by omega
  have qd:a≤3:=by omega
  obtain⟨j,hj⟩:∃j:Nat,a=(j:Int):=⟨a.toNat,by omega⟩
  have G:j=k-r-1:=by omega
  have qk:j≤3:=by omega
  have y:=uS n k r;rw[←G] at y;have HV:Hid (Value.int .u8 ((n:Int) / 2 ^ (8*j) % 256)=vb (jH n k r)):=O (by unfold vb;rw[y]);have hd:0≤a:=s;obtain⟨w8,K,z,m,qg⟩:=aM wr #[.int .u8 ((n:Int) / 2 ^ (8*j) % 256)] 5;obtain⟨bz,p⟩:=zX9 wr.heap.size
  rw[p] at m;have qa:Hid (Rd w8 1 (.slice bz 1 1) 1 [vb (jH n k r)]):=O (by rw[←HV.out];exact eL (n:=1) (size:=1) (vs:=[.int .u8 ((n:Int) / 2 ^ (8*j) % 256)]) m rfl (by unfold maxLen;omega));have Z:=O (z.owns HR.out fun _ _=>id);have f:=O (L.trans' z (U:=fun i=>(Value.slice D q C).ownBlock=some i) (fun _ _ h=>h) (fun _ _ h=>h.elim));have J:base≤w8.heap.size:=Nat.le_trans hb f.size;have S:=O p;have qh:=O L.size;have I:∀u∈[vb (jH n k r)],u.oneCell'=true:=by intro u hu;rw[List.mem_singleton.1 hu];rfl
  have qc:=O K;subst hj;have V:=O x;have qj:(j:Int)≤3:=qd;clear x z m qg p K y G HR L
  go_wp2_with (first
   | (at_builtin;try rw[qc.out]
      try rw[S.out]
      refine aK rfl (.tmp 14) (.tmp 20) 335 rfl base 5 _ 1 1 underlying335 eW rfl (by omega) (.slice pa (q+r) E) (q+r) ((l++(be n k).take r).map vb) rfl Z.out (.slice bz 1 1) 1 [vb (jH n k r)] rfl qa.out I (by unfold maxLen;omega) (by omega) J ?_;intro v' w9 A H qf F;obtain⟨M,N,rfl,-,-⟩:=(Rd.of_owns A).form;have Y:Hid (w9.ownsRow base 5 1 (.slice M (q+(r+1)) N) (q+(r+1)) ((l++(be n k).take (r+1)).map vb)):=O (by rw[O6 n k r qe,←List.append_assoc,List.map_append,List.map_singleton];exact A)
      have R:Hid ((Value.slice M (q+r+1) N).ownBlock=(Value.slice D q C).ownBlock\/∀i,(Value.slice M (q+r+1) N).ownBlock=some i->w.heap.size≤i):=O (by
       rcases F with h|h
       ·rw[h]
        exact Q.out
       ·refine .inr fun i hi=>?_
        rw[h] at hi;cases hi
        exact f.size)
      have W:=O (f.trans' H (U:=fun i=>(Value.slice D q C).ownBlock=some i) (fun _ _ h=>h) (fun i hi e=>by
       rcases Q.out with h|h
       ·rw[←h];exact e
       ·have:=h i e;omega))
      clear A H qf F))
  go_roundw
  case rel=>exact⟨r+1,(j:Int)-1,M,N,by omega,by have:=V.out;omega,rfl,by go_num,Y,R,W⟩
  case measure=>simp[intOf]
 ·obtain rfl:k=r:=by omega
  have s:¬(0:Int)≤a:=by omega
  have hd:decide ((0:Int)≤a)=false:=decide_eq_false s;have qi:a<0:=by omega
  clear x;go_wp2;go_ret;refine⟨_,rfl,?_,Q.out,L.out⟩;have h:=HR.out;rw[List.take_of_length_le (by rw[bK];exact Nat.le_refl _)] at h;rw[List.length_append,bK,HQ.out];exact h
theorem EJ{t u e:TypeId}{a:TypeDesc}(f:P.underlying t=some (.slice e))(m:P.underlying u=some a)(j:(a matches .int _)=false)(h:TypeId)(args:Array Value)(w:World) :
 (Builtin.append_ #[t,u] h args).run P w=(Builtin.append_ #[t,t] h args).run P w:=by
 unfold Builtin.append_;rcases h0:args[0]? with _|s
 ·simp
 rcases p:args[1]? with _|x
 ·simp
 simp only[List.getElem?_toArray,List.getElem?_cons_zero,List.getElem?_cons_succ];simp only[Sem.run_bind,run_underlying f,Result.andThen_ok];cases s<;>try rfl
 simp only[Sem.run_bind,run_underlying f,run_underlying m,Result.andThen_ok,Sem.run_pure];cases a<;>first|rfl|(simp at j)|skip
theorem zJ{D:Array Oper}{rest:List Oper}{o:Oper}{a:Act}{Q:Exit->Act->World->Prop}(H:o.guard=none)(s x:Operand)(t u:TypeId)
 (ho:o.op=.call { callee:=.builtin .append,args:=#[s,x],argTypes:=#[t,u] }) (S:TypeDesc) (hu:P.underlying u=some S) (G:(S matches .int _)=false)
 (base:Nat) (e:TypeId) (z:Value) (size bytes:Nat) (V:P.underlying t=some (.slice e)) (A:(P.info? e).map (fun i=>(i.zero,i.size,i.bytes))=some (some z,size,bytes)) (N:z.cells.size=size) (I:0<size)
 (v:Value) (n:Nat) (R:List Value) (hs:a.eval s=v) (C:w.ownsRow base e size v n R)
 (E:Addr) (m c:Nat) (f:List Value) (hx:a.eval x=.slice (some E) m c) (hl:f.length=m*size) (q:∀j u,f[j]?=some u->w.cell? (E.add j)=some u) (W:∀u∈f,u.oneCell'=true)
 (F:n+m≤maxLen) (p:(n+m)*bytes≤140737488355328) (r:base≤w.heap.size)
 (h:∀y w',w'.ownsRow base e size y (n+m) (R++f)->aA (fun k=>v.ownBlock=some k) w w'->(y.ownBlock=v.ownBlock\/y.ownBlock=some w.heap.size)->wpList P D Q rest (a.put o.dst y) w'):wpList P D Q (o::rest) a w:=by
 obtain⟨i,hi,J,L,M⟩:=info_parts A;refine wpList_plain H fun K hK=>?_
 obtain⟨y,w',U,X,Y,h4,Z⟩:=run_append_own_at (P:=P) w base t o.type e i z size bytes V hi J L M N I v n R C E m c f hl q W F p r;rw[←EJ V hu G] at U;unfold Oper.wp execOp;simp only[ho,resolve,invoke,builtin,Sem.run_bind,Sem.run_pure,Result.andThen_ok,List.map_toArray,List.map_cons,List.map_nil,hs,hx,U];exact hK _ _ (h y w' X (aA.of_grown Y) Z)
open Go.RowKit Go.Maps Go.ChangeMaps
set_option maxRecDepth 100000
set_option linter.unusedVariables false
def zAd:Ad:=⟨0,0⟩
def Qa(a:Ad):List UInt8:=be a.dev.toNat 1++be a.sec.toNat 2
def cF(p:Pt)(k:Nat):List UInt8:=be p.addrs.length 1++(List.range k).flatMap fun i=>Qa (p.addrs.getD i zAd)
def cC(p:Pt):List UInt8:=cF p 3++be p.birth.toNat 4++be p.level.toNat 1++p.sum
def ptB(p:Pt):List UInt8:=if p.may then cC p else []
theorem sW(p:Pt)(k:Nat):cF p (k+1)=cF p k++be (p.addrs.getD k zAd).dev.toNat 1++be (p.addrs.getD k zAd).sec.toNat 2:=by
 unfold cF;rw[List.range_succ,List.flatMap_append,List.append_assoc,List.append_assoc];simp[Qa]
theorem fF(p:Pt)(k:Nat):(cF p k).length=1+3*k:=by
 induction k with
 | zero=>simp[cF,bK]
 | succ k a=>rw[sW,List.length_append,List.length_append,a,bK,bK];omega
theorem lM{p:Pt}(h:p.sum.length=32):(cC p).length=47:=by
 unfold cC;simp only[List.length_append,fF,bK,h]
theorem pD{p:Pt}(h:p.may=true):p.addrs.length≤3/\(∀a∈p.addrs,lH a=true)/\0≤p.birth/\p.birth≤2147483648/\0≤p.level/\p.level≤3:=by
 unfold Pt.may at h;rw[Bool.or_eq_true] at h;rcases h with h|h
 ·unfold Pt.hole Pt.noth at h
  simp only[Bool.and_eq_true,beq_iff_eq,decide_eq_true_eq] at h;have h0:p.addrs=[]:=List.eq_nil_of_length_eq_zero (by omega);rw[h0];exact⟨by simp,by simp,by omega,by omega,by omega,by omega⟩
 ·unfold sV Pt.numsB at h
  simp only[Bool.and_eq_true,decide_eq_true_eq,List.all_eq_true] at h;exact⟨h.1.2,h.1.1.1.1,by omega,by omega,by omega,by omega⟩
theorem Km(h:∀a∈l,lH a=true)(k:Nat):∃d s:Nat,l.getD k zAd=⟨(d:Int),(s:Int)⟩/\d<8/\s<4096:=by
 rw[List.getD_eq_getElem?_getD];cases e:l[k]? with
 | none=>exact⟨0,0,rfl,by omega,by omega⟩
 | some a =>
   have:=h a (List.mem_of_getElem? e);unfold lH at this;simp only[Bool.and_eq_true,decide_eq_true_eq] at this;obtain⟨x,y⟩:=a;simp only at this;exact⟨x.toNat,y.toNat,by show (⟨x,y⟩:Ad)=_;rw[Int.toNat_of_nonneg (by omega),Int.toNat_of_nonneg (by omega)],by omega,by omega⟩
def Kn(w:World)(p:Pt)(e:Ending)(w':World):Prop:=
 ∃v,e=.returned (.tuple #[v,.int .i64 (if p.may then 0 else 2)])/\w'.ownsRow w.heap.size 5 1 v (ptB p).length ((ptB p).map vb)/\aA aB w w'
theorem CY(w:World)(v:Value)(p:Pt)(h0:PtV w v p):Calls prog 203 #[.agg (aL v p).toArray] w (Kn w p):=by
 obtain⟨oa,ca,hv,-,-⟩:=h0.rd.form;subst hv;obtain⟨n,hn⟩:=zX9 p.addrs.length
 have HN:=O hn;rw[hn] at h0 ⊢;obtain⟨w1,vj,ze,qw,ve⟩:=aM w (aL (.slice oa n ca) p).toArray 33;obtain⟨a0,b0,c0,d0⟩:=dD (aD qw);have x0:=O d0;have q4:=O qw;have zw:(aL (.slice oa n ca) p).length=35:=bB h0.sum;simp only[Nat.zero_add] at a0 b0 c0;have HC:=O (qC w1 _ p (h0.keep ze fun _ _=>id));have HK:=O ze;have z6:=O ze;have x1:=O h0.rd;obtain⟨t,ht⟩:=zX9 p.may
 have HT:=O ht;rw[ht] at HC;have qv:=O (aD q4.out);have xc:=O h0.sum;obtain⟨pc,zz⟩:=zX9 (aL (.slice oa n ca) p)
 have x4:=O zz;rw[zz] at vj HC zw qv ⊢;have vt:=O (aA.refl aB w1);have xn:w.heap.size<w1.heap.size:=by omega
 obtain⟨pb,zy⟩:=zX9 w.heap.size
 have zd:=O zy;rw[zy] at a0 b0 c0 qv xn;have x2:Hid (w1.rangeAt pb 0 pc):=qv;clear ht qw d0 ze ve zz h0 q4 x0 hn zy;cases t
 ·go_in
  go_wp2_with (first
   | ((with_reducible show WL _ (.load 33 (.tmp 1)));refine aP (by rfl) 33 (.tmp 1) rfl (w.heap.size) 0 rfl pc _ (by rw[zd.out];exact qv.out) bJ rfl (cI zw) ?_))
  refine HC.mono ?_;rintro e w2 ⟨rfl,hk⟩;have q9:=O hk;have HK:=O (HK.trans hk);clear hk HC;go_wp2
  go_ret2
  exact⟨_,by rw[HT.out];rfl,by rw[show ptB p=[] by unfold ptB;rw[HT.out];rfl];exact World.ownsRow_nil _ _ _ _,HK.out⟩
 ·obtain⟨vc,xi,x6,zo,xl,va⟩:=pD HT.out
  rw[HN.out] at vc;have xy:=O xi;obtain⟨bi,zr⟩:∃b:Nat,p.birth=(b:Int):=⟨p.birth.toNat,by omega⟩
  obtain⟨le,zx⟩:∃b:Nat,p.level=(b:Int):=⟨p.level.toNat,by omega⟩
  have vo:bi≤2147483648:=by omega
  have vp:le≤3:=by omega
  have xw:=O zr;have xz:=O zx;rw[zr] at b0;rw[zx] at c0;have zj:=O a0;have q4:=O b0;have xx:=O c0;clear xi x6 zo xl va zr zx;go_in
  go_wp2_with (first
   | ((with_reducible show WL _ (.load 33 (.tmp 1)));refine aP (by rfl) 33 (.tmp 1) rfl (w.heap.size) 0 rfl pc _ (by rw[zd.out];exact qv.out) bJ rfl (cI zw) ?_))
  refine HC.mono ?_;rintro e w2 ⟨rfl,hk⟩;have q9:=O hk;have HK:=O (HK.trans hk);clear hk HC;obtain⟨w3,xo,zt,x7,vf⟩:=aM w2 #[] 5;obtain⟨B,hB⟩:=zX9 w1.heap.size
  have M:=O hB;have vq:pb<B:=by omega
  have xf:B≤w2.heap.size:=by rw[←hB];exact q9.size
  obtain⟨q0,xm⟩:=zX9 w2.heap.size
  have xa:Hid (w3.ownsRow B 5 1 (.slice q0 0 0) 0 []):=O (by rw[←xo,←xm];exact aQ (World.ownsRow_made w2 #[] 0 (Nat.le_refl _) (by unfold maxLen;omega) rfl) xf);have zk:=O (q9.trans zt);have a0:=zk.cell zj.out id;have x5:B≤w3.heap.size:=Nat.le_trans xf zt.size;have vr:B≤q0:=by omega
  clear zt x7 vf hB b0 c0 q9;rw[zd.out];go_wp2_with fail;refine(lX w3 B _ [] n 1 xa.out x5 (by omega) (by omega) (by simp) (by omega)).mono ?_;rintro e w4 ⟨v4,rfl,zf,zo,xj⟩
  have z2:=O (zk.trans' xj (U:=aB) (fun _ _ h=>h) (fun i H e=>by
   have e':q0=i:=Option.some.inj e;have:=M.out;omega))
  obtain⟨pa,xq,rfl,-,-⟩:=(Rd.of_owns zf).form;have qx:([]++be n 1:List UInt8).length=1:=by simp[bK]
  rw[qx] at zf ⊢
  have xb:Hid (w4.ownsRow B 5 1 (.slice pa 1 xq) 1 ((cF p 0).map vb)):=O (by
   have e:cF p 0=[]++be n 1:=by unfold cF;rw[HN.out];simp
   rw[e];exact zf)
  clear zf zo xj xa zk qx a0 xo xm;go_wp2_with fail
  go_loopw [5,18] (fun t i wr=>∃(k X:Nat) (pa:Option Addr) (pc:Nat),k≤3/\t=.slice pa X pc/\i=.int .i64 k/\X≤10/\Hid (X=1+3*k)/\Hid (wr.ownsRow B 5 1 (.slice pa X pc) X ((cF p k).map vb))/\Hid (aA aB w1 wr)) (fun _ i _=>3-(intOf i).toNat)
  case atStart=>exact⟨0,1,pa,xq,by omega,rfl,rfl,by omega,O rfl,xb,z2⟩
  case round =>
  clear xb z2;obtain⟨k,X,pa,qi,hk,rfl,rfl,vz,qd,HO,za⟩:=hrel;have a0:=za.cell zj.out id
  by_cases vy:k<3
  ·have vx:(k:Int)<3:=by omega
   have vw:(0:Int)≤(k:Int):=by omega
   obtain⟨d,s,xh,vu,v1⟩:=Km xy.out k;have q7:=O xh;obtain⟨w8,q3,zu,zp,vg⟩:=aM wr #[.int .i64 0,.int .i64 0] 93;obtain⟨K,qg⟩:=zX9 wr.heap.size
   rw[qg] at zp;have qt:Hid (∀i,(Value.slice pa X qi).ownBlock=some i->i<K):=O (fun i H=>by rw[←qg];exact(HO.lt i H).2);have xd:=O q3;have q5:=O zp;have vm:=O qg;have xv:Hid (w1.heap.size≤K):=O (by rw[←qg];exact za.size);have qn:=O (za.trans zu);have zb:=O (zu.owns HO.out fun _ _=>id);have a8:=qn.cell zj.out id;have zg:=x1.keep (z6.trans qn.out) (fun _ _=>id);clear zu zp vg xh a0
   by_cases x9:k<n
   ·have xk:(k:Int)<(n:Int):=by omega
    obtain⟨x,zn⟩:∃x,p.addrs[k]?=some x:=⟨p.addrs[k]'(by rw[HN.out];exact x9),List.getElem?_eq_getElem _⟩
    have vk:x=⟨(d:Int),(s:Int)⟩:=by
     have:=q7.out;rw[List.getD_eq_getElem?_getD,zn] at this;exact this
    subst vk;rw[←HN.out] at zg;obtain⟨g,o,vn,zm,zh⟩:=fT zg zn;rw[HN.out] at zm;have e1:oa=some ⟨g,o,none⟩:=by cases zm;rfl
    subst e1;have HX:=O zh;clear zn zm zh zg
    go_wp2_with (first
     | ((with_reducible show WL (some 7) (.alloc 93));refine aG rfl 93 rfl eN eI #[.int .i64 0,.int .i64 0] rfl ?_;rw[q3,qg])
     | ((with_reducible show WL _ (.load 93 (.tmp 29)));refine wpList_load_mid rfl 93 (.tmp 29) rfl g (o+k*2) rfl (aO ⟨(d:Int),(s:Int)⟩) _ HX.out bY rfl cK ?_)
     | ((with_reducible show WL none (.store 93 (.tmp 7) (.tmp 30)));refine aE rfl 93 (.tmp 7) (.tmp 30) rfl K 0 (aO ⟨(d:Int),(s:Int)⟩) rfl rfl #[.int .i64 0,.int .i64 0] 93 q5.out (Nat.le_refl _) cK (bV _) ?_
        intro w9 zq zv;rw[aI _ _ (by rfl)] at zq;have qm:=O zq;have qo:=O (qn.trans' zv (U:=aB) (fun _ _ h=>h) (fun i H e=>by have:=xv.out;omega));have qp:=O (zv.owns zb.out (fun i H e=>by have:=qt.out i H;omega));clear zq zv))
    clear xd q5 qn zb a8 q3 qg;obtain⟨S,J⟩:∃S:World->Prop,S=fun w'=>aA aB w1 w'/\w'.heap[K]?=some (.cells (aO ⟨(d:Int),(s:Int)⟩).toArray 93 (0,0)):=⟨_,rfl⟩
    have N:=O (show ∀w',S w'->aA aB w1 w' from fun w' h=>by rw[J] at h;exact h.1);have I:=O (show ∀w',S w'->w'.heap[K]?=some (.cells (aO ⟨(d:Int),(s:Int)⟩).toArray 93 (0,0)) from fun w' h=>by rw[J] at h;exact h.2);have D:=O (show ∀w',aA aB w1 w'->w'.heap[K]?=some (.cells (aO ⟨(d:Int),(s:Int)⟩).toArray 93 (0,0))->S w' from fun w' h h2=>by rw[J];exact⟨h,h2⟩);have qj:=O (fun w' (h:S w')=>(aC (I w' h) rfl:w'.cell? ⟨K,0,none⟩=some (.int .i64 (d:Int))));have qk:=O (fun w' (h:S w')=>(aC (I w' h) rfl:w'.cell? ⟨K,1,none⟩=some (.int .i64 (s:Int))));have A:S w9.drew:=D.out _ qo.drew ((aA.refl aB w9).drew.blk qm.out id);have F:=(aA.refl aB w9).drew.owns qp.out (fun _ _=>id);clear J;refine wp_region_held (S:=S) (by kernel_rfl) ?_;change wpAnyH _ _ _ _ _ _ _ _ w9.drew;generalize w9.drew=Y at A F ⊢;refine tka 0 (.slice pa X qi) rfl A ?_;simp only[Act.put,List.setIfInBounds_toArray,List.set_cons_zero,List.set_cons_succ,List.getElem_toArray,List.getElem_cons_zero];refine tnb 1 (.pointer K) rfl A ?_;refine tnd 2 (.int .i64 (d:Int)) rfl (.inl ⟨by rfl,fun w' V=>by have c:=qj.out w' V;go_simp⟩) A ?_;refine tnb 4 (.pointer (some ⟨K,1,none⟩)) rfl A ?_;refine tnd 5 (.int .i64 (s:Int)) rfl (.inl ⟨by rfl,fun w' V=>by have c:=qk.out w' V;go_simp⟩) A ?_;refine wA9 3 ?_;go_wp2_with fail;have L:B≤Y.heap.size:=by rw[←M.out];exact(N _ A).size
    have qh:Y.ownsRow B 5 1 (.slice pa X qi) (cF p k).length ((cF p k).map vb):=by rw[fF,←qd.out];exact F
    refine(lX Y B _ (cF p k) d 1 qh L (by omega) (by omega) (by rw[fF];omega) (by omega)).mono ?_;rintro e W ⟨xr,rfl,z,Q,y⟩;obtain⟨qa,qc,rfl,-,-⟩:=(Rd.of_owns z).form;have E:∀i,(Value.slice pa X qi).ownBlock=some i->B≤i/\i<K:=fun i H=>⟨aX F H,qt i H⟩
    have r:S W:=D.out _ ((N _ A).trans' y (U:=aB) (fun _ _ h=>h) (fun i H e=>by have:=(E i e).1;have:=M.out;omega)) (y.blk (I _ A) (fun e=>by have:=(E K e).2;omega))
    have G:∀i,(Value.slice qa (cF p k++be d 1).length qc).ownBlock=some i->B≤i/\i≠K:=fun i H=>⟨aX z H,by
     rcases Q with h|h
     ·rw[h] at H;have:=(E i H).2;omega
     ·have h1:=h i H
      have h2:=lt_of_block (I _ A);omega⟩
    have m:(cF p k++be d 1).length=X+1:=by rw[List.length_append,fF,bK,qd.out]
    have Z:B≤W.heap.size:=Nat.le_trans L y.size;rw[m] at G ⊢;have f:=z;rw[m] at f;clear A F qh y Q E;go_wp2_with fail;refine⟨r,?_⟩;refine wA9 6 ?_;go_wp2_with fail;refine(lX W B _ (cF p k++be d 1) s 2 (by rw[m];exact f) Z (by omega) (by omega) (by rw[m];omega) (by omega)).mono ?_;rintro e qq ⟨xt,rfl,a,-,C⟩;obtain⟨ra,rc,rfl,-,-⟩:=(Rd.of_owns a).form;have q:S qq:=D.out _ ((N _ r).trans' C (U:=aB) (fun _ _ h=>h) (fun i H e=>by have:=(G i e).1;have:=M.out;omega)) (C.blk (I _ r) (fun e=>(G K e).2 rfl));have R:(cF p k++be d 1++be s 2).length=X+3:=by rw[List.length_append,m,bK]
    have qz:cF p k++be d 1++be s 2=cF p (k+1):=by
     rw[sW,q7.out]
     first|rfl|(show _=cF p k++be (Int.toNat _) 1++be (Int.toNat _) 2;rw[Int.toNat_natCast,Int.toNat_natCast])
    rw[R] at a ⊢;rw[qz] at a;have qu:=O a;clear r G z f C a qz;go_wp2_with fail;refine⟨q,?_⟩;refine tna 7 (.slice ra (X+3) rc) rfl q ?_;refine wpAnyH_done (by kernel_rfl) ?_ _;have qr:=O (N _ q);clear q N I D qj qk qm qp qo qt;go_wp2
    go_roundw
    case rel=>exact⟨k+1,X+3,ra,rc,by omega,rfl,by go_num,by have:=qd.out;omega,O (by rw[qd.out];omega),qu,qr⟩
    case measure=>simp[intOf];omega
   ·have xk:¬(k:Int)<(n:Int):=by omega
    have x8:d=0/\s=0:=by
     have h:=q7.out;rw[List.getD_eq_getElem?_getD,List.getElem?_eq_none (by rw[HN.out];omega)] at h;have h1:=congrArg Ad.dev h;have h2:=congrArg Ad.sec h;have h3:(0:Int)=(d:Int):=h1;have h4:(0:Int)=(s:Int):=h2;omega
    obtain⟨rfl,rfl⟩:=x8;have qm:Hid (w8.heap[K]?=some (.cells (aO ⟨((0:Nat):Int),((0:Nat):Int)⟩).toArray 93 (0,0))):=q5;have qo:=qn;have qp:=zb;clear zg
    go_wp2_with (first
     | ((with_reducible show WL (some 7) (.alloc 93));refine aG rfl 93 rfl eN eI #[.int .i64 0,.int .i64 0] rfl ?_;rw[q3,qg]))
    obtain⟨w9,xp⟩:=zX9 w8
    rw[xp] at qm qo qp ⊢;clear xd q5 qn zb a8 q3 qg xp;obtain⟨S,J⟩:∃S:World->Prop,S=fun w'=>aA aB w1 w'/\w'.heap[K]?=some (.cells (aO ⟨((0:Nat):Int),((0:Nat):Int)⟩).toArray 93 (0,0)):=⟨_,rfl⟩
    have N:=O (show ∀w',S w'->aA aB w1 w' from fun w' h=>by rw[J] at h;exact h.1);have I:=O (show ∀w',S w'->w'.heap[K]?=some (.cells (aO ⟨((0:Nat):Int),((0:Nat):Int)⟩).toArray 93 (0,0)) from fun w' h=>by rw[J] at h;exact h.2);have D:=O (show ∀w',aA aB w1 w'->w'.heap[K]?=some (.cells (aO ⟨((0:Nat):Int),((0:Nat):Int)⟩).toArray 93 (0,0))->S w' from fun w' h h2=>by rw[J];exact⟨h,h2⟩);have qj:=O (fun w' (h:S w')=>(aC (I w' h) rfl:w'.cell? ⟨K,0,none⟩=some (.int .i64 ((0:Nat):Int))));have qk:=O (fun w' (h:S w')=>(aC (I w' h) rfl:w'.cell? ⟨K,1,none⟩=some (.int .i64 ((0:Nat):Int))));have A:S w9.drew:=D.out _ qo.drew ((aA.refl aB w9).drew.blk qm.out id);have F:=(aA.refl aB w9).drew.owns qp.out (fun _ _=>id);clear J;refine wp_region_held (S:=S) (by kernel_rfl) ?_;change wpAnyH _ _ _ _ _ _ _ _ w9.drew;generalize w9.drew=Y at A F ⊢;refine tka 0 (.slice pa X qi) rfl A ?_;simp only[Act.put,List.setIfInBounds_toArray,List.set_cons_zero,List.set_cons_succ,List.getElem_toArray,List.getElem_cons_zero];refine tnb 1 (.pointer K) rfl A ?_;refine tnd 2 (.int .i64 ((0:Nat):Int)) rfl (.inl ⟨by rfl,fun w' V=>by have c:=qj.out w' V;go_simp⟩) A ?_;refine tnb 4 (.pointer (some ⟨K,1,none⟩)) rfl A ?_;refine tnd 5 (.int .i64 ((0:Nat):Int)) rfl (.inl ⟨by rfl,fun w' V=>by have c:=qk.out w' V;go_simp⟩) A ?_;refine wA9 3 ?_;go_wp2_with fail;have L:B≤Y.heap.size:=by rw[←M.out];exact(N _ A).size
    have qh:Y.ownsRow B 5 1 (.slice pa X qi) (cF p k).length ((cF p k).map vb):=by rw[fF,←qd.out];exact F
    refine(lX Y B _ (cF p k) 0 1 qh L (by omega) (by omega) (by rw[fF];omega) (by omega)).mono ?_;rintro e W ⟨xr,rfl,z,Q,y⟩;obtain⟨qa,qc,rfl,-,-⟩:=(Rd.of_owns z).form;have E:∀i,(Value.slice pa X qi).ownBlock=some i->B≤i/\i<K:=fun i H=>⟨aX F H,qt i H⟩
    have r:S W:=D.out _ ((N _ A).trans' y (U:=aB) (fun _ _ h=>h) (fun i H e=>by have:=(E i e).1;have:=M.out;omega)) (y.blk (I _ A) (fun e=>by have:=(E K e).2;omega))
    have G:∀i,(Value.slice qa (cF p k++be 0 1).length qc).ownBlock=some i->B≤i/\i≠K:=fun i H=>⟨aX z H,by
     rcases Q with h|h
     ·rw[h] at H;have:=(E i H).2;omega
     ·have h1:=h i H
      have h2:=lt_of_block (I _ A);omega⟩
    have m:(cF p k++be 0 1).length=X+1:=by rw[List.length_append,fF,bK,qd.out]
    have Z:B≤W.heap.size:=Nat.le_trans L y.size;rw[m] at G ⊢;have f:=z;rw[m] at f;clear A F qh y Q E;go_wp2_with fail;refine⟨r,?_⟩;refine wA9 6 ?_;go_wp2_with fail;refine(lX W B _ (cF p k++be 0 1) 0 2 (by rw[m];exact f) Z (by omega) (by omega) (by rw[m];omega) (by omega)).mono ?_;rintro e qq ⟨xt,rfl,a,-,C⟩;obtain⟨ra,rc,rfl,-,-⟩:=(Rd.of_owns a).form;have q:S qq:=D.out _ ((N _ r).trans' C (U:=aB) (fun _ _ h=>h) (fun i H e=>by have:=(G i e).1;have:=M.out;omega)) (C.blk (I _ r) (fun e=>(G K e).2 rfl));have R:(cF p k++be 0 1++be 0 2).length=X+3:=by rw[List.length_append,m,bK]
    have qz:cF p k++be 0 1++be 0 2=cF p (k+1):=by
     rw[sW,q7.out]
     first|rfl|(show _=cF p k++be (Int.toNat _) 1++be (Int.toNat _) 2;rw[Int.toNat_natCast,Int.toNat_natCast])
    rw[R] at a ⊢;rw[qz] at a;have qu:=O a;clear r G z f C a qz;go_wp2_with fail;refine⟨q,?_⟩;refine tna 7 (.slice ra (X+3) rc) rfl q ?_;refine wpAnyH_done (by kernel_rfl) ?_ _;have qr:=O (N _ q);clear q N I D qj qk qm qp qo qt;go_wp2
    go_roundw
    case rel=>exact⟨k+1,X+3,ra,rc,by omega,rfl,by go_num,by have:=qd.out;omega,O (by rw[qd.out];omega),qu,qr⟩
    case measure=>simp[intOf];omega
  ·obtain rfl:k=3:=by omega
   have zl:=O ((dD (p:=p) (v:=.slice oa n ca) (by rw[x4.out];exact x2.out)).2.2.2);rw[Nat.zero_add] at zl;obtain⟨ss,q1⟩:=zX9 (p.sum.map vb)
   have x3:=O q1;have vh:ss.length=32:=by rw[←q1,List.length_map];exact xc.out
   have vi:∀u∈ss,u.oneCell'=true:=by rw[←q1];exact bA _
   rw[q1] at zl;have vd:X=10:=qd.out;subst vd;obtain⟨S,J⟩:∃S:World->Prop,S=fun w'=>aA aB w1 w':=⟨_,rfl⟩
   have qe:=O (show ∀w',S w'->aA aB w1 w' from fun w' h=>by rw[J] at h;exact h);have D:=O (show ∀w',aA aB w1 w'->S w' from fun w' h=>by rw[J];exact h);have qj:=O (fun w' (h:S w')=>(qe w' h).cell q4.out id);have qk:=O (fun w' (h:S w')=>(qe w' h).cell xx.out id);have F:=(aA.refl aB wr).drew.owns HO.out (fun _ _=>id);have A:S wr.drew:=D.out _ za.drew;clear J q1 a0 HO;go_wp2_with fail;refine wp_region_held (S:=S) (by kernel_rfl) ?_;change wpAnyH _ _ _ _ _ _ _ _ wr.drew;generalize wr.drew=Y at A F ⊢;refine tka 0 (.slice pa 10 qi) rfl A ?_;simp only[Act.put,List.setIfInBounds_toArray,List.set_cons_zero,List.set_cons_succ,List.getElem_toArray,List.getElem_cons_zero];refine tnb 1 (.pointer (some ⟨pb,1,none⟩)) rfl A ?_;refine tnd 2 (.int .i64 (bi:Int)) rfl (.inl ⟨by rfl,fun w' V=>by have c:=qj.out w' V;go_simp⟩) A ?_;refine tnb 4 (.pointer (some ⟨pb,2,none⟩)) rfl A ?_;refine tnd 5 (.int .i64 (le:Int)) rfl (.inl ⟨by rfl,fun w' V=>by have c:=qk.out w' V;go_simp⟩) A ?_;refine tnb 7 (.pointer (some ⟨pb,3,none⟩)) rfl A ?_;refine tnb 8 (.slice (some ⟨pb,3,none⟩) 32 32) rfl A ?_;refine wA9 3 ?_;go_wp2_with fail;have L:B≤Y.heap.size:=by rw[←M.out];exact(qe _ A).size
   refine(lX Y B _ (cF p 3) bi 4 (by rw[fF];exact F) L (by omega) (by omega) (by rw[fF];omega) (by omega)).mono ?_;rintro e W ⟨xr,rfl,z,Q,y⟩;obtain⟨qa,qc,rfl,-,-⟩:=(Rd.of_owns z).form;have r:S W:=D.out _ ((qe _ A).trans' y (U:=aB) (fun _ _ h=>h) (fun i H e=>by have:=aX F e;have:=M.out;omega));have m:(cF p 3++be bi 4).length=14:=by rw[List.length_append,fF,bK]
   have Z:B≤W.heap.size:=Nat.le_trans L y.size;have f:=z;rw[m] at f ⊢;clear A F y Q;go_wp2_with fail;refine⟨r,?_⟩;refine wA9 6 ?_;go_wp2_with fail;refine(lX W B _ (cF p 3++be bi 4) le 1 (by rw[m];exact f) Z (by omega) (by omega) (by rw[m];omega) (by omega)).mono ?_;rintro e qq ⟨xt,rfl,a,-,C⟩;obtain⟨ra,rc,rfl,-,-⟩:=(Rd.of_owns a).form;have q:S qq:=D.out _ ((qe _ r).trans' C (U:=aB) (fun _ _ h=>h) (fun i H e=>by have:=aX f e;have:=M.out;omega));have R:(cF p 3++be bi 4++be le 1).length=15:=by rw[List.length_append,m,bK]
   have xe:B≤qq.heap.size:=Nat.le_trans Z C.size;rw[R] at a ⊢;clear r z f C;go_wp2_with fail;refine⟨q,?_⟩;refine wA9 9 ?_
   refine zJ rfl (.tmp 45) (.tmp 47) 335 22 rfl _ underlying22 rfl B 5 _ 1 1 underlying335 eW rfl (by omega) (.slice ra 15 rc) 15 ((cF p 3++be bi 4++be le 1).map vb) rfl a ⟨pb,3,none⟩ 32 32 ss rfl vh (fun j u hj=>by
    rw[iO];exact(qe _ q).cell (zl j u hj) id) vi (by unfold maxLen;omega) (by omega) xe ?_
   intro v2 xu qy zi xg;obtain⟨sa,sc,rfl,-,-⟩:=(Rd.of_owns qy).form;have qf:S xu:=D.out _ ((qe _ q).trans' zi (U:=aB) (fun _ _ h=>h) (fun i H e=>by have:=aX a e;have:=M.out;omega))
   have z7:Hid (xu.ownsRow B 5 1 (.slice sa 47 sc) 47 ((cC p).map vb)):=O (by
    have e:(cC p).map vb=(cF p 3++be bi 4++be le 1).map vb++ss:=by
     unfold cC;rw[xw.out,xz.out,Int.toNat_natCast,Int.toNat_natCast,List.map_append,x3.out]
    rw[e];exact qy)
   clear q a qy zi xg;refine wpList_nil ?_;refine⟨qf,?_⟩;refine tna 10 (.slice sa 47 sc) rfl qf ?_;refine tna 11 (.int .i64 0) rfl qf ?_;refine wpAnyH_done (by kernel_rfl) ?_ _;have z1:=O (qe _ qf);clear qf qe D;go_wp2
   go_ret2
   have e:ptB p=cC p:=by unfold ptB;rw[HT.out];rfl
   refine⟨_,by rw[HT.out];rfl,?_,z6.trans z1.out⟩;rw[e,lM xc.out];exact aQ z7.out (by have:=M.out;have:=zd.out;omega)
open Go.RowKit Go.Maps Go.ChangeMaps
set_option maxRecDepth 100000
set_option linter.unusedVariables false
def D9(w:World)(cb g p m c:Nat):Prop:=w.heap[cb]?=some (.cells #[.slice (some ⟨g,p,none⟩) m c] 380 (0,0))
theorem rG(w:World)(cb g p m c k:Nat)(a:List UInt8)(s:D9 w cb g p m c)(D:w.rangeAt g p (a.map vb))(A:a.length=m)(V:m≤c)(Y:c≤9223372036854775807)(Q:1≤k)(R:k≤4)(U:k<m) :
 Calls prog 282 #[.pointer cb,.int .i64 (k:Int)] w fun e w'=>e=.returned (.int .i64 (beN (a.take k):Int))/\D9 w' cb g (p+k) (m-k) (c-k)/\aA (fun i=>i=cb) w w':=by
 have c0:w.cell? ⟨cb,0,none⟩=some (.slice (some ⟨g,p,none⟩) m c):=aC s rfl;have X:=bP s 0;have F:=O s;have H:=O D;have G:=O A;have S:(k:Int)≤(c:Int):=by omega
 have z:(k:Int)≤(m:Int):=by omega
 have N:(0:Int)≤(k:Int):=by omega
 have u:k≤c:=by omega
 clear s D A;go_in;go_wp2_with fail
 go_loop [5,15] (fun x i=>∃j:Nat,j≤k/\i=.int .i64 j/\x=.int .i64 (beN (a.take j):Int)) (fun _ i=>k-(intOf i).toNat)
 case atStart=>exact⟨0,by omega,rfl,rfl⟩
 case round =>
  obtain⟨j,Z,rfl,rfl⟩:=hrel
  by_cases M:j<k
  ·have h:j<a.length:=by rw[G.out];omega
   have J:w.cell? ⟨g,p+j,none⟩=some (.int .u8 (a[j].toNat:Int)):=H.out j _ (by simp[h,vb]);have E:=EQ (a.take j) (by simp;omega);have r:=uX (a.take j) a[j];have f:=a[j].toNat_lt;rw[←List.take_succ_eq_append_getElem h] at r;obtain⟨q,C⟩:=zX9 (a[j].toNat)
   rw[C] at J r f;obtain⟨y,t⟩:=zX9 (beN (a.take j))
   rw[t] at r E ⊢;have I:=O r;clear r t C;have K:(0:Int)≤(j:Int):=by omega
   have L:(j:Int)<(k:Int):=by omega
   have W:=GW y q E f;go_wp2
   go_round
   case rel=>exact⟨j+1,by omega,by go_num,by rw[I.out];simp⟩
   case measure=>simp[intOf];omega
  ·obtain rfl:j=k:=by omega
   go_wp2;go_ret;refine⟨rfl,?_,(aA.refl (fun i=>i=cb) w).setCell (p:=⟨cb,0,none⟩) (fun _=>rfl) _⟩;have:=cH F.out 0 (.slice (some ⟨g,p+j,none⟩) (m-j) (c-j));exact this
open Go.RowKit Go.Maps Go.ChangeMaps
set_option maxRecDepth 100000
set_option linter.unusedVariables false
def zPt:Pt:=⟨[],0,0,dM⟩
theorem tR(w:World):(zeroValue 33).run prog w=.ok (.agg (aL (.slice none 0 0) zPt).toArray) w:=by kernel_rfl
def AH(b:List UInt8)(i:Nat):Ad:=⟨(beN ((b.drop (1+3*i)).take 1):Int),(beN ((b.drop (1+3*i+1)).take 2):Int)⟩
def dY(b:List UInt8)(k:Nat):List Ad:=(List.range (min (beN (b.take 1)) k)).map (AH b)
def eS(b:List UInt8):Pt:=⟨dY b 3,(beN ((b.drop 10).take 4):Int),(beN ((b.drop 14).take 1):Int),b.drop 15⟩
def gE(b:List UInt8):Bool:=decide (b.length=47) && (eS b).may && decide (ptB (eS b)=b)
theorem qD(b:List UInt8)(k:Nat):dY b (k+1)=dY b k++if k<beN (b.take 1) then [AH b k] else []:=by
 unfold dY
 by_cases h:k<beN (b.take 1)
 ·rw[if_pos h,Nat.min_eq_right (by omega),Nat.min_eq_right (by omega),List.range_succ,List.map_append]
  rfl
 ·rw[if_neg h,Nat.min_eq_left (by omega),Nat.min_eq_left (by omega),List.append_nil]
theorem xH(l:List UInt8)(k:Nat)(h:l.length≤k):beN l<256 ^ k:=Nat.lt_of_lt_of_le (EP l) (Nat.pow_le_pow_right (by omega) h)
theorem ES(h:n<16777216):Ek (n:Int):=⟨by omega,by omega⟩
theorem GY(b:List UInt8)(i:Nat):fC (AH b i):=by
 have a:=xH ((b.drop (1+3*i)).take 1) 1 (by simp;omega);have e:=xH ((b.drop (1+3*i+1)).take 2) 2 (by simp;omega);exact⟨ES (by omega),ES (by omega)⟩
theorem AI(b:List UInt8)(k:Nat):jF (dY b k):=fun x a=>by
 unfold dY at a;obtain⟨i,-,rfl⟩:=List.mem_map.1 a;exact GY b i
structure RdW(w wr:World)(rb cb pb g o c B off n:Nat)(v:Value)(q:Pt):Prop where
 res:wr.heap[rb]?=some (.cells (aL (.slice none 0 0) zPt).toArray 33 (0,0))
 cur:D9 wr cb g (o+off) (47-off) (c-off)
 pt:wr.heap[pb]?=some (.cells (aL v q).toArray 33 (0,0))
 row:wr.ownsRow B 93 2 v n (aJ q.addrs)
 keep:aA aB w wr
 ord:w.heap.size≤rb/\rb<cb/\cb<pb/\pb<B
 sz:B≤wr.heap.size
theorem RdW.same{wr:World}{q:Pt}(h:RdW w wr rb cb pb g o c B off n v q)(k:aA aB wr w'):RdW w w' rb cb pb g o c B off n v q:=
 ⟨k.blk h.res id,k.blk h.cur id,k.blk h.pt id,k.owns h.row fun _ _=>id,h.keep.trans k,h.ord,Nat.le_trans h.sz k.size⟩
theorem RdW.num{wr:World}{q:Pt}(h:RdW w wr rb cb pb g o c B off n v q)(j:D9 w' cb g (o+off+k) (47-off-k) (c-off-k))(a:aA (fun i=>i=cb) wr w'):RdW w w' rb cb pb g o c B (off+k) n v q:=by
 obtain⟨m,p,r,s⟩:=h.ord;refine⟨a.blk h.res (by omega),?_,a.blk h.pt (by omega),a.owns h.row (fun i f e=>by have:=aX h.row f;omega),h.keep.trans' a (U:=aB) (fun _ _ h=>h) (fun i f e=>by omega),h.ord,Nat.le_trans h.sz a.size⟩;rw[←Nat.add_assoc,Nat.sub_add_eq,Nat.sub_add_eq];exact j
theorem RdW.put{wr:World}{m:Nat}{u:Value}{q r:Pt}(h:RdW w wr rb cb pb g o c B off n v q)(p:w'.heap[pb]?=some (.cells (aL u r).toArray 33 (0,0)))(s:w'.ownsRow B 93 2 u m (aJ r.addrs))(f:aA (fun i=>i=pb\/v.ownBlock=some i) wr w'):RdW w w' rb cb pb g o c B off m u r:=by
 obtain⟨t,x,y,z⟩:=h.ord
 have a:∀i,i<pb->¬(i=pb\/v.ownBlock=some i):=fun i j e=>by
  rcases e with e|e
  ·omega
  ·have:=aX h.row e;omega
 exact⟨f.blk h.res (a _ (by omega)),f.blk h.cur (a _ (by omega)),p,s,h.keep.trans' f (U:=aB) (fun _ _ h=>h) (fun i j e=>a i (by omega) e),h.ord,Nat.le_trans h.sz f.size⟩
theorem Kv(v u:Value)(q:Pt)(l:List Ad):(aL v q).toArray.setIfInBounds 0 u=(aL u ⟨l,q.birth,q.level,q.sum⟩).toArray:=by rw[List.setIfInBounds_toArray];rfl
theorem Kw(v:Value)(q:Pt)(x:Int):(aL v q).toArray.setIfInBounds 1 (.int .i64 x)=(aL v ⟨q.addrs,x,q.level,q.sum⟩).toArray:=by rw[List.setIfInBounds_toArray];rfl
theorem Kx(v:Value)(q:Pt)(x:Int):(aL v q).toArray.setIfInBounds 2 (.int .i64 x)=(aL v ⟨q.addrs,q.birth,x,q.sum⟩).toArray:=by rw[List.setIfInBounds_toArray];rfl
theorem MY(v:Value)(q:Pt)(s:List UInt8)(f:q.sum.length=32)(a:s.length=32):spl (aL v q).toArray 3 (s.map vb)=(aL v ⟨q.addrs,q.birth,q.level,s⟩).toArray:=by
 apply Array.ext_getElem?;intro j;rw[jR _ _ _ _ (by rw[List.size_toArray,bB f,List.length_map,a];exact Nat.le_refl _)];simp only[List.getElem?_toArray,List.length_map,a]
 by_cases h:3≤j
 ·by_cases m:j<35
  ·rw[if_pos (by omega)]
   have e:(aL v ⟨q.addrs,q.birth,q.level,s⟩)[j]?=(s.map vb)[j-3]?:=by
    unfold aL;obtain⟨i,rfl⟩:∃i,j=i+3:=⟨j-3,by omega⟩
    simp
   rw[e]
  ·rw[if_neg (by omega),List.getElem?_eq_none (by rw[bB f];omega),List.getElem?_eq_none (by rw[bB (p:=⟨q.addrs,q.birth,q.level,s⟩) a];omega)]
 ·rw[if_neg (by omega)]
  have:j=0\/j=1\/j=2:=by omega
  rcases this with rfl|rfl|rfl<;>rfl
def pE(e a:Int):List PanicEntry:=[{ v:=.iface 364 (.agg #[.int .i64 e,.int .i64 a]),recovered:=false }]
def iI(w:World)(b:List UInt8)(e:Ending)(w':World):Prop:=
 aA aB w w'/\if gE b then ∃v,e=.returned (.agg (aL v (eS b)).toArray)/\w'.ownsRow w.heap.size 93 2 v (eS b).addrs.length (aJ (eS b).addrs)
  else if b.length=47 then e=.panicked (pE 2 0) else e=.panicked (pE 4 (min b.length 47))
theorem GZ{l:List UInt8}(h:Rd w 1 v n (l.map vb))(t:l.length=n){x:UInt8}(f:l[k]?=some x):∃g o e,v=.slice (some ⟨g,o,none⟩) n e/\w.cell? ⟨g,o+k,none⟩=some (.int .u8 (x.toNat:Int)):=by
 obtain⟨h0,a,e,rfl,q,r,s,j⟩:=h;have p:=(List.getElem?_eq_some_iff.1 f).1;obtain⟨g,o,rfl,m⟩:=j (by rw[List.length_map];omega);exact⟨g,o,e,rfl,m k _ (by rw[List.getElem?_map,f];rfl)⟩
theorem zZ(w:World)(x:Int):(Instr.build 254 #[(0,.int .i64 x)]).run prog w=.ok (.agg #[.int .i64 x,.int .i64 0]) w:=by kernel_rfl
theorem Ge(w:World)(x y:Int):(Instr.build 254 #[(0,.int .i64 x),(1,.int .i64 y)]).run prog w=.ok (.agg #[.int .i64 x,.int .i64 y]) w:=by kernel_rfl
theorem uY(w:World)(x y:Int):(Instr.build 364 #[(0,.agg #[.int .i64 x,.int .i64 y])]).run prog w=.ok (.agg #[.int .i64 x,.int .i64 y]) w:=by kernel_rfl
theorem MZ(w:World)(r:Value)(b:List UInt8)(q:Rd w 1 r b.length (b.map vb))(j:b.length≠47):Calls prog 271 #[r] w (iI w b):=by
 obtain⟨K,G,rfl,-,m⟩:=q.form;have a:b.length≤maxLen:=by obtain⟨_,E,F,H,I,J,-⟩:=q;omega
 unfold maxLen at a;have s:gE b=false:=by unfold gE;rw[decide_eq_false j];rfl
 obtain⟨n,p⟩:=zX9 b.length
 have h:Hid (∀w' e,aA aB w w'->e=.panicked (pE 4 ((min n 47:Nat):Int))->iI w b e w'):=O (fun w' e k A=>by unfold iI;rw[s,if_neg (by decide),if_neg j];exact⟨k,by rw[A,p,show min (n:Int) 47=((min n 47:Nat):Int) by omega]⟩);have u:=tR;obtain⟨D,f⟩:=zX9 (aL (.slice none 0 0) zPt)
 rw[f] at u;have C:((n:Int) != 47)=true:=by simp;omega
 have t:min (n:Int) 47=((min n 47:Nat):Int):=by omega
 have y:=fun w=>Ge w 4 (min (n:Int) 47)
 have z:=fun w=>uY w 4 (min (n:Int) 47)
 rw[p] at a ⊢;clear q j s p f m;go_in
 go_wp2_with (first
  | ((with_reducible show WL (some 2) (.alloc 33));refine aG rfl 33 rfl _ u D.toArray rfl ?_))
 exact⟨rfl,h _ _ ((aA.refl _ _).alloc _) rfl⟩
theorem Iz(w:World)(v v2:Value)(l m:List UInt8)(G:Rd w 1 v l.length (l.map vb))(Q:Rd w 1 v2 m.length (m.map vb)):Calls prog 283 #[v,v2] w (bM w (decide (l=m))):=by
 obtain⟨la,lc,rfl,-,-⟩:=G.form;obtain⟨ma,mc,rfl,-,-⟩:=Q.form;have z:l.length≤maxLen:=by obtain⟨_,a',c',L,h2,h3,-⟩:=G;omega
 unfold maxLen at z;obtain⟨J,f⟩:=zX9 (decide (l=m))
 have a:=O f;rw[f];clear f;obtain⟨n,R⟩:=zX9 l.length
 obtain⟨q,S⟩:=zX9 m.length
 have W:=O G;have X:=O Q;have E:=O R;have F:=O S;rw[R] at W z ⊢;rw[S] at X ⊢;clear G Q R S
 by_cases A:n=q
 ·subst A
  go_in;go_wp2_with fail
  go_loopw [13] (fun t wr=>∃k:Nat,k≤n/\t=.int .i64 k/\Hid (l.take k=m.take k)/\Hid (aA aB w wr)) (fun t _=>n-(intOf t).toNat)
  case atStart=>exact⟨0,Nat.zero_le _,rfl,O (by simp),O (aA.refl _ _)⟩
  case round =>
  obtain⟨k,hk,rfl,Y,s⟩:=hrel
  by_cases u:k<n
  ·have qg:(k:Int)<(n:Int):=by omega
   have qf:(0:Int)≤(k:Int):=by omega
   obtain⟨x,U⟩:∃x,l[k]?=some x:=⟨l[k]'(by rw[E.out];exact u),List.getElem?_eq_getElem _⟩
   obtain⟨y,V⟩:∃x,m[k]?=some x:=⟨m[k]'(by rw[F.out];exact u),List.getElem?_eq_getElem _⟩
   have hr:=W.keep s.out fun _ _=>id
   obtain⟨p,o,qd,hv,hc⟩:=GZ hr (by rw[E.out]) U;have K:la=some ⟨p,o,none⟩:=by cases hv;rfl
   subst K;have C:=X.keep s.out fun _ _=>id
   obtain⟨p2,o2,qa,D,qe⟩:=GZ C (by rw[F.out]) V;have K:ma=some ⟨p2,o2,none⟩:=by cases D;rfl
   subst K;have Z:=O U;have HY:=O V;obtain⟨bi,M⟩:=zX9 (((x.toNat:Int) != (y.toNat:Int)))
   have r:=O M;clear hr C hv D U V;cases bi
   ·have e:x=y:=by
     have h:=r.out;simp only[bne_eq_false_iff_eq] at h;exact UInt8.toNat_inj.1 (by omega)
    have I:Hid (l.take (k+1)=m.take (k+1)):=O (by rw[List.take_add_one,List.take_add_one,Y.out,Z.out,HY.out,e]);clear e;go_wp2_with fail
    go_quiet (fail)
    go_wp2_with fail;have H:=O (s.drewN nq)
    go_roundw
    case rel=>exact⟨k+1,by omega,by go_num,I,H⟩
    case measure=>simp[intOf];omega
   ·have j:J=false:=by
     rw[←a.out];refine decide_eq_false fun e=>?_
     have L:=Z.out;rw[e,HY.out] at L;cases L
     have:=r.out;simp at this
    subst j;go_wp2_with fail
    go_quiet (fail)
    go_wp2;go_ret;exact⟨rfl,s.drewN nq⟩
  ·obtain rfl:n=k:=by omega
   have N:J=true:=by
    rw[←a.out];refine decide_eq_true ?_;have h:=Y.out
    rwa [List.take_of_length_le (by rw[E.out];exact Nat.le_refl _),List.take_of_length_le (by rw[F.out];exact Nat.le_refl _)] at h
   subst N;go_wp2;go_ret;exact⟨rfl,s.out⟩
 ·have j:J=false:=by
   rw[←a.out];exact decide_eq_false fun e=>A (by rw[←E.out,←F.out,e])
  subst j;have qc:((n:Int) != (q:Int))=true:=by simp;omega
  go_in;go_wp2;go_ret;exact⟨rfl,aA.refl _ _⟩
theorem Ky(w:World)(bv:Value)(b:List UInt8)(hr:Rd w 1 bv b.length (b.map vb))(hl:b.length=47):Calls prog 271 #[bv] w (iI w b):=by
 obtain⟨g,o,c,rfl,M⟩:∃g o c,bv=.slice (some ⟨g,o,none⟩) 47 c/\w.rangeAt g o (b.map vb):=by
  obtain⟨h0,a,xh,rfl,h2,h3,h4,h5⟩:=hr;obtain⟨g,o,rfl,hc⟩:=h5 (by simp;omega);exact⟨g,o,xh,by rw[hl],hc⟩
 have xw:47≤c/\c≤9223372036854775807:=by
  obtain⟨_,a',c',h1,h2,h3,-⟩:=hr;unfold maxLen at h3;injection h1 with e1 e2 e3
  omega
 have Z:=O hl
 have N:=O (fun wx (k:aA aB w wx) (off:Nat)=>(show wx.rangeAt g (o+off) ((b.drop off).map vb) from fun j v hj=>by
  rw[List.map_drop,List.getElem?_drop] at hj;rw[Nat.add_assoc];exact(k.rangeAt M) (off+j) v hj))
 have zk:=O (fun wx (k:aA aB w wx)=>hr.keep k fun _ _=>id);rw[hl] at zk;have hz:=tR;obtain⟨zc,qn⟩:=zX9 (aL (.slice none 0 0) zPt)
 have zb:zc.length=35:=by rw[←qn];rfl
 have HZ:=O qn;rw[qn] at hz;obtain⟨wa,z1,ka,ha,sa⟩:=aM w zc.toArray 33;obtain⟨wb,xt,kb,hb,sb⟩:=aM wa #[.slice (some ⟨g,o,none⟩) 47 c] 380;obtain⟨wc,z2,kc,hc,sc⟩:=aM wb zc.toArray 33;obtain⟨rb,qm⟩:=zX9 w.heap.size
 obtain⟨cb,zq⟩:=zX9 wa.heap.size
 obtain⟨pb,q4⟩:=zX9 wb.heap.size
 obtain⟨B,hB⟩:=zX9 wc.heap.size
 rw[qm] at ha;rw[zq] at hb;rw[q4] at hc;have qd:Hid (RdW w wc rb cb pb g o c B 0 0 (.slice none 0 0) zPt):=O ⟨by rw[HZ.out];exact kc.blk (kb.blk ha id) id,kc.blk hb id,by rw[HZ.out];exact hc,World.ownsRow_nil _ _ _ _,(ka.trans kb).trans kc,by omega,by omega⟩;have xv:=O qm;have x0:=O hB;clear hr M ha hb hc sa sb sc ka kb kc hl qn;go_in
 go_wp2_with (first
  | ((with_reducible show WL (some 2) (.alloc 33));refine aG rfl 33 rfl _ hz zc.toArray rfl ?_;rw[z1,qm])
  | ((with_reducible show WL (some 4) (.alloc 33));refine aG rfl 33 rfl _ hz zc.toArray rfl ?_;rw[z2,q4]))
 refine(rG _ cb g (o+(0)) (47-(0)) (c-(0)) 1 (b.drop (0)) qd.cur (N _ qd.keep _) (by rw[List.length_drop,Z.out]) (by omega) (by omega) (by omega) (by omega) (by omega)).mono ?_;rintro e w1 ⟨rfl,f,y⟩;have zm:=O (qd.num f y);clear f y;obtain⟨mn,qi⟩:=zX9 (beN (b.take 1))
 have xz:mn<256:=by rw[←qi];exact xH _ 1 (by simp;omega)
 have qa:=O qi;rw[List.drop_zero,qi];clear qi qd z1 xt z2 qm zq q4 hB;go_wp2_with fail
 go_loopw [24] (fun i wr=>∃(k q:Nat) (pa:Option Addr) (pc:Nat),k≤3/\q≤k/\i=.int .i64 k/\Hid ((dY b k).length=q)/\Hid (RdW w wr rb cb pb g o c B (1+3*k) q (.slice pa q pc) ⟨dY b k,0,0,dM⟩)) (fun i _=>3-(intOf i).toNat)
 case atStart=>exact⟨0,0,none,0,by omega,by omega,rfl,O (by simp[dY]),O (by
  have h:=zm.out;have e:dY b 0=[]:=by simp[dY]
  rw[e];exact h)⟩
 case round =>
 clear zm;obtain⟨k,q,pa,z,hk,x5,rfl,qc,HW⟩:=hrel
 by_cases x4:k<3
 ·have x3:(k:Int)<3:=by omega
  have x2:(0:Int)≤(k:Int):=by omega
  have xi:=GY b k;obtain⟨d,hd⟩:=zX9 (beN ((b.drop (1+3*k)).take 1))
  obtain⟨s,hs⟩:=zX9 (beN ((b.drop (1+3*k+1)).take 2))
  have z6:Hid (AH b k=⟨(d:Int),(s:Int)⟩):=O (by unfold AH;rw[hd,hs]);have HD:=O hd;have HS:=O hs;have x1:=ON (d:Int) (s:Int);clear hd hs xi;go_wp2_with fail;refine(rG _ cb g (o+(1+3*k)) (47-(1+3*k)) (c-(1+3*k)) 1 (b.drop (1+3*k)) HW.cur (N _ HW.keep _) (by rw[List.length_drop,Z.out]) (by omega) (by omega) (by omega) (by omega) (by omega)).mono ?_;rintro e w2 ⟨rfl,f,y⟩;have A:=O (HW.num f y);clear f y;rw[HD.out];go_wp2_with fail;refine(rG _ cb g (o+(1+3*k+1)) (47-(1+3*k+1)) (c-(1+3*k+1)) 2 (b.drop (1+3*k+1)) A.cur (N _ A.keep _) (by rw[List.length_drop,Z.out]) (by omega) (by omega) (by omega) (by omega) (by omega)).mono ?_;rintro e w3 ⟨rfl,f,y⟩;have F:=O (A.num f y);clear f y;rw[HS.out];clear HW A;obtain⟨w4,zz,zr,qy,xo⟩:=aM w3 #[.int .i64 0,.int .i64 0] 93;obtain⟨ab,R⟩:=zX9 w3.heap.size
  rw[R] at qy;have zf:=O qy;have C:=O (F.same zr);have qo:Hid (w.heap.size≤ab/\pb<ab/\∀i,(Value.slice pa q z).ownBlock=some i->i<ab):=O ⟨by rw[←R];exact F.keep.size,by rw[←R];exact lt_of_block F.pt,fun i D=>by rw[←R];exact(F.row.lt i D).2⟩;clear zr qy xo
  by_cases qh:k<mn
  ·have q1:(k:Int)<(mn:Int):=by omega
   have xl:decide ((k:Int)<(mn:Int))=true:=decide_eq_true q1
   go_wp2_with (first
    | ((with_reducible show WL (some 7) (.alloc 93));refine aG rfl 93 rfl eN eI #[.int .i64 0,.int .i64 0] rfl ?_;rw[zz,R])
    | ((with_reducible show WL none (.store 93 (.tmp 7) (.tmp 31)));refine aE rfl 93 (.tmp 7) (.tmp 31) rfl ab 0 (aO ⟨(d:Int),(s:Int)⟩) rfl rfl #[.int .i64 0,.int .i64 0] 93 zf.out (Nat.le_refl _) cK (bV _) ?_
       intro K I m;rw[aI _ _ (by rfl)] at I;have zd:=O I
       have G:Hid (RdW w K rb cb pb g o c B (1+3*k+1+2) q (.slice pa q z) ⟨dY b k,0,0,dM⟩):=O (by
        have h:=C.out;obtain⟨o1,o2,o3,o4⟩:=h.ord;have h7:=qo.out;have L:∀i,i<ab->¬i=ab:=fun i D=>by omega
        exact⟨m.blk h.res (L _ (by omega)),m.blk h.cur (L _ (by omega)),m.blk h.pt (L _ (by omega)),m.owns h.row (fun i D e=>by have:=h7.2.2 i D;omega),h.keep.trans' m (U:=aB) (fun _ _ h=>h) (fun i D e=>by omega),h.ord,Nat.le_trans h.sz m.size⟩)
       clear I m;have a5:K.cell? ⟨pb,0,none⟩=some (.slice pa q z):=aC G.pt rfl;obtain⟨w6,xr,zt,qz,xp⟩:=aM K (aO ⟨(d:Int),(s:Int)⟩).toArray 93;obtain⟨bx,zp⟩:=zX9 K.heap.size
       rw[zp] at qz;have xe:Hid (Rd w6 2 (.slice bx 1 1) 1 (aO ⟨(d:Int),(s:Int)⟩)):=O (eL (n:=1) (size:=2) (vs:=aO ⟨(d:Int),(s:Int)⟩) qz rfl (by unfold maxLen;omega));have r:=O (G.same zt);have zy:B≤w6.heap.size:=r.sz;clear zt qz xp)
    | ((with_reducible show WL _ (.load 93 (.tmp 7)));refine wpList_load_mid rfl 93 (.tmp 7) rfl ab 0 rfl (aO ⟨(d:Int),(s:Int)⟩) _ (aD zd.out) bY rfl cK ?_)
    | ((with_reducible show WL _ (.buildSlice _ 1 _));refine bX rfl 29 93 (.tmp 37) rfl underlying29 tI (by decide) (aO ⟨(d:Int),(s:Int)⟩) rfl (by decide) rfl ?_;rw[xr,zp])
    | (at_builtin;refine aK rfl (.tmp 36) (.tmp 38) 29 rfl B 93 eN 2 16 underlying29 tI rfl (by decide) (.slice pa q z) q (aJ (dY b k)) rfl r.row (.slice bx 1 1) 1 (aO ⟨(d:Int),(s:Int)⟩) rfl xe.out (bV _) (by unfold maxLen;omega) (by omega) zy ?_
       intro v' Y q3 m xm I;obtain⟨va,vc,rfl,-,-⟩:=(Rd.of_owns q3).form;have qj:=m.blk r.pt (fun e=>by have:=aX r.row e;have:=r.ord;omega);have xx:Y.cell? ⟨pb,0,none⟩=some (.slice pa q z):=aC qj rfl;have xy:=bP qj 0;have xb:=O qj;have z7:=O m
       have zj:Hid (Y.ownsRow B 93 2 (.slice va (q+1) vc) (q+1) (aJ (dY b (k+1)))):=O (by
        rw[qD,if_pos (by rw[qa.out];exact qh),z6.out,gR,zR];exact q3)
       clear q3 m xm I qj))
   have J:Hid (RdW w (Y.setCell ⟨pb,0,none⟩ (.slice va (q+1) vc)) rb cb pb g o c B (1+3*(k+1)) (q+1) (.slice va (q+1) vc) ⟨dY b (k+1),0,0,dM⟩):=O (by
    have e:1+3*(k+1)=1+3*k+1+2:=by omega
    have E:aA (fun i=>i=pb) Y (Y.setCell ⟨pb,0,none⟩ (.slice va (q+1) vc)):=(aA.refl (fun i=>i=pb) Y).setCell (p:=⟨pb,0,none⟩) (fun _=>rfl) _;rw[e];refine r.put ?_ (E.owns zj.out (fun i D e=>by have:=aX zj.out D;have:=r.ord;omega)) ((z7.mono (fun _ _ h=>.inr h)).tT E (fun i D e=>.inl e));rw[cH xb.out,Kv _ _ _ (dY b (k+1))])
   have qw:Hid ((dY b (k+1)).length=q+1):=O (by rw[qD,if_pos (by rw[qa.out];exact qh),List.length_append,qc.out];rfl)
   go_roundw
   case rel=>exact⟨k+1,q+1,va,vc,by omega,by omega,by go_num,qw,J⟩
   case measure=>simp[intOf];omega
  ·have q1:¬(k:Int)<(mn:Int):=by omega
   have xl:decide ((k:Int)<(mn:Int))=false:=decide_eq_false q1
   go_wp2_with (first
    | ((with_reducible show WL (some 7) (.alloc 93));refine aG rfl 93 rfl eN eI #[.int .i64 0,.int .i64 0] rfl ?_;rw[zz,R])
    | ((with_reducible show WL none (.store 93 (.tmp 7) (.tmp 31)));refine aE rfl 93 (.tmp 7) (.tmp 31) rfl ab 0 (aO ⟨(d:Int),(s:Int)⟩) rfl rfl #[.int .i64 0,.int .i64 0] 93 zf.out (Nat.le_refl _) cK (bV _) ?_
       intro K I m;rw[aI _ _ (by rfl)] at I;have zd:=O I
       have G:Hid (RdW w K rb cb pb g o c B (1+3*k+1+2) q (.slice pa q z) ⟨dY b k,0,0,dM⟩):=O (by
        have h:=C.out;obtain⟨o1,o2,o3,o4⟩:=h.ord;have h7:=qo.out;have L:∀i,i<ab->¬i=ab:=fun i D=>by omega
        exact⟨m.blk h.res (L _ (by omega)),m.blk h.cur (L _ (by omega)),m.blk h.pt (L _ (by omega)),m.owns h.row (fun i D e=>by have:=h7.2.2 i D;omega),h.keep.trans' m (U:=aB) (fun _ _ h=>h) (fun i D e=>by omega),h.ord,Nat.le_trans h.sz m.size⟩)
       clear I m
       skip))
   have J:Hid (RdW w K rb cb pb g o c B (1+3*(k+1)) q (.slice pa q z) ⟨dY b (k+1),0,0,dM⟩):=O (by
    have e:1+3*(k+1)=1+3*k+1+2:=by omega
    have e2:dY b (k+1)=dY b k:=by rw[qD,if_neg (by rw[qa.out];exact qh),List.append_nil]
    rw[e,e2];exact G.out)
   have qw:Hid ((dY b (k+1)).length=q):=O (by rw[qD,if_neg (by rw[qa.out];exact qh),List.append_nil];exact qc.out)
   go_roundw
   case rel=>exact⟨k+1,q,pa,z,by omega,by omega,by go_num,qw,J⟩
   case measure=>simp[intOf];omega
 ·obtain rfl:k=3:=by omega
  have HW:=O (show RdW w wr rb cb pb g o c B 10 q (.slice pa q z) ⟨dY b 3,0,0,dM⟩ from HW.out);obtain⟨bi,zo⟩:=zX9 (beN ((b.drop 10).take 4))
  obtain⟨le,zw⟩:=zX9 (beN ((b.drop (10+4)).take 1))
  have zg:=O zo;have zi:=O zw;have W:Hid ((b.drop 15).length=32):=O (by rw[List.length_drop,Z.out]);clear zo zw;go_wp2_with fail;refine(rG _ cb g (o+(10)) (47-(10)) (c-(10)) 4 (b.drop (10)) HW.cur (N _ HW.keep _) (by rw[List.length_drop,Z.out]) (by omega) (by omega) (by omega) (by omega) (by omega)).mono ?_;rintro e w2 ⟨rfl,f,y⟩;have A:=O (HW.num f y);clear f y;rw[zg.out];have k0:=aC A.pt (i:=1) rfl;have kf:=bP A.pt 1;obtain⟨w3,q9⟩:=zX9 (w2.setCell ⟨pb,1,none⟩ (.int .i64 (bi:Int)))
  have F:Hid (RdW w w3 rb cb pb g o c B (10+4) q (.slice pa q z) ⟨dY b 3,(bi:Int),0,dM⟩):=O (by
   have E:aA (fun i=>i=pb) w2 w3:=by rw[←q9];exact(aA.refl (fun i=>i=pb) w2).setCell (p:=⟨pb,1,none⟩) (fun _=>rfl) _
   refine A.put ?_ (E.owns A.row (fun i D e=>by have:=aX A.row D;have:=A.ord;omega)) (E.mono (fun _ _ h=>.inl h));rw[←q9,cH A.pt,Kw _ _ (bi:Int)])
  clear HW;go_wp2_with fail;clear k0 kf q9 A;refine(rG _ cb g (o+(10+4)) (47-(10+4)) (c-(10+4)) 1 (b.drop (10+4)) F.cur (N _ F.keep _) (by rw[List.length_drop,Z.out]) (by omega) (by omega) (by omega) (by omega) (by omega)).mono ?_;rintro e w4 ⟨rfl,f,y⟩;have C:=O (F.num f y);clear f y;rw[zi.out];have k0:=aC C.pt (i:=2) rfl;have kf:=bP C.pt 2;obtain⟨K,za⟩:=zX9 (w4.setCell ⟨pb,2,none⟩ (.int .i64 (le:Int)))
  have G:Hid (RdW w K rb cb pb g o c B (10+4+1) q (.slice pa q z) ⟨dY b 3,(bi:Int),(le:Int),dM⟩):=O (by
   have E:aA (fun i=>i=pb) w4 K:=by rw[←za];exact(aA.refl (fun i=>i=pb) w4).setCell (p:=⟨pb,2,none⟩) (fun _=>rfl) _
   refine C.put ?_ (E.owns C.row (fun i D e=>by have:=aX C.row D;have:=C.ord;omega)) (E.mono (fun _ _ h=>.inl h));rw[←za,cH C.pt,Kx _ _ (le:Int)])
  go_wp2_with fail;clear k0 kf za C F;obtain⟨S,qf⟩:∃S:World->Prop,S=fun w'=>aA (fun i=>i=pb) K w':=⟨_,rfl⟩
  have qx:=O (show ∀w',S w'->aA (fun i=>i=pb) K w' from fun w' h=>by rw[qf] at h;exact h);have zl:=O (show ∀w',aA (fun i=>i=pb) K w'->S w' from fun w' h=>by rw[qf];exact h);have r:=O (G.same (aA.refl aB K).drew);have hS:S K.drew:=by rw[qf];exact(aA.refl _ _).drew
  have zh:=O (fun w' (h:S w')=>(aC ((qx w' h).blk G.cur (by have:=G.ord;omega)) rfl:w'.cell? ⟨cb,0,none⟩=some (.slice (some ⟨g,o+(10+4+1),none⟩) (47-(10+4+1)) (c-(10+4+1)))));refine wp_region_held (S:=S) (by kernel_rfl) ?_;change wpAnyH _ _ _ _ _ _ _ _ K.drew;generalize K.drew=w6 at hS r ⊢;refine tkb 0 (.pointer (some ⟨pb,3,none⟩)) rfl hS ?_;simp only[Act.put,List.setIfInBounds_toArray,List.set_cons_zero,List.set_cons_succ,List.getElem_toArray,List.getElem_cons_zero];refine tnb 1 (.slice (some ⟨pb,3,none⟩) 32 32) rfl hS ?_;refine tna 2 (.pointer cb) rfl hS ?_;refine tnb 3 (.pointer cb) rfl hS ?_;refine tnb 4 (.pointer cb) rfl hS ?_;refine tnd 5 (.slice (some ⟨g,o+(10+4+1),none⟩) (47-(10+4+1)) (c-(10+4+1))) rfl (.inl ⟨by rfl,fun w' xq=>by have c:=zh.out w' xq;go_simp⟩) hS ?_;refine wA9 6 ?_;refine nT rfl (.tmp 49) (.tmp 53) 22 22 rfl 5 underlying22 Ei pb 3 32 32 rfl _ 32 ((b.drop 15).map vb) rfl ⟨by rw[List.length_map,W.out],some ⟨g,o+15,none⟩,c-15,rfl,by omega,by unfold maxLen;omega,(by intro h;cases h),fun _=>⟨g,o+15,rfl,fun i u hu=>N.out _ r.keep 15 i u hu⟩⟩ 32 rfl _ _ r.pt (by rw[List.size_toArray,bB (p:=⟨dY b 3,(bi:Int),(le:Int),dM⟩) rfl];decide) (bA _) ?_;intro Y q0 qg;rw[List.take_of_length_le (by rw[List.length_map,W.out];exact Nat.le_refl _),MY _ _ _ rfl W.out] at q0
  have qe:Hid (RdW w Y rb cb pb g o c B (10+4+1) q (.slice pa q z) (eS b)):=O (by
   have e:eS b=⟨dY b 3,(bi:Int),(le:Int),b.drop 15⟩:=by unfold eS;rw[zg.out,zi.out]
   rw[e];exact r.put q0 (qg.owns r.row (fun i D e=>by have:=aX r.row D;have:=r.ord;omega)) (qg.mono (fun _ _ h=>.inl h)))
  have zn:S Y:=zl.out _ ((qx _ hS).trans qg);clear q0 qg hS qf;refine wpList_nil ?_;refine⟨zn,?_⟩;refine wpAnyH_done (by kernel_rfl) ?_ _;clear zn qx zl zh r G
  have xd:Hid (PtV Y (.slice pa q z) (eS b)):=O ⟨by
   have h:=Rd.of_owns qe.row;have e:(eS b).addrs.length=q:=qc.out;rw[e];exact h,AI b 3,W.out⟩
  have Q:=O (aD qe.pt);obtain⟨pc,qk⟩:=zX9 (aL (.slice pa q z) (eS b))
  have X:pc.length=35:=by rw[←qk];exact bB W.out
  have qu:=O qk;have qt:=O (CY Y _ _ xd.out);rw[qk] at Q qt;obtain⟨t,ht⟩:=zX9 ((eS b).may)
  have HT:=O ht;clear qk ht
  go_wp2_with (first
   | ((with_reducible show WL _ (.load 33 (.tmp 4)));refine wpList_load_mid rfl 33 (.tmp 4) rfl (pb) 0 rfl pc _ Q.out bJ rfl (cI X) ?_))
  refine qt.mono ?_;rintro e w8 ⟨v8,rfl,zx,zu⟩;have J:=O (qe.same zu);have q7:=Rd.of_owns zx;obtain⟨xa,xc,rfl,-,-⟩:=q7.form;have xg:=O q7;rw[HT.out];clear zx zu q7 qt Q qe;cases t
  ·have qv:Hid (∀w' e,aA aB w w'->e=.panicked (pE 2 0)->iI w b e w'):=O (fun w' e k he=>by
    unfold iI;rw[show gE b=false by unfold gE;rw[HT.out];simp,if_neg (by decide),if_pos Z.out];exact⟨k,he⟩)
   have xj:=fun w=>zZ w 2
   have xk:=fun w=>uY w 2 0
   go_wp2_with fail;exact⟨rfl,qv _ _ J.keep rfl⟩
  ·obtain⟨u,hu⟩:=zX9 (decide (ptB (eS b)=b))
   have HU:=O hu;have V:=Iz w8 _ (.slice (some ⟨g,o,none⟩) 47 c) (ptB (eS b)) b xg.out (by rw[Z.out];exact zk.out _ J.keep);rw[hu] at V;have V:=O V;clear hu;go_wp2_with fail;refine V.mono ?_;rintro e w9 ⟨rfl,zv⟩;have H:=O (J.same zv);have Q:=O (aD H.pt);rw[qu.out] at Q;clear zv V J;cases u
   ·have qv:Hid (∀w' e,aA aB w w'->e=.panicked (pE 2 0)->iI w b e w'):=O (fun w' e k he=>by
     unfold iI;rw[show gE b=false by unfold gE;rw[HU.out];simp,if_neg (by decide),if_pos Z.out];exact⟨k,he⟩)
    have xj:=fun w=>zZ w 2
    have xk:=fun w=>uY w 2 0
    go_wp2_with fail;exact⟨rfl,qv _ _ H.keep rfl⟩
   ·have q5:=H.res
    rw[HZ.out] at q5;have xf:=O q5
    have xn:∀x∈pc,x.oneCell'=true:=by
     intro x hx;rw[←qu.out] at hx;unfold aL at hx;simp only[List.mem_cons] at hx;rcases hx with rfl|rfl|rfl|hx
     ·rfl
     ·rfl
     ·rfl
     ·exact bA _ x hx
    clear q5
    go_wp2_with (first
     | ((with_reducible show WL _ (.load 33 (.tmp 4)));refine wpList_load_mid rfl 33 (.tmp 4) rfl (pb) 0 rfl pc _ Q.out bJ rfl (cI X) ?_)
     | ((with_reducible show WL none (.store 33 (.tmp 2) (.tmp 71)));refine aE rfl 33 (.tmp 2) (.tmp 71) rfl rb 0 pc rfl rfl zc.toArray 33 xf.out (by rw[X,List.size_toArray,zb];exact Nat.le_refl _) (cI X) xn ?_;intro xu qq qr;have ze:=O qq;have qp:=O qr;clear qq qr))
    refine bodyPost_ret (results_cell_row rfl _ _ rb _ _ _ _ rfl ze.out bJ rfl (by rw[cU,List.size_toArray,zb];exact Bl)) rfl ?_;have E:aA aB w xu:=H.keep.tT qp.out (fun i D e=>by have:=H.ord;omega);refine⟨E,?_⟩;rw[if_pos (by unfold gE;rw[Z.out,HT.out,HU.out];rfl)];refine⟨_,by rw[aI _ _ (by rw[X,List.size_toArray,zb]),←qu.out],?_⟩;have e:(eS b).addrs.length=q:=qc.out;rw[e];exact aQ (qp.owns H.row (fun i D e=>by have:=aX H.row D;have:=H.ord;omega)) (by have:=H.ord;omega)
open Go.RowKit Go.Maps Go.ChangeMaps
set_option maxRecDepth 100000
set_option linter.unusedVariables false
theorem Cp(w:World):(zeroValue 254).run prog w=.ok (.agg #[.int .i64 0,.int .i64 0]) w:=by kernel_rfl
theorem Kz(w:World):(zeroValue 364).run prog w=.ok (.agg #[.int .i64 0,.int .i64 0]) w:=by kernel_rfl
theorem KA:(prog.info? 364).map (·.size)=some 2:=by kernel_rfl
theorem tS{D:Func}{p q:Tmp}{m r:TypeId}(h:D.results=#[.cell p m,.cell q r])(tmps:Array Value)(w:World)(g j:Nat)(t F:TypeId)(f a:Array Value)(E e:Nat×Nat)(d s:TypeDesc)
 (J:tmps.getD p undef=.pointer g) (H:w.heap[g]?=some (.cells f t E)) (L:P.underlying m=some d) (G:(match d with|.struct _|.array _ _=>true|_=>false)=true) (I:(P.info? m).map (·.size)=some f.size)
 (z:tmps.getD q undef=.pointer j) (x:w.heap[j]?=some (.cells a F e)) (C:P.underlying r=some s) (u:(match s with|.struct _|.array _ _=>true|_=>false)=true) (y:(P.info? r).map (·.size)=some a.size) :
 (results D tmps).run P w=.ok (.tuple #[.agg f,.agg a]) w:=by
 have K:tmps[p]?.getD undef=.pointer g:=by simpa using J
 have A:tmps[q]?.getD undef=.pointer j:=by simpa using z
 simp[results,h,K,A,asAddr,run_loadVar_row w g t m f E d H L G I,run_loadVar_row w j F r a e s x C u y]
theorem Gf(A F:Nat)(w:World) :
 CallsD prog 270 #[.pointer A,.pointer F] .returning w fun e h w'=>e=.returned (.tuple #[])/\h=.returning/\w'=w:=by
 refine callsD_of_wpS func270 rfl fun a j f=>?_
 apply wpS_seq;apply wpS_region;simp[wpOpsS,go_sem,recoverD,f,ntmps270,Exit.thenS];refine wpS_of_wp ?_;go_wp2_with fail;cases a
 simp_all [bodyPostS,results,results270]
def Pa(A F:Nat)(f a:Int)(w:World)(e:Ending)(h:FrameMode)(w':World):Prop:=
 e=.returned (.tuple #[])/\h=.panicking [{ v:=.iface 364 (.agg #[.int .i64 f,.int .i64 a]),recovered:=true }] /\
 w'.heap[A]?=some (.cells (aL (.slice none 0 0) zPt).toArray 33 (0,0))/\w'.heap[F]?=some (.cells #[.int .i64 f,.int .i64 a] 254 (0,0))/\aA (fun k=>k=A\/k=F) w w'
theorem Gg(A F:Nat)(z y:Int)(w:World)(V:A≠F)(t:Array Value)(hA:w.heap[A]?=some (.cells t 33 (0,0)))(Z:t.size=35)(hF:w.heap[F]?=some (.cells #[.int .i64 0,.int .i64 0] 254 (0,0))) :
 CallsD prog 270 #[.pointer A,.pointer F] (.panicking (pE z y)) w (Pa A F z y w):=by
 have qa:∀(w:World),Sem.run prog (Instr.typeAssert (.iface 364 (.agg #[.int .i64 z,.int .i64 y])) 20 364 true) w=.ok (.tuple #[.agg #[.int .i64 z,.int .i64 y],.bool true]) w:=fun w=>by kernel_rfl
 have qj:=lt_of_block hA;have qk:=lt_of_block hF;have HA:=O hA;have HF:=O hF;have K:∀w,(Instr.build 33 #[]).run prog w=.ok (.agg (aL (.slice none 0 0) zPt).toArray) w:=fun w=>by kernel_rfl
 obtain⟨zc,p⟩:=zX9 (aL (.slice none 0 0) zPt)
 have N:zc.length=35:=by rw[←p];rfl
 have qi:∀u∈zc,u.oneCell'=true:=by
  rw[←p];intro x hx;unfold aL at hx;simp only[List.mem_cons] at hx;rcases hx with rfl|rfl|rfl|hx
  ·rfl
  ·rfl
  ·rfl
  ·exact bA _ x hx
 have HZ:=O p;rw[p] at K;have qm:=O K;clear hA hF p;refine callsD_of_wpS func270 rfl fun c₀ cs hu=>?_
 simp only[ntmps270,List.size_toArray,List.length_cons,List.length_nil,Nat.reduceAdd,Nat.reduceSub,Array.replicate_succ,
  Array.replicate_zero,List.push_toArray,List.append_toArray,List.nil_append,List.cons_append]
 apply wpS_seq;apply wpS_region;simp[wpOpsS,go_sem,recoverD,hu,pE,Exit.thenS];refine wpS_of_wp ?_;obtain⟨j,f⟩:∃j:List Value,j=[.int .i64 z,.int .i64 y]:=⟨_,rfl⟩
 have a:j.length=2:=by rw[f];rfl
 have qc:∀u∈j,u.oneCell'=true:=by rw[f];simp[Value.oneCell']
 have R:=O f;have ql:∀(w:World),Sem.run prog (Instr.typeAssert (.iface 364 (.agg j.toArray)) 20 364 true) w=.ok (.tuple #[.agg j.toArray,.bool true]) w:=by rw[f];exact qa
 rw[show (#[Value.int .i64 z,.int .i64 y]:Array Value)=j.toArray by rw[f]];clear f qa K
 go_wp2_with (first
  | ((with_reducible show WL (some 3) (.alloc 364));refine aG rfl 364 rfl _ Kz #[.int .i64 0,.int .i64 0] rfl ?_)
  | ((with_reducible show WL none (.store 364 (.tmp 3) (.tmp 11)));refine aE rfl 364 (.tmp 3) (.tmp 11) rfl w.heap.size 0 j rfl rfl #[.int .i64 0,.int .i64 0] 364 (heap_alloc_new _ _) (by rw[a];exact Nat.le_refl _) (by rw[a];exact KA) qc ?_
     intro r I Y;rw[aI _ _ (by rw[a];rfl)] at I;have qe:=O I;have s:Hid (aA aB w r):=O (((aA.refl aB w).alloc _).tT Y (fun i hi e=>by omega));clear I Y))
 have qd:=O (s.blk HA.out id);have qf:=O (s.blk HF.out id);obtain⟨S,E⟩:∃S:World->Prop,S=fun w'=>aA (fun k=>k=A\/k=F) r w':=⟨_,rfl⟩
 have m:=O (show ∀w',S w'->aA (fun k=>k=A\/k=F) r w' from fun w' h=>by rw[E] at h;exact h);have q:=O (show ∀w',aA (fun k=>k=A\/k=F) r w'->S w' from fun w' h=>by rw[E];exact h);have Q:S r.drew:=q.out _ (aA.refl _ _).drew;have C:=(aA.refl aB r).drew.blk qd.out id;have D:=(aA.refl aB r).drew.blk qf.out id;clear E;refine wp_region_held (S:=S) (by kernel_rfl) ?_;change wpAnyH _ _ _ _ _ _ _ _ r.drew;generalize r.drew=w3 at Q C D ⊢;refine tkd 0 (.agg zc.toArray) rfl (.inl ⟨by rfl,fun w' _=>by go_simp;exact HZ.out⟩) Q ?_;simp only[Act.put,List.setIfInBounds_toArray,List.set_cons_zero,List.set_cons_succ,List.getElem_toArray,List.getElem_cons_zero];refine tnb 1 (.pointer (w.heap.size)) rfl Q ?_;refine tnd 2 (.agg j.toArray) rfl (yieldsIf_load_mid (by rfl) 254 (.tmp 17) rfl w.heap.size 0 rfl j _ (fun w' h=>aD ((m w' h).blk qe.out (by omega))) underlying254 rfl (by rw[a];exact gA)) Q ?_;refine wA9 3 ?_;refine aE rfl 33 (.tmp 0) (.tmp 16) rfl A 0 zc rfl rfl t 33 C (by rw[N,Z];exact Nat.le_refl _) (cI N) qi ?_;intro w4 J L;rw[aI _ _ (by rw[N,Z])] at J;have G:S w4:=q.out _ ((m _ Q).trans' L (U:=fun k=>k=A\/k=F) (fun _ _ h=>h) (fun i hi e=>.inl e));have W:=L.blk D (fun e=>V e.symm);clear Q C D L;refine wpList_nil ?_;refine⟨G,?_⟩;refine wA9 4 ?_;refine aE rfl 254 (.tmp 1) (.tmp 18) rfl F 0 j rfl rfl #[.int .i64 0,.int .i64 0] 254 W (by rw[a];exact Nat.le_refl _) (by rw[a];exact gA) qc ?_;intro w5 X M;rw[aI _ _ (by rw[a];rfl)] at X;have H:S w5:=q.out _ ((m _ G).trans' M (U:=fun k=>k=A\/k=F) (fun _ _ h=>h) (fun i hi e=>.inr e));have qh:=M.blk J V;clear G J W M;refine wpList_nil ?_;refine⟨H,?_⟩;refine wpAnyH_done (by kernel_rfl) ?_ _;have qg:=O (m _ H);clear H m q;go_wp2_with fail;refine⟨rfl,_,rfl,_,results_none rfl _ _ _,rfl,by rw[R.out],?_,?_,?_⟩
 ·rw[HZ.out];exact qh
 ·rw[show (#[Value.int .i64 z,.int .i64 y]:Array Value)=j.toArray by rw[R.out]];exact X
 ·exact(s.mono (fun _ _ h=>h.elim)).trans qg.out
open Go.RowKit Go.Maps Go.ChangeMaps
set_option maxRecDepth 100000
set_option linter.unusedVariables false
def zA(b:List UInt8):Int×Int:=if b.length=47 then (2,0) else (4,min b.length 47)
def KC(w:World)(b:List UInt8)(e:Ending)(w':World):Prop:=
 aA aB w w'/\if gE b then ∃v,e=.returned (.tuple #[.agg (aL v (eS b)).toArray,.agg #[.int .i64 0,.int .i64 0]])/\w'.ownsRow w.heap.size 93 2 v (eS b).addrs.length (aJ (eS b).addrs)
  else e=.returned (.tuple #[.agg (aL (.slice none 0 0) zPt).toArray,.agg #[.int .i64 (zA b).1,.int .i64 (zA b).2]])
theorem dE{f:Option Addr}{e:Nat}(p:Pt):∀u∈aL (.slice f n e) p,u.oneCell'=true:=by
 intro x a;unfold aL at a;simp only[List.mem_cons] at a;rcases a with rfl|rfl|rfl|a
 ·rfl
 ·rfl
 ·rfl
 ·exact bA _ x a
theorem M0(w:World)(a:Value)(b:List UInt8)(e:Rd w 1 a b.length (b.map vb)):Calls prog 271 #[a] w (iI w b):=by
 by_cases h:b.length=47
 ·exact Ky w a b e h
 ·exact MZ w a b e h
theorem C0(w:World)(bv:Value)(b:List UInt8)(hr:Rd w 1 bv b.length (b.map vb)):Calls prog 258 #[bv] w (KC w b):=by
 have HC:=O (fun wx (k:aA aB w wx)=>M0 wx bv b (hr.keep k fun _ _=>id));obtain⟨a,ca,rfl,-,-⟩:=hr.form;obtain⟨n,hn⟩:=zX9 b.length
 rw[hn] at HC ⊢;have hz:=tR;obtain⟨zc,D⟩:=zX9 (aL (.slice none 0 0) zPt)
 have N:zc.length=35:=by rw[←D];rfl
 have HZ:=O D;have HN:=O hn;rw[D] at hz;obtain⟨wa,qk,ka,ha,sa⟩:=aM w zc.toArray 33;obtain⟨wb,ql,kb,hb,sb⟩:=aM wa #[.int .i64 0,.int .i64 0] 254;obtain⟨rb,M⟩:=zX9 w.heap.size
 obtain⟨y,qa⟩:=zX9 wa.heap.size
 have qo:rb<y:=by omega
 rw[M] at ha;rw[qa] at hb;have F:=O (kb.blk ha id);have E:=O hb;have W:=O (ka.trans kb);have p:=O M;have J:Hid (wb.heap.size=y+1):=O (by omega);have qn:∀(fn:Fn) (first Y:Array Value) (w:World),(Instr.makeFunc fn first Y).run prog w=.ok (.func fn first Y) w:=fun _ _ _ _=>rfl
 clear hr ka kb ha hb sa sb D hn
 go_enter_defers func258,ntmps258
 go_wp2_with (first
  | ((with_reducible show WL (some 2) (.alloc 33));refine aG rfl 33 rfl _ hz zc.toArray rfl ?_;rw[qk,M])
  | ((with_reducible show WL (some 3) (.alloc 254));refine aG rfl 254 rfl _ Cp #[.int .i64 0,.int .i64 0] rfl ?_;rw[ql,qa]))
 refine(HC _ W.out).mono ?_;intro e w4 j;unfold iI at j;obtain⟨z,j⟩:=j;have X:=O (z.blk F.out id);have H:=O (z.blk E.out id);have R:=O (W.trans z);have qm:Hid (y<w4.heap.size):=O (lt_of_block H.out);clear z F E HC;obtain⟨t,ht⟩:=zX9 (gE b)
 have HT:=O ht;rw[ht] at j;clear ht;cases t
 ·rw[if_neg (by decide)] at j
  obtain⟨er,ea,rfl,Z⟩:∃er ea,e=.panicked (pE er ea)/\zA b=(er,ea):=by
   unfold zA
   by_cases h:b.length=47
   ·rw[if_pos h] at j ⊢
    exact⟨_,_,j,rfl⟩
   ·rw[if_neg h] at j ⊢
    exact⟨_,_,j,rfl⟩
  have qe:=O Z;clear j Z;go_wp2_with fail;refine leaves_cons (f:=270) (args:=#[.pointer rb,.pointer y]) (by simp) (by simp[go_sem]) ?_;refine(Gg rb y er ea w4 (by omega) _ X.out (by rw[List.size_toArray,N]) H.out).mono ?_;rintro e u' w5 ⟨rfl,rfl,q,qi,r⟩;refine⟨_,tS rfl _ _ rb y _ _ _ _ _ _ _ _ rfl q bJ rfl (by rw[List.size_toArray,bB rfl];exact Bl) rfl qi underlying254 rfl gA,?_,?_⟩
  ·exact R.tT r (fun i Q e=>by have:=p.out;omega)
  ·rw[HT.out,if_neg (by decide),qe.out]
 ·rw[if_pos rfl] at j
  obtain⟨v,rfl,A⟩:=j;obtain⟨m,hm⟩:=zX9 ((eS b).addrs.length)
  have HM:=O hm;rw[hm] at A;obtain⟨va,vc,rfl,-,-⟩:=(Rd.of_owns A).form;have I:=O A
  have G:b.length=47:=by
   have h:=HT.out;unfold gE at h;simp only[Bool.and_eq_true,decide_eq_true_eq] at h;exact h.1.1
  obtain⟨pc,s⟩:=zX9 (aL (.slice va m vc) (eS b))
  have C:pc.length=35:=by rw[←s];exact bB (by show (b.drop 15).length=32;rw[List.length_drop,G])
  have qj:∀u∈pc,u.oneCell'=true:=by rw[←s];exact dE _
  have qh:=O s;rw[s];clear A hm s G
  go_wp2_with (first
   | ((with_reducible show WL none (.store 33 (.tmp 2) (.tmp 6)));refine aE rfl 33 (.tmp 2) (.tmp 6) rfl rb 0 pc rfl rfl zc.toArray 33 X.out (by rw[C,List.size_toArray,N];exact Nat.le_refl _) (cI C) qj ?_;intro w5 q r;rw[aI _ _ (by rw[C,List.size_toArray,N])] at q;have qf:=O (r.blk H.out (by omega));have qc:=O q;have S:=O r;clear q r)
   | ((with_reducible show WL none (.store 254 (.tmp 3) (.tmp 7)));refine aE rfl 254 (.tmp 3) (.tmp 7) rfl y 0 [.int .i64 0,.int .i64 0] rfl rfl #[.int .i64 0,.int .i64 0] 254 qf.out (Nat.le_refl _) gA (by simp[Value.oneCell']) ?_;intro w6 K L;rw[aI _ _ (by rfl)] at K;have qd:=O (L.blk qc.out (by omega));have qg:=O K;have V:=O L;clear K L))
  refine leaves_cons (f:=270) (args:=#[.pointer rb,.pointer y]) (by simp) (by simp[go_sem]) ?_;refine(Gf _ _ _).mono ?_;rintro e u' qp ⟨rfl,rfl,rfl⟩;refine⟨_,tS rfl _ _ rb y _ _ _ _ _ _ _ _ rfl qd.out bJ rfl (by rw[List.size_toArray,C];exact Bl) rfl qg.out underlying254 rfl gA,?_,?_⟩
  ·exact(R.trans' S.out (U:=aB) (fun _ _ h=>h) (fun i Q e=>by have:=p.out;omega)).tT V.out (fun i Q e=>by have:=p.out;omega)
  ·rw[HT.out,if_pos rfl]
   refine⟨_,by rw[qh.out],?_⟩;rw[HM.out];have h5:=S.owns I.out (fun i Q e=>by have:=aX I.out Q;have:=J.out;omega);exact aQ (V.owns h5 (fun i Q e=>by have:=aX I.out Q;have:=J.out;omega)) (by have:=p.out;have:=J.out;omega)
theorem Nu(n k:Nat):be n (k+1)=be (n / 256) k++[UInt8.ofNat n]:=by
 unfold be;rw[List.range_succ,List.map_append,List.map_cons,List.map_nil]
 congr 1
 ·refine List.map_congr_left fun j a=>?_
  rw[List.mem_range] at a;unfold jH;rw[show 8*(k+1-1-j)=8*(k-1-j)+8 by omega,Nat.pow_add,Nat.mul_comm,←Nat.div_div_eq_div_mul]
 ·unfold jH
  simp
theorem Pp(n:Nat):∀k,beN (be n k)=n % 256 ^ k:=by
 intro k
 induction k generalizing n with
 | zero=>simp[be,beN,Nat.mod_one]
 | succ k e =>
   rw[Nu,uX,e];have a:(UInt8.ofNat n).toNat=n % 256:=by simp
   rw[a,Nat.pow_succ,Nat.mul_comm (256 ^ k) 256,Nat.mod_mul];omega
theorem kP{z:Int}(h0:0≤z)(h:z<256 ^ k):(beN (be z.toNat k):Int)=z:=by
 rw[Pp,Nat.mod_eq_of_lt]
 ·exact Int.toNat_of_nonneg h0
 ·have:((z.toNat:Nat):Int)<((256 ^ k:Nat):Int):=by rw[Int.toNat_of_nonneg h0];simpa using h
  exact_mod_cast this
theorem oE{A B C:List UInt8}(a:A.length=i)(e:B.length=k):((A++(B++C)).drop i).take k=B:=by
 subst a e;rw[List.drop_left,List.take_left]
theorem IU(p:Pt)(i:Nat)(h:i<3):((cC p).drop (1+3*i)).take 1=be (p.addrs.getD i zAd).dev.toNat 1/\((cC p).drop (1+3*i+1)).take 2=be (p.addrs.getD i zAd).sec.toNat 2:=by
 have a:i=0\/i=1\/i=2:=by omega
 rcases a with rfl|rfl|rfl<;>exact⟨rfl,rfl⟩
theorem Lb{p:Pt}(r:p.may=true)(h:i<3):AH (cC p) i=p.addrs.getD i zAd:=by
 obtain⟨f,j⟩:=IU p i h;obtain⟨d,s,m,q,t⟩:=Km (pD r).2.1 i;unfold AH;rw[f,j,m];have a:=kP (z:=(d:Int)) (k:=1) (by omega) (by omega);have e:=kP (z:=(s:Int)) (k:=2) (by omega) (by omega);show (⟨_,_⟩:Ad)=_;rw[a,e]
theorem Lc{p:Pt}(A:p.sum.length=32)(e:p.may=true):eS (cC p)=p:=by
 obtain⟨f,u,h,x,j,y⟩:=pD e
 have t:beN ((cC p).take 1)=p.addrs.length:=by
  have h0:(cC p).take 1=be p.addrs.length 1:=rfl;have:=kP (z:=(p.addrs.length:Int)) (k:=1) (by omega) (by omega);rw[h0];rw[Int.toNat_natCast] at this
  exact_mod_cast this
 have s:dY (cC p) 3=p.addrs:=by
  unfold dY;rw[t,Nat.min_eq_left f];apply List.ext_getElem?;intro i;rw[List.getElem?_map]
  by_cases a:i<p.addrs.length
  ·rw[List.getElem?_range a,Option.map_some,Lb e (by omega),List.getD_eq_getElem?_getD,List.getElem?_eq_getElem a]
   rfl
  ·rw[List.getElem?_eq_none (by simpa using a),List.getElem?_eq_none (by omega)]
   rfl
 have l3:(cF p 3).length=10:=fF p 3
 have m:((cC p).drop 10).take 4=be p.birth.toNat 4:=by
  unfold cC;rw[List.append_assoc,List.append_assoc];exact oE l3 (bK _ _)
 have q:((cC p).drop 14).take 1=be p.level.toNat 1:=by
  unfold cC;rw[List.append_assoc];exact oE (by rw[List.length_append,l3,bK]) (bK _ _)
 have r:(cC p).drop 15=p.sum:=by
  unfold cC;have:(cF p 3++be p.birth.toNat 4++be p.level.toNat 1).length=15:=by rw[List.length_append,List.length_append,l3,bK,bK]
  rw[←this,List.drop_left]
 unfold eS;rw[s,m,q,r,kP h (by omega),kP j (by omega)]
end
end Go.Proofs.YtoeinblfcbpcmaaGreatDoor
