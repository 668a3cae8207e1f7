import Derived.Test.YtiinnfhjpaeffaaGreatA1
import Derived.Test.YtiinnfhjpaeffaaGreatA8
import Derived.Test.YtiinnfhjpaeffaaGreatA16
namespace Go.Proofs.YtiinnfhjpaeffaaGreat
set_option maxHeartbeats 64000000
set_option maxRecDepth 100000
set_option linter.unusedVariables false
section
open Go.RowKit Go.Maps Go.ChangeMaps
structure Pt where
 addrs:List Ad
 birth:Int
 level:Int
 sum:List UInt8
def eP:List UInt8:=List.replicate 32 0
def Pt.noth(p:Pt):Bool:=(p.birth == 0) && (p.level == 0) && decide (p.sum=eP)
def Pt.hole(p:Pt):Bool:=((p.addrs.length:Int) == 0) && p.noth
def kM(a:Ad):Bool:=decide (0≤a.dev) && decide (a.dev<8) && decide (5≤a.sec) && decide (a.sec<4096)
def qX(l:List Ad):Bool:=l.all kM && decide ((l.map (·.dev)).Nodup) && decide (1≤l.length) && decide (l.length≤3)
def Pt.numsB(p:Pt):Bool:=decide (1≤p.birth) && decide (p.birth≤2147483648) && decide (0≤p.level) && decide (p.level≤3)
def Pt.may(p:Pt):Bool:=p.hole || (qX p.addrs && p.numsB)
def Pt.like(p q:Pt):Bool:=(p.birth == q.birth) && (p.level == q.level) && decide (p.sum=q.sum) && (decide (0<p.addrs.length) == decide (0<q.addrs.length))
structure Ub where
 txg:Int
 root:Pt
 len:Int
 pool:List UInt8
def Ub.may(u:Ub):Bool:=decide (1≤u.txg) && decide (u.txg≤2147483648) && decide (0≤u.len) && decide (u.len≤16384) && (u.root.hole || (u.root.may && (u.root.level == 3) && decide (u.root.birth≤u.txg)))
def aE(v:Value)(p:Pt):List Value:=v::.int .i64 p.birth::.int .i64 p.level::p.sum.map vb
def dW(v:Value)(u:Ub):List Value:=.int .i64 u.txg::(aE v u.root++(.int .i64 u.len::u.pool.map vb))
variable{v:Value}{w w':World}{b o n d:Nat}{l:List Ad}{T:Nat->Prop}{P:Program}
theorem aJ{p:Pt}(h:p.sum.length=32):(aE v p).length=35:=by simp[aE,h]
theorem kX{u:Ub}(h:u.root.sum.length=32)(a:u.pool.length=32):(dW v u).length=69:=by simp[dW,aE,h,a]
theorem qK{A B C:List Value}(h:w.rangeAt b o (A++(B++C))):w.rangeAt b (o+A.length) B:=fun j v a=>by
 have c:=(List.getElem?_eq_some_iff.1 a).1;have:=h (A.length+j) v (by rw[List.getElem?_append_right (by omega),show A.length+j-A.length=j by omega,List.getElem?_append_left c];exact a)
 rwa [←Nat.add_assoc] at this
theorem bQ{p:Pt}(h:w.rangeAt b o (aE v p)):w.cell? ⟨b,o,none⟩=some v/\w.cell? ⟨b,o+1,none⟩=some (.int .i64 p.birth)/\w.cell? ⟨b,o+2,none⟩=some (.int .i64 p.level)/\w.rangeAt b (o+3) (p.sum.map vb):=by
 refine⟨h 0 _ rfl,h 1 _ rfl,h 2 _ rfl,?_⟩;have a:w.rangeAt b o ([v,.int .i64 p.birth,.int .i64 p.level]++(p.sum.map vb++[])):=by rw[List.append_nil];exact h
 exact qK a
theorem gF{u:Ub}(f:u.root.sum.length=32)(h:w.rangeAt b o (dW v u)):w.cell? ⟨b,o,none⟩=some (.int .i64 u.txg)/\w.rangeAt b (o+1) (aE v u.root)/\w.cell? ⟨b,o+36,none⟩=some (.int .i64 u.len)/\w.rangeAt b (o+37) (u.pool.map vb):=by
 refine⟨h 0 _ rfl,?_,?_,?_⟩
 ·have a:w.rangeAt b o ([.int .i64 u.txg]++(aE v u.root++(.int .i64 u.len::u.pool.map vb))):=h
  exact qK a
 ·have a:w.rangeAt b o ((.int .i64 u.txg::aE v u.root)++([.int .i64 u.len]++u.pool.map vb)):=h
  have c:=qK a 0 _ rfl;rw[show (Value.int .i64 u.txg::aE v u.root).length=36 by rw[List.length_cons,aJ f]] at c;exact c
 ·have a:w.rangeAt b o ((.int .i64 u.txg::(aE v u.root++[.int .i64 u.len]))++(u.pool.map vb++[])):=by
   have e:dW v u=(.int .i64 u.txg::(aE v u.root++[.int .i64 u.len]))++(u.pool.map vb++[]):=by simp[dW]
   rw[←e];exact h
  have c:=qK a;rw[show (Value.int .i64 u.txg::(aE v u.root++[.int .i64 u.len])).length=37 by rw[List.length_cons,List.length_append,aJ f];rfl] at c;exact c
theorem aH:Tryz.prog.underlying 27=some (.struct (Tryz.prog.fieldsOf 27)):=by kernel_rfl
theorem zC:(Tryz.prog.info? 27).map (·.size)=some 35:=by kernel_rfl
theorem lG:Tryz.prog.underlying 45=some (.struct (Tryz.prog.fieldsOf 45)):=by kernel_rfl
theorem NA:(Tryz.prog.info? 45).map (·.size)=some 69:=by kernel_rfl
theorem bY{l:List Value}(h:l.length=35):(Tryz.prog.info? 27).map (·.size)=some l.length:=by rw[h];exact zC
theorem E9{l:List Value}(h:l.length=69):(Tryz.prog.info? 45).map (·.size)=some l.length:=by rw[h];exact NA
theorem rQ{l:List Value}(h:l.length=32):(Tryz.prog.info? 25).map (·.size)=some l.length:=by rw[h];exact nU
theorem Ks(w:World):(sizeOf 5).run Tryz.prog w=.ok 1 w:=by kernel_rfl
theorem C3(a ys:List UInt8)(c:a.length=32)(hy:ys.length=32)(w:World):Sem.run Tryz.prog (binOp .eql 25 (.agg (a.map vb).toArray) (.agg (ys.map vb).toArray)) w=.ok (.bool (decide (a=ys))) w:=by
 have:=run_eql_bytes (P:=Tryz.prog) w 25 5 32 Tryz.underlying25 Tryz.underlying5 Ks a ys c hy;rw[show decide (a=ys)=(a == ys) by rw[Bool.eq_iff_iff];simp];exact this
theorem Mt:Tryz.prog.eqGuardType Tryz.prog.depth 25=false:=by kernel_rfl
theorem Mu(w:World):(Instr.build 25 #[]).run Tryz.prog w=.ok (.agg (eP.map vb).toArray) w:=by kernel_rfl
structure PtV(w:World)(v:Value)(p:Pt):Prop where
 rd:Rd w 2 v p.addrs.length (aF p.addrs)
 ads:iA p.addrs
 sum:p.sum.length=32
theorem PtV.keep{p:Pt}(h:PtV w v p)(k:aA T w w')(a:∀i,v.ownBlock=some i->¬T i):PtV w' v p:=⟨h.rd.keep k a,h.ads,h.sum⟩
structure UbV(w:World)(v:Value)(u:Ub):Prop where
 root:PtV w v u.root
 pool:u.pool.length=32
theorem UbV.keep{u:Ub}(h:UbV w v u)(k:aA T w w')(a:∀i,v.ownBlock=some i->¬T i):UbV w' v u:=⟨h.root.keep k a,h.pool⟩
theorem Kt:((n:Int) == 0)=decide (n=0):=by rw[Bool.eq_iff_iff];simp
theorem Ku(w:World)(v:Value)(p:Pt)(h0:PtV w v p):Calls Tryz.prog 109 #[.agg (aE v p).toArray] w (aX w p.noth):=by
 obtain⟨J,s,i,a,m⟩:=aS w (aE v p).toArray 27;obtain⟨G,b0,c0,y⟩:=bQ (aD a);have h:=O y;have k:=O a;have H:(aE v p).length=35:=aJ h0.sum;simp only[Nat.zero_add] at G b0 c0;have D:=O i;have c:=C3 p.sum eP h0.sum rfl;have j:(p.sum.map vb).length=32:=by rw[List.length_map];exact h0.sum
 obtain⟨t1,q⟩:∃t:Bool,(p.birth == 0)=t:=⟨_,rfl⟩
 obtain⟨C,r⟩:∃t:Bool,(p.level == 0)=t:=⟨_,rfl⟩
 obtain⟨u,g⟩:∃t:Bool,decide (p.sum=eP)=t:=⟨_,rfl⟩
 have A:p.noth=(t1 && C && u):=by unfold Pt.noth;rw[q,r,g]
 rw[A];rw[g] at c;obtain⟨B,f⟩:∃x,p.sum.map vb=x:=⟨_,rfl⟩
 have F:=O f;obtain⟨I,e⟩:∃x,aE v p=x:=⟨_,rfl⟩
 have E:=O e;rw[f] at c j h;rw[e] at s ⊢;have z:∀w,Sem.run Tryz.prog (binOp .eql 25 (.agg B.toArray) (.agg #[.int .u8 0,.int .u8 0,.int .u8 0,.int .u8 0,.int .u8 0,.int .u8 0,.int .u8 0,.int .u8 0,.int .u8 0,.int .u8 0,.int .u8 0,.int .u8 0,.int .u8 0,.int .u8 0,.int .u8 0,.int .u8 0,.int .u8 0,.int .u8 0,.int .u8 0,.int .u8 0,.int .u8 0,.int .u8 0,.int .u8 0,.int .u8 0,.int .u8 0,.int .u8 0,.int .u8 0,.int .u8 0,.int .u8 0,.int .u8 0,.int .u8 0,.int .u8 0])) w=.ok (.bool u) w:=c;clear c;clear A g a y i m f e h0 k
 cases t1<;>cases C<;>cases u<;>(
  go_in
  go_wp2_with (first
   | ((with_reducible show WL _ (.load 25 (.tmp 12)));refine aP (by rfl) 25 (.tmp 12) rfl (w.heap.size) 3 rfl B _ h.out Tryz.underlying25 rfl (rQ j) ?_))
  go_ret;exact⟨rfl,D.out⟩)
theorem cL(w:World)(v:Value)(p:Pt)(h0:PtV w v p):Calls Tryz.prog 65 #[.agg (aE v p).toArray] w (aX w p.hole):=by
 obtain⟨A,s,J,-,-⟩:=h0.rd.form;subst J;obtain⟨L,z,c,a,y⟩:=aS w (aE (.slice A p.addrs.length s) p).toArray 27;obtain⟨C,b0,c0,D⟩:=bQ (aD a);have r:=O D;have i:=O a;have k:(aE (.slice A p.addrs.length s) p).length=35:=aJ h0.sum;simp only[Nat.zero_add] at C b0 c0;have m:=O (Ku L _ p (h0.keep c fun _ _=>id));have B:=O c;obtain⟨t1,g⟩:∃t:Bool,((p.addrs.length:Int) == 0)=t:=⟨_,rfl⟩
 obtain⟨H,h⟩:∃t:Bool,p.noth=t:=⟨_,rfl⟩
 have F:p.hole=(t1 && H):=by unfold Pt.hole;rw[g,h]
 rw[F];rw[h] at m;have j:=O (aD i.out);obtain⟨K,f⟩:∃x,aE (.slice A p.addrs.length s) p=x:=⟨_,rfl⟩
 have I:=O f;rw[f] at z m k j ⊢;obtain⟨n,u⟩:∃x,p.addrs.length=x:=⟨_,rfl⟩
 have M:=O u;rw[u] at C g;have G:decide (n=0)=t1:=by rw[←g,Kt]
 clear F h a D c y f h0 i r u;cases t1
 ·go_in
  go_wp2;go_ret;exact⟨rfl,B.out⟩
 ·go_in
  go_wp2_with (first
   | ((with_reducible show WL _ (.load 27 (.tmp 1)));refine aP (by rfl) 27 (.tmp 1) rfl (w.heap.size) 0 rfl K _ j.out aH rfl (bY k) ?_))
  refine m.mono ?_;rintro e N ⟨rfl,E⟩;have q:=O (B.trans E);clear E m
  cases H<;>(
   go_wp2;go_ret;exact⟨rfl,q.out⟩)
theorem Kv(w:World)(v u:Value)(p q:Pt)(h0:PtV w v p)(A:PtV w u q):Calls Tryz.prog 72 #[.agg (aE v p).toArray,.agg (aE u q).toArray] w (aX w (p.like q)):=by
 obtain⟨H,F,R,-,-⟩:=h0.rd.form;subst R;obtain⟨I,G,R,-,-⟩:=A.rd.form;subst R;obtain⟨E,e⟩:∃E,(w.alloc (.cells (aE (.slice H p.addrs.length F) p).toArray 27)).alloc (.cells (aE (.slice I q.addrs.length G) q).toArray 27)=E:=⟨_,rfl⟩
 have a:E.heap[w.heap.size]?=some (.cells (aE (.slice H p.addrs.length F) p).toArray 27 (0,0)):=by rw[←e];exact heap_alloc2_old _ _ _
 have c:E.heap[w.heap.size+1]?=some (.cells (aE (.slice I q.addrs.length G) q).toArray 27 (0,0)):=by rw[←e];exact heap_alloc2_new _ _ _
 have B:aA aB w E:=by rw[←e];exact((aA.refl _ _).alloc _).alloc _
 obtain⟨V,b0,c0,X⟩:=bQ (aD a);have y:=O X;have J:=O a;have hl0:(aE (.slice H p.addrs.length F) p).length=35:=aJ h0.sum;simp only[Nat.zero_add] at V b0 c0;obtain⟨W,b1,c1,Y⟩:=bQ (aD c);have z:=O Y;have K:=O c;have hl1:(aE (.slice I q.addrs.length G) q).length=35:=aJ A.sum;simp only[Nat.zero_add] at W b1 c1;have HK:=O B;have f:=C3 p.sum q.sum h0.sum A.sum;have D:(p.sum.map vb).length=32:=by rw[List.length_map];exact h0.sum
 have C:(q.sum.map vb).length=32:=by rw[List.length_map];exact A.sum
 obtain⟨t1,N⟩:∃t:Bool,(p.birth == q.birth)=t:=⟨_,rfl⟩
 obtain⟨t2,Q⟩:∃t:Bool,(p.level == q.level)=t:=⟨_,rfl⟩
 obtain⟨t3,j⟩:∃t:Bool,decide (p.sum=q.sum)=t:=⟨_,rfl⟩
 obtain⟨S,k⟩:∃t:Bool,decide (0<p.addrs.length)=t:=⟨_,rfl⟩
 obtain⟨U,r⟩:∃t:Bool,decide (0<q.addrs.length)=t:=⟨_,rfl⟩
 have Z:p.like q=(t1 && t2 && t3 && (S == U)):=by unfold Pt.like;rw[N,Q,j,k,r]
 rw[Z];rw[j] at f;obtain⟨ss,i⟩:∃x,p.sum.map vb=x:=⟨_,rfl⟩
 have Hss:=O i;obtain⟨zz,s⟩:∃x,q.sum.map vb=x:=⟨_,rfl⟩
 have Hzz:=O s;obtain⟨pc,g⟩:∃x,aE (.slice H p.addrs.length F) p=x:=⟨_,rfl⟩
 have Hpc:=O g;obtain⟨qc,h⟩:∃x,aE (.slice I q.addrs.length G) q=x:=⟨_,rfl⟩
 have Hqc:=O h;rw[i] at f D y;rw[s] at f C z;rw[g,h] at e ⊢;obtain⟨n,M⟩:∃x,p.addrs.length=x:=⟨_,rfl⟩
 have Hn:=O M;obtain⟨m,L⟩:∃x,q.addrs.length=x:=⟨_,rfl⟩
 have Hm:=O L;rw[M] at V k;rw[L] at W r;have ht4n:decide ((0:Int)<(n:Int))=S:=by rw[←k];exact decide_eq_decide.2 (by omega)
 have ht5n:decide ((0:Int)<(m:Int))=U:=by rw[←r];exact decide_eq_decide.2 (by omega)
 clear Z j a c X Y B i s g h h0 A J K M L
 cases t1<;>cases t2<;>cases t3<;>cases S<;>cases U<;>(
  go_in
  go_wp2_with (first
   | ((with_reducible show WL _ (.load 25 (.tmp 18)));refine aP (by rfl) 25 (.tmp 18) rfl (w.heap.size) 3 rfl ss _ y.out Tryz.underlying25 rfl (rQ D) ?_)
   | ((with_reducible show WL _ (.load 25 (.tmp 20)));refine aP (by rfl) 25 (.tmp 20) rfl (w.heap.size+1) 3 rfl zz _ z.out Tryz.underlying25 rfl (rQ C) ?_))
  go_ret;exact⟨rfl,HK.out⟩)
open Go.RowKit Go.Maps Go.ChangeMaps
set_option maxRecDepth 100000
set_option linter.unusedVariables false
theorem NB(w:World):(zeroValue 258).run Tryz.prog w=.ok (.agg (Array.replicate 8 (.bool false))) w:=by kernel_rfl
def qL(l:List Ad):List Value:=(List.range 8).map fun(d:Nat)=>Value.bool (decide ((d:Int)∈l.map (·.dev)))
theorem sM(h:d<8):(qL l).toArray[d]?=some (.bool (decide ((d:Int)∈l.map (·.dev)))):=by
 unfold qL;rw[List.getElem?_toArray,List.getElem?_map,List.getElem?_range h];rfl
theorem Kw{s:Int}(h:d<8):(qL l).toArray.setIfInBounds d (.bool true)=(qL (l++[⟨(d:Int),s⟩])).toArray:=by
 rw[List.setIfInBounds_toArray]
 congr 1
 refine List.ext_getElem? fun i=>?_
 unfold qL;rw[List.getElem?_set,List.getElem?_map,List.getElem?_map,List.length_map,List.length_range]
 by_cases a:i<8
 ·rw[List.getElem?_range a,List.map_append]
  by_cases e:d=i
  ·subst e
   rw[if_pos rfl,if_pos a];simp
  ·rw[if_neg e]
   have:¬(i:Int)=(d:Int):=by omega
   simp[this]
 ·rw[if_neg (by omega)]
  rw[List.getElem?_eq_none (by rw[List.length_range];omega)];rfl
theorem NC{k:Nat}{x:Ad}(a:l[k]?=some x)(h:kM x=false\/x.dev∈(l.take k).map (·.dev)):qX l=false:=by
 unfold qX;rcases h with h|h
 ·have c:l.all kM=false:=by
   rw[List.all_eq_false];exact⟨x,List.mem_of_getElem? a,by rw[h];simp⟩
  rw[c];simp
 ·have c:¬(l.map (·.dev)).Nodup:=by
   intro g;have f:=(List.getElem?_eq_some_iff.1 a).1
   have e:l=l.take k++x::l.drop (k+1):=by
    conv=>lhs;rw[←List.take_append_drop k l]
    rw[List.drop_eq_getElem_cons f]
    congr 2
    rw[List.getElem?_eq_getElem f] at a;exact Option.some.inj a
   rw[e,List.map_append,List.map_cons] at g;exact(List.nodup_append.1 g).2.2 _ h _ (List.mem_cons_self ..) rfl
  rw[decide_eq_false c];simp
theorem Mv(a:l.all kM=true)(c:(l.map (·.dev)).Nodup):qX l=(decide (1≤l.length) && decide (l.length≤3)):=by
 unfold qX;rw[a,decide_eq_true c];simp
theorem IA(w:World)(v:Value)(l:List Ad)(ho:iA l)(hr:Rd w 2 v l.length (aF l)):Calls Tryz.prog 127 #[v] w (aX w (qX l)):=by
 obtain⟨oa,ca,rfl,-,hmm⟩:=hr.form;have hmx:l.length≤maxLen:=by have h:=hr.2;obtain⟨a',cap',M,h2,h3,-⟩:=h;omega
 unfold maxLen at hmx;obtain⟨bb,Q⟩:∃b,qX l=b:=⟨_,rfl⟩
 have W:=O Q;rw[Q];obtain⟨n,hn⟩:∃n,l.length=n:=⟨_,rfl⟩
 have HN:=O hn;have HR:=O hr;have HO:=O ho;rw[hn] at HR hmx ⊢;clear hmm hr hn Q ho;obtain⟨w1,hw1,hk1,hb1,hs1⟩:=aS w (Array.replicate 8 (.bool false)) 258;have K:Hid (w1.heap[w.heap.size]?=some (.cells (qL []).toArray 258 (0,0))):=O hb1;have HK1:=O hk1;obtain⟨I,H⟩:∃s,w.heap.size=s:=⟨_,rfl⟩
 have hsw:I<w1.heap.size:=by omega
 have HSB:=O H;rw[H] at K;clear hk1 hb1 hs1;go_in
 go_wp2_with (first
  | ((with_reducible show WL (some 3) (.alloc 258));refine aV rfl 258 rfl _ NB (Array.replicate 8 (.bool false)) rfl ?_;rw[hw1,H]))
 clear hw1 H
 go_loopw [8] (fun i wr=>∃k:Nat,k≤n/\i=.int .i64 k/\Hid (wr.heap[I]?=some (.cells (qL (l.take k)).toArray 258 (0,0)))/\Hid ((l.take k).all kM=true/\((l.take k).map (·.dev)).Nodup)/\Hid (aA (fun i=>i=I) w1 wr)) (fun i _=>n-(intOf i).toNat)
 case atStart=>exact⟨0,Nat.zero_le _,rfl,O K.out,O ⟨rfl,List.nodup_nil⟩,O (aA.refl _ _)⟩
 case round =>
 clear K;obtain⟨k,hk,rfl,R,HI,Y⟩:=hrel;have L:=O (HK1.trans' Y.out (U:=aB) (fun _ _ h=>h) (fun i V e=>by have:=HSB.out;omega))
 by_cases hlt:k<n
 ·have hki:(k:Int)<(n:Int):=by omega
  have hk0:(0:Int)≤(k:Int):=by omega
  obtain⟨⟨A,q⟩,G⟩:∃x,l[k]?=some x:=⟨l[k]'(by rw[HN.out];exact hlt),List.getElem?_eq_getElem _⟩
  have N:=HR.keep L.out fun _ _=>id
  rw[←HN.out] at N;obtain⟨g,o,cap',h_v,J⟩:=fO N G;have e1:oa=some ⟨g,o,none⟩:=by cases h_v;rfl
  subst e1;have S:=O J;have HE:=O G;have hTK:l.take (k+1)=l.take k++[⟨A,q⟩]:=by rw[List.take_add_one,G];rfl
  have HTK:=O hTK;clear G N h_v J hTK;have hin:=HO.out _ (List.mem_of_getElem? HE.out);have B:Hid (kM ⟨A,q⟩=false\/A∈(l.take k).map (·.dev)->bb=false):=O (fun h=>by rw[←W.out];exact NC HE.out h)
  by_cases M:A<0
  ·have j:bb=false:=B.out (.inl (by unfold kM;simp;omega))
   have d1:decide (A<0)=true:=decide_eq_true M;subst j
   go_wp2_with (first
    | ((with_reducible show WL _ (.load 82 (.tmp 10)));refine wpList_load_mid rfl 82 (.tmp 10) rfl g (o+k*2) rfl (aM ⟨A,q⟩) _ S.out bB rfl bH ?_)
    | ((with_reducible show WL (some 5) (.alloc 82));refine aV rfl 82 rfl bT eH #[.int .i64 0,.int .i64 0] rfl ?_)
    | ((with_reducible show WL none (.store 82 (.tmp 5) (.tmp 11)));refine aR rfl 82 (.tmp 5) (.tmp 11) rfl wr.heap.size 0 (aM ⟨A,q⟩) rfl rfl #[.int .i64 0,.int .i64 0] 82 (heap_alloc_new _ _) (Nat.le_refl _) bH (bG _) ?_
       intro m a f;rw[aK _ _ (by rfl)] at a;have c:aA aB wr m:=((aA.refl aB wr).alloc _).trans' f (fun _ _ h=>h) (fun i V e=>by omega);have r:=O c;have C:m.cell? ⟨wr.heap.size,0,none⟩=some (.int .i64 A):=aC a rfl;have D:m.cell? ⟨wr.heap.size,1,none⟩=some (.int .i64 q):=aC a rfl;have u:=O (c.blk R.out id)
       skip
       clear a f c))
   go_ret;exact⟨rfl,L.trans r.out⟩
  by_cases h2:8≤A
  ·have j:bb=false:=B.out (.inl (by unfold kM;simp;omega))
   have d2:decide (8≤A)=true:=decide_eq_true h2;subst j
   go_wp2_with (first
    | ((with_reducible show WL _ (.load 82 (.tmp 10)));refine wpList_load_mid rfl 82 (.tmp 10) rfl g (o+k*2) rfl (aM ⟨A,q⟩) _ S.out bB rfl bH ?_)
    | ((with_reducible show WL (some 5) (.alloc 82));refine aV rfl 82 rfl bT eH #[.int .i64 0,.int .i64 0] rfl ?_)
    | ((with_reducible show WL none (.store 82 (.tmp 5) (.tmp 11)));refine aR rfl 82 (.tmp 5) (.tmp 11) rfl wr.heap.size 0 (aM ⟨A,q⟩) rfl rfl #[.int .i64 0,.int .i64 0] 82 (heap_alloc_new _ _) (Nat.le_refl _) bH (bG _) ?_
       intro m a f;rw[aK _ _ (by rfl)] at a;have c:aA aB wr m:=((aA.refl aB wr).alloc _).trans' f (fun _ _ h=>h) (fun i V e=>by omega);have r:=O c;have C:m.cell? ⟨wr.heap.size,0,none⟩=some (.int .i64 A):=aC a rfl;have D:m.cell? ⟨wr.heap.size,1,none⟩=some (.int .i64 q):=aC a rfl;have u:=O (c.blk R.out id)
       skip
       clear a f c))
   go_ret;exact⟨rfl,L.trans r.out⟩
  obtain⟨d,rfl⟩:∃d:Nat,A=(d:Int):=⟨A.toNat,by omega⟩
  have E:d<8:=by omega
  have hdi:(d:Int)<8:=by omega
  have hd0:(0:Int)≤(d:Int):=by omega
  obtain⟨s,F⟩:∃s,decide ((d:Int)∈(l.take k).map (·.dev))=s:=⟨_,rfl⟩
  have Z:=O F;clear M h2;cases s
  ·have hnd:(d:Int) ∉ (l.take k).map (·.dev):=of_decide_eq_false Z.out
   have HND:=O hnd;clear hnd
   by_cases h3:q<5
   ·have j:bb=false:=B.out (.inl (by unfold kM;simp;omega))
    have d3:decide (q<5)=true:=decide_eq_true h3;subst j
    go_wp2_with (first
     | ((with_reducible show WL _ (.load 82 (.tmp 10)));refine wpList_load_mid rfl 82 (.tmp 10) rfl g (o+k*2) rfl (aM ⟨(d:Int),q⟩) _ S.out bB rfl bH ?_)
     | ((with_reducible show WL (some 5) (.alloc 82));refine aV rfl 82 rfl bT eH #[.int .i64 0,.int .i64 0] rfl ?_)
     | ((with_reducible show WL none (.store 82 (.tmp 5) (.tmp 11)));refine aR rfl 82 (.tmp 5) (.tmp 11) rfl wr.heap.size 0 (aM ⟨(d:Int),q⟩) rfl rfl #[.int .i64 0,.int .i64 0] 82 (heap_alloc_new _ _) (Nat.le_refl _) bH (bG _) ?_
        intro m a f;rw[aK _ _ (by rfl)] at a;have c:aA aB wr m:=((aA.refl aB wr).alloc _).trans' f (fun _ _ h=>h) (fun i V e=>by omega);have r:=O c;have C:m.cell? ⟨wr.heap.size,0,none⟩=some (.int .i64 (d:Int)):=aC a rfl;have D:m.cell? ⟨wr.heap.size,1,none⟩=some (.int .i64 q):=aC a rfl;have u:=O (c.blk R.out id);have z:=aC u.out (sM (l:=l.take k) E);rw[F] at z;clear a f c))
    go_ret;exact⟨rfl,L.trans r.out⟩
   by_cases h4:4096≤q
   ·have j:bb=false:=B.out (.inl (by unfold kM;simp;omega))
    have d4:decide (4096≤q)=true:=decide_eq_true h4;subst j
    go_wp2_with (first
     | ((with_reducible show WL _ (.load 82 (.tmp 10)));refine wpList_load_mid rfl 82 (.tmp 10) rfl g (o+k*2) rfl (aM ⟨(d:Int),q⟩) _ S.out bB rfl bH ?_)
     | ((with_reducible show WL (some 5) (.alloc 82));refine aV rfl 82 rfl bT eH #[.int .i64 0,.int .i64 0] rfl ?_)
     | ((with_reducible show WL none (.store 82 (.tmp 5) (.tmp 11)));refine aR rfl 82 (.tmp 5) (.tmp 11) rfl wr.heap.size 0 (aM ⟨(d:Int),q⟩) rfl rfl #[.int .i64 0,.int .i64 0] 82 (heap_alloc_new _ _) (Nat.le_refl _) bH (bG _) ?_
        intro m a f;rw[aK _ _ (by rfl)] at a;have c:aA aB wr m:=((aA.refl aB wr).alloc _).trans' f (fun _ _ h=>h) (fun i V e=>by omega);have r:=O c;have C:m.cell? ⟨wr.heap.size,0,none⟩=some (.int .i64 (d:Int)):=aC a rfl;have D:m.cell? ⟨wr.heap.size,1,none⟩=some (.int .i64 q):=aC a rfl;have u:=O (c.blk R.out id);have z:=aC u.out (sM (l:=l.take k) E);rw[F] at z;clear a f c))
    go_ret;exact⟨rfl,L.trans r.out⟩
   go_wp2_with (first
    | ((with_reducible show WL _ (.load 82 (.tmp 10)));refine wpList_load_mid rfl 82 (.tmp 10) rfl g (o+k*2) rfl (aM ⟨(d:Int),q⟩) _ S.out bB rfl bH ?_)
    | ((with_reducible show WL (some 5) (.alloc 82));refine aV rfl 82 rfl bT eH #[.int .i64 0,.int .i64 0] rfl ?_)
    | ((with_reducible show WL none (.store 82 (.tmp 5) (.tmp 11)));refine aR rfl 82 (.tmp 5) (.tmp 11) rfl wr.heap.size 0 (aM ⟨(d:Int),q⟩) rfl rfl #[.int .i64 0,.int .i64 0] 82 (heap_alloc_new _ _) (Nat.le_refl _) bH (bG _) ?_
       intro m a f;rw[aK _ _ (by rfl)] at a;have c:aA aB wr m:=((aA.refl aB wr).alloc _).trans' f (fun _ _ h=>h) (fun i V e=>by omega);have r:=O c;have C:m.cell? ⟨wr.heap.size,0,none⟩=some (.int .i64 (d:Int)):=aC a rfl;have D:m.cell? ⟨wr.heap.size,1,none⟩=some (.int .i64 q):=aC a rfl;have u:=O (c.blk R.out id);have z:=aC u.out (sM (l:=l.take k) E);have hfz:=dA u.out d;rw[F] at z;clear a f c))
   have HK5:Hid (aA (fun i=>i=I) w1 (m.setCell ⟨I,d,none⟩ (.bool true))):=O ((Y.trans' r.out (U:=fun i=>i=I) (fun _ _ h=>h) (fun _ _ h=>h.elim)).setCell (p:=⟨I,d,none⟩) (fun _=>rfl) _);have HS5:Hid ((m.setCell ⟨I,d,none⟩ (.bool true)).heap[I]?=some (.cells (qL (l.take (k+1))).toArray 258 (0,0))):=O (by rw[dO u.out,Kw (s:=q) E,←HTK.out])
   have HI5:Hid ((l.take (k+1)).all kM=true/\((l.take (k+1)).map (·.dev)).Nodup):=O (by
    rw[HTK.out];refine⟨?_,?_⟩
    ·rw[List.all_append,HI.1]
     unfold kM;simp;omega
    ·rw[List.map_append,List.nodup_append]
     refine⟨HI.2,by simp,fun x hx y hy e=>?_⟩;subst e;have e2:x=(d:Int):=by simpa using hy
     rw[e2] at hx;exact HND.out hx)
   go_roundw
   case rel=>exact⟨k+1,by omega,by go_num,HS5,HI5,HK5⟩
   case measure=>simp[intOf];omega
  ·have j:bb=false:=B.out (.inr (of_decide_eq_true Z.out))
   subst j
   go_wp2_with (first
    | ((with_reducible show WL _ (.load 82 (.tmp 10)));refine wpList_load_mid rfl 82 (.tmp 10) rfl g (o+k*2) rfl (aM ⟨(d:Int),q⟩) _ S.out bB rfl bH ?_)
    | ((with_reducible show WL (some 5) (.alloc 82));refine aV rfl 82 rfl bT eH #[.int .i64 0,.int .i64 0] rfl ?_)
    | ((with_reducible show WL none (.store 82 (.tmp 5) (.tmp 11)));refine aR rfl 82 (.tmp 5) (.tmp 11) rfl wr.heap.size 0 (aM ⟨(d:Int),q⟩) rfl rfl #[.int .i64 0,.int .i64 0] 82 (heap_alloc_new _ _) (Nat.le_refl _) bH (bG _) ?_
       intro m a f;rw[aK _ _ (by rfl)] at a;have c:aA aB wr m:=((aA.refl aB wr).alloc _).trans' f (fun _ _ h=>h) (fun i V e=>by omega);have r:=O c;have C:m.cell? ⟨wr.heap.size,0,none⟩=some (.int .i64 (d:Int)):=aC a rfl;have D:m.cell? ⟨wr.heap.size,1,none⟩=some (.int .i64 q):=aC a rfl;have u:=O (c.blk R.out id);have z:=aC u.out (sM (l:=l.take k) E);rw[F] at z;clear a f c))
   go_ret;exact⟨rfl,L.trans r.out⟩
 ·obtain rfl:n=k:=by omega
  have j:bb=(decide (1≤n) && decide (n≤3)):=by
   rw[←W.out,←HN.out];have M:=HI.out;rw[List.take_of_length_le (by rw[HN.out];exact Nat.le_refl _)] at M;exact Mv M.1 M.2
  have X:=O j;obtain⟨t1,ht1⟩:∃t,decide (1≤n)=t:=⟨_,rfl⟩
  obtain⟨t2,ht2⟩:∃t,decide (n≤3)=t:=⟨_,rfl⟩
  have hi1:decide ((1:Int)≤(n:Int))=t1:=by rw[←ht1];exact decide_eq_decide.2 (by omega)
  have hi2:decide ((n:Int)≤3)=t2:=by rw[←ht2];exact decide_eq_decide.2 (by omega)
  rw[ht1,ht2] at X;clear j
  cases t1<;>cases t2<;>(
   go_wp2;go_ret;exact⟨by rw[X.out];rfl,L.out⟩)
def lQ(w:World)(b:Bool)(e:Ending)(w':World):Prop:=e=.returned (.int .i64 (if b then 0 else 2))/\aA aB w w'
theorem jM{p:Pt}(h:p.hole=true):p.may=true:=by unfold Pt.may;rw[h];rfl
theorem kC(w:World)(v:Value)(p:Pt)(h0:PtV w v p):Calls Tryz.prog 95 #[.agg (aE v p).toArray] w (lQ w p.may):=by
 obtain⟨m,i,hv,-,-⟩:=h0.rd.form;subst hv;obtain⟨n,M⟩:∃x,p.addrs.length=x:=⟨_,rfl⟩
 have HN:=O M;have q:=h0;rw[M] at q ⊢;obtain⟨w1,Q,z,r,N⟩:=aS w (aE (.slice m n i) p).toArray 27;obtain⟨h,b0,c0,R⟩:=bQ (aD r);have L:=O R;have J:=O r;have j:(aE (.slice m n i) p).length=35:=aJ q.sum;simp only[Nat.zero_add] at h b0 c0;have s:=O (cL w1 _ p (q.keep z fun _ _=>id));have u:=O (fun Z (k:aA aB w Z)=>IA Z (.slice m n i) p.addrs h0.ads (q.rd.keep k fun _ _=>id));have f:=O z;obtain⟨t1,B⟩:∃t:Bool,p.hole=t:=⟨_,rfl⟩
 obtain⟨U,C⟩:∃t:Bool,qX p.addrs=t:=⟨_,rfl⟩
 obtain⟨V,D⟩:∃t:Bool,decide (1≤p.birth)=t:=⟨_,rfl⟩
 obtain⟨W,E⟩:∃t:Bool,decide (p.birth≤2147483648)=t:=⟨_,rfl⟩
 obtain⟨X,F⟩:∃t:Bool,decide (0≤p.level)=t:=⟨_,rfl⟩
 obtain⟨Y,G⟩:∃t:Bool,decide (p.level≤3)=t:=⟨_,rfl⟩
 have S:p.may=(t1 || (U && (V && W && X && Y))):=by unfold Pt.may Pt.numsB;rw[B,C,D,E,F,G]
 have y:=O S;rw[B] at s;rw[C] at u;have a:=O (aD J.out);obtain⟨H,A⟩:∃x,aE (.slice m n i) p=x:=⟨_,rfl⟩
 have g:=O A;rw[A] at Q s j a ⊢;clear S B C r R z N A h0 q J L M;cases t1
 ·skip
  cases U
  ·skip
   go_in
   go_wp2_with (first
    | ((with_reducible show WL _ (.load 27 (.tmp 1)));refine aP (by rfl) 27 (.tmp 1) rfl (w.heap.size) 0 rfl H _ a.out aH rfl (bY j) ?_))
   refine s.mono ?_;rintro e I ⟨rfl,c⟩;have a:=O (c.rangeAt a.out);have f:=O (f.trans c);obtain⟨h,b0,c0,-⟩:=bQ (p:=p) (v:=(.slice m n i)) (by rw[g.out];exact a.out);simp only[Nat.zero_add] at h b0 c0;clear c;go_wp2_with fail;refine(u.out _ f.out).mono ?_;rintro e K ⟨rfl,c⟩;have a:=O (c.rangeAt a.out);have f:=O (f.trans c);obtain⟨h,b0,c0,-⟩:=bQ (p:=p) (v:=(.slice m n i)) (by rw[g.out];exact a.out);simp only[Nat.zero_add] at h b0 c0;clear c;go_wp2;go_ret;exact⟨by rw[y.out];rfl,f.out⟩
  ·skip
   cases V
   ·have y3:decide (p.birth<1)=true:=decide_eq_true (by have:=of_decide_eq_false D;omega)
    go_in
    go_wp2_with (first
     | ((with_reducible show WL _ (.load 27 (.tmp 1)));refine aP (by rfl) 27 (.tmp 1) rfl (w.heap.size) 0 rfl H _ a.out aH rfl (bY j) ?_))
    refine s.mono ?_;rintro e I ⟨rfl,c⟩;have a:=O (c.rangeAt a.out);have f:=O (f.trans c);obtain⟨h,b0,c0,-⟩:=bQ (p:=p) (v:=(.slice m n i)) (by rw[g.out];exact a.out);simp only[Nat.zero_add] at h b0 c0;clear c;go_wp2_with fail;refine(u.out _ f.out).mono ?_;rintro e K ⟨rfl,c⟩;have a:=O (c.rangeAt a.out);have f:=O (f.trans c);obtain⟨h,b0,c0,-⟩:=bQ (p:=p) (v:=(.slice m n i)) (by rw[g.out];exact a.out);simp only[Nat.zero_add] at h b0 c0;clear c;go_wp2;go_ret;exact⟨by rw[y.out];rfl,f.out⟩
   ·have y3:decide (p.birth<1)=false:=decide_eq_false (by have:=of_decide_eq_true D;omega)
    cases W
    ·have y4:decide (2147483648<p.birth)=true:=decide_eq_true (by have:=of_decide_eq_false E;omega)
     go_in
     go_wp2_with (first
      | ((with_reducible show WL _ (.load 27 (.tmp 1)));refine aP (by rfl) 27 (.tmp 1) rfl (w.heap.size) 0 rfl H _ a.out aH rfl (bY j) ?_))
     refine s.mono ?_;rintro e I ⟨rfl,c⟩;have a:=O (c.rangeAt a.out);have f:=O (f.trans c);obtain⟨h,b0,c0,-⟩:=bQ (p:=p) (v:=(.slice m n i)) (by rw[g.out];exact a.out);simp only[Nat.zero_add] at h b0 c0;clear c;go_wp2_with fail;refine(u.out _ f.out).mono ?_;rintro e K ⟨rfl,c⟩;have a:=O (c.rangeAt a.out);have f:=O (f.trans c);obtain⟨h,b0,c0,-⟩:=bQ (p:=p) (v:=(.slice m n i)) (by rw[g.out];exact a.out);simp only[Nat.zero_add] at h b0 c0;clear c;go_wp2;go_ret;exact⟨by rw[y.out];rfl,f.out⟩
    ·have y4:decide (2147483648<p.birth)=false:=decide_eq_false (by have:=of_decide_eq_true E;omega)
     cases X
     ·have y5:decide (p.level<0)=true:=decide_eq_true (by have:=of_decide_eq_false F;omega)
      go_in
      go_wp2_with (first
       | ((with_reducible show WL _ (.load 27 (.tmp 1)));refine aP (by rfl) 27 (.tmp 1) rfl (w.heap.size) 0 rfl H _ a.out aH rfl (bY j) ?_))
      refine s.mono ?_;rintro e I ⟨rfl,c⟩;have a:=O (c.rangeAt a.out);have f:=O (f.trans c);obtain⟨h,b0,c0,-⟩:=bQ (p:=p) (v:=(.slice m n i)) (by rw[g.out];exact a.out);simp only[Nat.zero_add] at h b0 c0;clear c;go_wp2_with fail;refine(u.out _ f.out).mono ?_;rintro e K ⟨rfl,c⟩;have a:=O (c.rangeAt a.out);have f:=O (f.trans c);obtain⟨h,b0,c0,-⟩:=bQ (p:=p) (v:=(.slice m n i)) (by rw[g.out];exact a.out);simp only[Nat.zero_add] at h b0 c0;clear c;go_wp2;go_ret;exact⟨by rw[y.out];rfl,f.out⟩
     ·have y5:decide (p.level<0)=false:=decide_eq_false (by have:=of_decide_eq_true F;omega)
      cases Y
      ·have y6:decide (3<p.level)=true:=decide_eq_true (by have:=of_decide_eq_false G;omega)
       go_in
       go_wp2_with (first
        | ((with_reducible show WL _ (.load 27 (.tmp 1)));refine aP (by rfl) 27 (.tmp 1) rfl (w.heap.size) 0 rfl H _ a.out aH rfl (bY j) ?_))
       refine s.mono ?_;rintro e I ⟨rfl,c⟩;have a:=O (c.rangeAt a.out);have f:=O (f.trans c);obtain⟨h,b0,c0,-⟩:=bQ (p:=p) (v:=(.slice m n i)) (by rw[g.out];exact a.out);simp only[Nat.zero_add] at h b0 c0;clear c;go_wp2_with fail;refine(u.out _ f.out).mono ?_;rintro e K ⟨rfl,c⟩;have a:=O (c.rangeAt a.out);have f:=O (f.trans c);obtain⟨h,b0,c0,-⟩:=bQ (p:=p) (v:=(.slice m n i)) (by rw[g.out];exact a.out);simp only[Nat.zero_add] at h b0 c0;clear c;go_wp2;go_ret;exact⟨by rw[y.out];rfl,f.out⟩
      ·have y6:decide (3<p.level)=false:=decide_eq_false (by have:=of_decide_eq_true G;omega)
       go_in
       go_wp2_with (first
        | ((with_reducible show WL _ (.load 27 (.tmp 1)));refine aP (by rfl) 27 (.tmp 1) rfl (w.heap.size) 0 rfl H _ a.out aH rfl (bY j) ?_))
       refine s.mono ?_;rintro e I ⟨rfl,c⟩;have a:=O (c.rangeAt a.out);have f:=O (f.trans c);obtain⟨h,b0,c0,-⟩:=bQ (p:=p) (v:=(.slice m n i)) (by rw[g.out];exact a.out);simp only[Nat.zero_add] at h b0 c0;clear c;go_wp2_with fail;refine(u.out _ f.out).mono ?_;rintro e K ⟨rfl,c⟩;have a:=O (c.rangeAt a.out);have f:=O (f.trans c);obtain⟨h,b0,c0,-⟩:=bQ (p:=p) (v:=(.slice m n i)) (by rw[g.out];exact a.out);simp only[Nat.zero_add] at h b0 c0;clear c;go_wp2;go_ret;exact⟨by rw[y.out];rfl,f.out⟩
 ·skip
  go_in
  go_wp2_with (first
   | ((with_reducible show WL _ (.load 27 (.tmp 1)));refine aP (by rfl) 27 (.tmp 1) rfl (w.heap.size) 0 rfl H _ a.out aH rfl (bY j) ?_))
  refine s.mono ?_;rintro e I ⟨rfl,c⟩;have a:=O (c.rangeAt a.out);have f:=O (f.trans c);obtain⟨h,b0,c0,-⟩:=bQ (p:=p) (v:=(.slice m n i)) (by rw[g.out];exact a.out);simp only[Nat.zero_add] at h b0 c0;clear c;go_wp2;go_ret;exact⟨by rw[y.out];rfl,f.out⟩
theorem sN(w:World)(v:Value)(u:Ub)(h0:UbV w v u):Calls Tryz.prog 51 #[.agg (dW v u).toArray] w (lQ w u.may):=by
 obtain⟨i,h,hv,-,-⟩:=h0.root.rd.form;subst hv;obtain⟨n,hn⟩:∃x,u.root.addrs.length=x:=⟨_,rfl⟩
 rw[hn] at h0 ⊢;obtain⟨w1,hw1,V,B,hs1⟩:=aS w (dW (.slice i n h) u).toArray 45;obtain⟨s,r0,b0,d0⟩:=gF h0.root.sum (aD B);obtain⟨y,z,A,-⟩:=bQ r0;have Y:=O d0;have a:=O r0;have F:=O B;have j:(aE (.slice i n h) u.root).length=35:=aJ h0.root.sum;have Z:(u.pool.map vb).length=32:=by rw[List.length_map];exact h0.pool
 simp only[Nat.zero_add] at s b0 y z A;have G:=O (fun W (k:aA aB w W)=>cL W (.slice i n h) u.root (h0.root.keep k fun _ _=>id));have U:=O (fun W (k:aA aB w W)=>kC W (.slice i n h) u.root (h0.root.keep k fun _ _=>id));have g:=O V;have D:=@jM u.root;obtain⟨t1,I⟩:∃t:Bool,decide (1≤u.txg)=t:=⟨_,rfl⟩
 obtain⟨t2,J⟩:∃t:Bool,decide (u.txg≤2147483648)=t:=⟨_,rfl⟩
 obtain⟨t3,K⟩:∃t:Bool,decide (0≤u.len)=t:=⟨_,rfl⟩
 obtain⟨t4,L⟩:∃t:Bool,decide (u.len≤16384)=t:=⟨_,rfl⟩
 obtain⟨t5,M⟩:∃t:Bool,u.root.hole=t:=⟨_,rfl⟩
 obtain⟨t6,N⟩:∃t:Bool,u.root.may=t:=⟨_,rfl⟩
 obtain⟨t7,Q⟩:∃t:Bool,(u.root.level == 3)=t:=⟨_,rfl⟩
 obtain⟨t8,R⟩:∃t:Bool,decide (u.root.birth≤u.txg)=t:=⟨_,rfl⟩
 have hs:u.may=(t1 && t2 && t3 && t4 && (t5 || (t6 && t7 && t8))):=by unfold Ub.may;rw[I,J,K,L,M,N,Q,R]
 have C:=O hs;rw[M] at G D;rw[N] at U D;have HHM:=O D;obtain⟨E,H⟩:∃x,aE (.slice i n h) u.root=x:=⟨_,rfl⟩
 have q:=O H;obtain⟨uc,S⟩:∃x,dW (.slice i n h) u=x:=⟨_,rfl⟩
 have r:=O S;rw[H] at G U j a;rw[S] at hw1 F ⊢;have m:=O h0.root.sum;have c:=O (aD F.out);clear hs M N B d0 r0 V hs1 H S h0 F Y D Z hn;cases t1
 ·have y1:decide (u.txg<1)=true:=decide_eq_true (by have:=of_decide_eq_false I;omega)
  go_in;go_wp2;go_ret;exact⟨by rw[C.out];rfl,g.out⟩
 ·have y1:decide (u.txg<1)=false:=decide_eq_false (by have:=of_decide_eq_true I;omega)
  cases t2
  ·have y2:decide (2147483648<u.txg)=true:=decide_eq_true (by have:=of_decide_eq_false J;omega)
   go_in;go_wp2;go_ret;exact⟨by rw[C.out];rfl,g.out⟩
  ·have y2:decide (2147483648<u.txg)=false:=decide_eq_false (by have:=of_decide_eq_true J;omega)
   cases t3
   ·have y3:decide (u.len<0)=true:=decide_eq_true (by have:=of_decide_eq_false K;omega)
    go_in;go_wp2;go_ret;exact⟨by rw[C.out];rfl,g.out⟩
   ·have y3:decide (u.len<0)=false:=decide_eq_false (by have:=of_decide_eq_true K;omega)
    cases t4
    ·have y4:decide (16384<u.len)=true:=decide_eq_true (by have:=of_decide_eq_false L;omega)
     go_in;go_wp2;go_ret;exact⟨by rw[C.out];rfl,g.out⟩
    ·have y4:decide (16384<u.len)=false:=decide_eq_false (by have:=of_decide_eq_true L;omega)
     cases t5
     ·skip
      cases t6
      ·skip
       go_in
       go_wp2_with (first
        | ((with_reducible show WL _ (.load 27 (.tmp 23)));refine aP (by rfl) 27 (.tmp 23) rfl (w.heap.size) 1 rfl E _ a.out aH rfl (bY j) ?_))
       refine(G.out _ g.out).mono ?_;rintro e X ⟨rfl,f⟩;have a:=O (f.rangeAt a.out);have c:=O (f.rangeAt c.out);have g:=O (g.trans f);obtain⟨s,-,b0,-⟩:=gF (u:=u) (v:=.slice i n h) m.out (by rw[r.out];exact c.out);obtain⟨y,z,A,-⟩:=bQ (p:=u.root) (v:=.slice i n h) (by rw[q.out];exact a.out);simp only[Nat.zero_add] at s b0 y z A;clear f
       go_wp2_with (first
        | ((with_reducible show WL _ (.load 27 (.tmp 27)));refine aP (by rfl) 27 (.tmp 27) rfl (w.heap.size) 1 rfl E _ a.out aH rfl (bY j) ?_))
       refine(U.out _ g.out).mono ?_;rintro e w3 ⟨rfl,f⟩;have a:=O (f.rangeAt a.out);have c:=O (f.rangeAt c.out);have g:=O (g.trans f);obtain⟨s,-,b0,-⟩:=gF (u:=u) (v:=.slice i n h) m.out (by rw[r.out];exact c.out);obtain⟨y,z,A,-⟩:=bQ (p:=u.root) (v:=.slice i n h) (by rw[q.out];exact a.out);simp only[Nat.zero_add] at s b0 y z A;clear f;go_wp2;go_ret;exact⟨by rw[C.out];rfl,g.out⟩
      ·skip
       cases t7
       ·have y7:(u.root.level != 3)=true:=by simp only[bne,Q];rfl
        go_in
        go_wp2_with (first
         | ((with_reducible show WL _ (.load 27 (.tmp 23)));refine aP (by rfl) 27 (.tmp 23) rfl (w.heap.size) 1 rfl E _ a.out aH rfl (bY j) ?_))
        refine(G.out _ g.out).mono ?_;rintro e X ⟨rfl,f⟩;have a:=O (f.rangeAt a.out);have c:=O (f.rangeAt c.out);have g:=O (g.trans f);obtain⟨s,-,b0,-⟩:=gF (u:=u) (v:=.slice i n h) m.out (by rw[r.out];exact c.out);obtain⟨y,z,A,-⟩:=bQ (p:=u.root) (v:=.slice i n h) (by rw[q.out];exact a.out);simp only[Nat.zero_add] at s b0 y z A;clear f
        go_wp2_with (first
         | ((with_reducible show WL _ (.load 27 (.tmp 27)));refine aP (by rfl) 27 (.tmp 27) rfl (w.heap.size) 1 rfl E _ a.out aH rfl (bY j) ?_))
        refine(U.out _ g.out).mono ?_;rintro e w3 ⟨rfl,f⟩;have a:=O (f.rangeAt a.out);have c:=O (f.rangeAt c.out);have g:=O (g.trans f);obtain⟨s,-,b0,-⟩:=gF (u:=u) (v:=.slice i n h) m.out (by rw[r.out];exact c.out);obtain⟨y,z,A,-⟩:=bQ (p:=u.root) (v:=.slice i n h) (by rw[q.out];exact a.out);simp only[Nat.zero_add] at s b0 y z A;clear f;go_wp2;go_ret;exact⟨by rw[C.out];rfl,g.out⟩
       ·have y7:(u.root.level != 3)=false:=by simp only[bne,Q];rfl
        cases t8
        ·have y8:decide (u.txg<u.root.birth)=true:=decide_eq_true (by have:=of_decide_eq_false R;omega)
         go_in
         go_wp2_with (first
          | ((with_reducible show WL _ (.load 27 (.tmp 23)));refine aP (by rfl) 27 (.tmp 23) rfl (w.heap.size) 1 rfl E _ a.out aH rfl (bY j) ?_))
         refine(G.out _ g.out).mono ?_;rintro e X ⟨rfl,f⟩;have a:=O (f.rangeAt a.out);have c:=O (f.rangeAt c.out);have g:=O (g.trans f);obtain⟨s,-,b0,-⟩:=gF (u:=u) (v:=.slice i n h) m.out (by rw[r.out];exact c.out);obtain⟨y,z,A,-⟩:=bQ (p:=u.root) (v:=.slice i n h) (by rw[q.out];exact a.out);simp only[Nat.zero_add] at s b0 y z A;clear f
         go_wp2_with (first
          | ((with_reducible show WL _ (.load 27 (.tmp 27)));refine aP (by rfl) 27 (.tmp 27) rfl (w.heap.size) 1 rfl E _ a.out aH rfl (bY j) ?_))
         refine(U.out _ g.out).mono ?_;rintro e w3 ⟨rfl,f⟩;have a:=O (f.rangeAt a.out);have c:=O (f.rangeAt c.out);have g:=O (g.trans f);obtain⟨s,-,b0,-⟩:=gF (u:=u) (v:=.slice i n h) m.out (by rw[r.out];exact c.out);obtain⟨y,z,A,-⟩:=bQ (p:=u.root) (v:=.slice i n h) (by rw[q.out];exact a.out);simp only[Nat.zero_add] at s b0 y z A;clear f;go_wp2;go_ret;exact⟨by rw[C.out];rfl,g.out⟩
        ·have y8:decide (u.txg<u.root.birth)=false:=decide_eq_false (by have:=of_decide_eq_true R;omega)
         go_in
         go_wp2_with (first
          | ((with_reducible show WL _ (.load 27 (.tmp 23)));refine aP (by rfl) 27 (.tmp 23) rfl (w.heap.size) 1 rfl E _ a.out aH rfl (bY j) ?_))
         refine(G.out _ g.out).mono ?_;rintro e X ⟨rfl,f⟩;have a:=O (f.rangeAt a.out);have c:=O (f.rangeAt c.out);have g:=O (g.trans f);obtain⟨s,-,b0,-⟩:=gF (u:=u) (v:=.slice i n h) m.out (by rw[r.out];exact c.out);obtain⟨y,z,A,-⟩:=bQ (p:=u.root) (v:=.slice i n h) (by rw[q.out];exact a.out);simp only[Nat.zero_add] at s b0 y z A;clear f
         go_wp2_with (first
          | ((with_reducible show WL _ (.load 27 (.tmp 27)));refine aP (by rfl) 27 (.tmp 27) rfl (w.heap.size) 1 rfl E _ a.out aH rfl (bY j) ?_))
         refine(U.out _ g.out).mono ?_;rintro e w3 ⟨rfl,f⟩;have a:=O (f.rangeAt a.out);have c:=O (f.rangeAt c.out);have g:=O (g.trans f);obtain⟨s,-,b0,-⟩:=gF (u:=u) (v:=.slice i n h) m.out (by rw[r.out];exact c.out);obtain⟨y,z,A,-⟩:=bQ (p:=u.root) (v:=.slice i n h) (by rw[q.out];exact a.out);simp only[Nat.zero_add] at s b0 y z A;clear f;go_wp2;go_ret;exact⟨by rw[C.out];rfl,g.out⟩
     ·skip
      go_in
      go_wp2_with (first
       | ((with_reducible show WL _ (.load 27 (.tmp 23)));refine aP (by rfl) 27 (.tmp 23) rfl (w.heap.size) 1 rfl E _ a.out aH rfl (bY j) ?_))
      refine(G.out _ g.out).mono ?_;rintro e X ⟨rfl,f⟩;have a:=O (f.rangeAt a.out);have c:=O (f.rangeAt c.out);have g:=O (g.trans f);obtain⟨s,-,b0,-⟩:=gF (u:=u) (v:=.slice i n h) m.out (by rw[r.out];exact c.out);obtain⟨y,z,A,-⟩:=bQ (p:=u.root) (v:=.slice i n h) (by rw[q.out];exact a.out);simp only[Nat.zero_add] at s b0 y z A;clear f;go_wp2;go_ret;exact⟨by rw[C.out];rfl,g.out⟩
open Go.RowKit Go.Maps Go.ChangeMaps
set_option maxRecDepth 100000
set_option linter.unusedVariables false
def Pt.eqB(p q:Pt):Bool:=decide (p.addrs=q.addrs) && (p.birth == q.birth) && (p.level == q.level) && decide (p.sum=q.sum)
def Ub.eqB(u v:Ub):Bool:=(u.txg == v.txg) && (u.len == v.len) && decide (u.pool=v.pool) && u.root.eqB v.root
theorem IB(p q:Pt):(p.like q && decide (p.addrs=q.addrs))=p.eqB q:=by
 unfold Pt.like Pt.eqB
 by_cases h:p.addrs=q.addrs
 ·rw[h]
  simp only[BEq.rfl,Bool.and_true,decide_true,Bool.true_and]
 ·simp[h]
theorem Ey(w:World)(va R:Value)(j ys:List Ad)(r:Rd w 2 va j.length (aF j))(hy:Rd w 2 R ys.length (aF ys))(bb:Bool)(he:decide (j=ys)=bb) :
 Calls Tryz.prog 73 #[va,R] w fun e w'=>e=.returned (.bool bb)/\aA aB w w':=by
 obtain⟨oa,ca,rfl,hla,hma⟩:=r.form;obtain⟨ob,cb,rfl,hlb,hmb⟩:=hy.form;have L:j.length≤maxLen:=by omega
 unfold maxLen at L;have Y:=O he;have F:=O r;have G:=O hy;obtain⟨n,X⟩:∃n,j.length=n:=⟨_,rfl⟩
 obtain⟨m,W⟩:∃m,ys.length=m:=⟨_,rfl⟩
 have V:=O X;have U:=O W;rw[X] at F L;rw[W] at G;rw[X,W];clear r hy he hla hma hlb hmb X W
 by_cases M:n=m
 ·subst M
  go_in;go_wp2_with fail
  go_loopw [13] (fun i wr=>∃k:Nat,k≤n/\i=.int .i64 k/\Hid (j.take k=ys.take k)/\Hid (aA aB w wr)) (fun i _=>n-(intOf i).toNat)
  case atStart=>exact⟨0,Nat.zero_le _,rfl,O rfl,O (aA.refl _ _)⟩
  case round =>
  obtain⟨k,hk,rfl,HT,Z⟩:=hrel
  by_cases K:k<n
  ·obtain⟨x,r⟩:∃x,j[k]?=some x:=⟨j[k]'(by rw[V.out];exact K),List.getElem?_eq_getElem _⟩
   obtain⟨y,hy⟩:∃y,ys[k]?=some y:=⟨ys[k]'(by rw[U.out];exact K),List.getElem?_eq_getElem _⟩
   obtain⟨S,c⟩:∃S:World->Prop,S=fun w'=>aA aB w w':=⟨_,rfl⟩
   have p:=F.out;have q:=G.out;rw[←V.out] at p;rw[←U.out] at q;obtain⟨g,o,cap,hv,-⟩:=fO p r;obtain⟨I,Q,cap2,N,-⟩:=fO q hy;have e1:oa=some ⟨g,o,none⟩:=by cases hv;rfl
   have e2:ob=some ⟨I,Q,none⟩:=by cases N;rfl
   subst e1 e2;obtain⟨u,s⟩:∃u,aM x=u:=⟨_,rfl⟩
   obtain⟨z,t⟩:∃z,aM y=z:=⟨_,rfl⟩
   have HSX:=O (show ∀w',S w'->w'.rangeAt g (o+k*2) u from fun w' h=>by
    rw[c] at h;obtain⟨g',o',c',C,B⟩:=fO (p.keep h fun _ _=>id) r;cases C
    rw[←s];exact B)
   have HSY:=O (show ∀w',S w'->w'.rangeAt I (Q+k*2) z from fun w' h=>by
    rw[c] at h;obtain⟨g',o',c',C,B⟩:=fO (q.keep h fun _ _=>id) hy;cases C
    rw[←t];exact B)
   have HX:Hid ((Tryz.prog.info? 82).map (·.size)=some u.length):=O (by rw[←s];exact bH);have HY:Hid ((Tryz.prog.info? 82).map (·.size)=some z.length):=O (by rw[←t];exact bH);obtain⟨H,A⟩:∃H,(!decide (x=y))=H:=⟨_,rfl⟩
   have HNE:Hid (∀w',Sem.run Tryz.prog (binOp .neq 82 (.agg u.toArray) (.agg z.toArray)) w'=.ok (.bool H) w'):=O (fun w'=>by rw[←s,←t,←A];exact Ci x y w');have D:=O A;have HSE:=O (show ∀w',S w'->aA aB w w' from fun w' h=>by rw[c] at h;exact h);have a:S wr.drew:=by rw[c];exact Z.drew
   have HTX:Hid (j.take (k+1)=j.take k++[x]):=O (by rw[List.take_add_one,r];rfl);have HTY:Hid (ys.take (k+1)=ys.take k++[y]):=O (by rw[List.take_add_one,hy];rfl);have HXE:=O r;have HYE:=O hy;have hki:(k:Int)<(n:Int):=by omega
   have hk0:(0:Int)≤(k:Int):=by omega
   clear r hy c p q hv N s t A Z;go_wp2_with fail;refine wp_region_held (S:=S) (by kernel_rfl) ?_;change wpAnyH _ _ _ _ _ _ _ _ wr.drew;generalize wr.drew=w6 at *;refine tka 0 (.slice (some ⟨g,o,none⟩) n ca) rfl a ?_;simp only[Act.put,List.setIfInBounds_toArray,List.set_cons_zero,List.set_cons_succ,List.getElem_toArray,List.getElem_cons_zero];refine tna 1 (.int .i64 k) rfl a ?_;refine tkd 2 (.pointer (some ⟨g,o+k*2,none⟩)) rfl (.inl ⟨by rfl,fun _ _=>?_⟩) a ?_
   ·go_simp
   refine nrm ?_;refine tnd 3 (.agg u.toArray) rfl (yieldsIf_load_mid (by rfl) 82 (.tmp 18) rfl g (o+k*2) rfl u _ HSX.out bB rfl HX.out) a ?_;refine tna 4 (.slice (some ⟨I,Q,none⟩) n cb) rfl a ?_;refine tna 5 (.int .i64 k) rfl a ?_;refine tkd 6 (.pointer (some ⟨I,Q+k*2,none⟩)) rfl (.inl ⟨by rfl,fun _ _=>?_⟩) a ?_
   ·go_simp
   refine nrm ?_;refine tnd 7 (.agg z.toArray) rfl (yieldsIf_load_mid (by rfl) 82 (.tmp 22) rfl I (Q+k*2) rfl z _ HSY.out bB rfl HY.out) a ?_;refine tnd 8 (.bool H) rfl (gE (by rfl) 82 (.tmp 19) (.tmp 23) 82 rfl u.toArray z.toArray rfl rfl vQ HNE.out) a ?_;refine wpAnyH_done (by kernel_rfl) ?_ _;have E:=O (HSE.out _ a);clear a;cases H
   ·have f:x=y:=by have:=D.out;simpa using this
    have HTE:Hid (j.take (k+1)=ys.take (k+1)):=O (by rw[HTX.out,HTY.out,HT.out,f]);clear f;go_wp2
    go_roundw
    case rel=>exact⟨k+1,by omega,by go_num,HTE,E⟩
    case measure=>simp[intOf];omega
   ·have f:x≠y:=by have:=D.out;simpa using this
    have J:bb=false:=by
     rw[←Y.out];refine decide_eq_false fun e=>f ?_
     have h1:=HXE.out;rw[e,HYE.out] at h1;exact(Option.some.inj h1).symm
    subst J;clear f;go_wp2;go_ret;exact⟨rfl,E.out⟩
  ·obtain rfl:k=n:=by omega
   have J:bb=true:=by
    rw[←Y.out];have:=HT.out;rw[List.take_of_length_le (by rw[V.out];exact Nat.le_refl _),List.take_of_length_le (by rw[U.out];exact Nat.le_refl _)] at this;exact decide_eq_true this
   subst J;go_wp2;go_ret;exact⟨rfl,Z.out⟩
 ·have J:bb=false:=by
   rw[←Y.out];refine decide_eq_false fun e=>M ?_
   rw[←V.out,←U.out,e]
  subst J;have hni:¬(n:Int)=(m:Int):=by omega
  go_in;go_wp2;go_ret;exact⟨rfl,aA.refl _ _⟩
theorem Gj(w:World)(v u:Value)(p q:Pt)(h0:PtV w v p)(J:PtV w u q):Calls Tryz.prog 40 #[.agg (aE v p).toArray,.agg (aE u q).toArray] w (aX w (p.eqB q)):=by
 obtain⟨K,H,Z,-,-⟩:=h0.rd.form;subst Z;obtain⟨L,I,Z,-,-⟩:=J.rd.form;subst Z;obtain⟨n,Y⟩:∃x,p.addrs.length=x:=⟨_,rfl⟩
 obtain⟨m,X⟩:∃x,q.addrs.length=x:=⟨_,rfl⟩
 have HN:=O Y;have HM:=O X;rw[Y] at h0 ⊢;rw[X] at J ⊢;obtain⟨M,i⟩:∃M,(w.alloc (.cells (aE (.slice K n H) p).toArray 27)).alloc (.cells (aE (.slice L m I) q).toArray 27)=M:=⟨_,rfl⟩
 have g:M.heap[w.heap.size]?=some (.cells (aE (.slice K n H) p).toArray 27 (0,0)):=by rw[←i];exact heap_alloc2_old _ _ _
 have h:M.heap[w.heap.size+1]?=some (.cells (aE (.slice L m I) q).toArray 27 (0,0)):=by rw[←i];exact heap_alloc2_new _ _ _
 have r:aA aB w M:=by rw[←i];exact((aA.refl _ _).alloc _).alloc _
 obtain⟨V,b0,c0,s⟩:=bQ (aD g);have z:=O s;have N:=O g;have B:(aE (.slice K n H) p).length=35:=aJ h0.sum;simp only[Nat.zero_add] at V b0 c0;obtain⟨W,b1,c1,y⟩:=bQ (aD h);have A:=O y;have Q:=O h;have C:(aE (.slice L m I) q).length=35:=aJ J.sum;simp only[Nat.zero_add] at W b1 c1;have j:=O r;have a:=O (aD N.out);have c:=O (aD Q.out);have R:=O (Kv M _ _ p q (h0.keep r fun _ _=>id) (J.keep r fun _ _=>id));have HE:=O (fun wx (k:aA aB w wx)=>Ey wx _ _ p.addrs q.addrs (h0.rd.keep k fun _ _=>id) (J.rd.keep k fun _ _=>id) _ rfl);obtain⟨pc,D⟩:∃x,aE (.slice K n H) p=x:=⟨_,rfl⟩
 have S:=O D;obtain⟨qc,E⟩:∃x,aE (.slice L m I) q=x:=⟨_,rfl⟩
 have U:=O E;obtain⟨t1,F⟩:∃t:Bool,p.like q=t:=⟨_,rfl⟩
 obtain⟨t2,G⟩:∃t:Bool,decide (p.addrs=q.addrs)=t:=⟨_,rfl⟩
 have HS:=O (show p.eqB q=(t1 && t2) by rw[←IB,F,G]);rw[F] at R;rw[G] at HE;rw[D] at i R B a ⊢;rw[E] at i R C c ⊢;clear F G g h s y r D E h0 J N Q z A Y X;cases t1
 ·go_in
  go_wp2_with (first
   | ((with_reducible show WL _ (.load 27 (.tmp 2)));refine aP (by rfl) 27 (.tmp 2) rfl (w.heap.size) 0 rfl pc _ a.out aH rfl (bY B) ?_)
   | ((with_reducible show WL _ (.load 27 (.tmp 3)));refine aP (by rfl) 27 (.tmp 3) rfl (w.heap.size+1) 0 rfl qc _ c.out aH rfl (bY C) ?_))
  refine R.mono ?_;rintro e w2 ⟨rfl,f⟩;have a:=O (f.rangeAt a.out);have c:=O (f.rangeAt c.out);have j:=O (j.trans f);obtain⟨V,b0,c0,s⟩:=bQ (p:=p) (v:=.slice K n H) (by rw[S.out];exact a.out);obtain⟨W,b1,c1,y⟩:=bQ (p:=q) (v:=.slice L m I) (by rw[U.out];exact c.out);simp only[Nat.zero_add] at V b0 c0 W b1 c1;have z:=O s;have A:=O y;clear f s y;go_wp2;go_ret;exact⟨by rw[HS.out];rfl,j.out⟩
 ·go_in
  go_wp2_with (first
   | ((with_reducible show WL _ (.load 27 (.tmp 2)));refine aP (by rfl) 27 (.tmp 2) rfl (w.heap.size) 0 rfl pc _ a.out aH rfl (bY B) ?_)
   | ((with_reducible show WL _ (.load 27 (.tmp 3)));refine aP (by rfl) 27 (.tmp 3) rfl (w.heap.size+1) 0 rfl qc _ c.out aH rfl (bY C) ?_))
  refine R.mono ?_;rintro e w2 ⟨rfl,f⟩;have a:=O (f.rangeAt a.out);have c:=O (f.rangeAt c.out);have j:=O (j.trans f);obtain⟨V,b0,c0,s⟩:=bQ (p:=p) (v:=.slice K n H) (by rw[S.out];exact a.out);obtain⟨W,b1,c1,y⟩:=bQ (p:=q) (v:=.slice L m I) (by rw[U.out];exact c.out);simp only[Nat.zero_add] at V b0 c0 W b1 c1;have z:=O s;have A:=O y;clear f s y;go_wp2_with fail;refine(HE.out _ j.out).mono ?_;rintro e w3 ⟨rfl,f⟩;have j:=O (j.trans f);clear f
  cases t2<;>(
   go_wp2;go_ret;exact⟨by rw[HS.out];rfl,j.out⟩)
theorem IC(w:World)(v u:Value)(p q:Pt)(h0:PtV w v p)(s:PtV w u q):Calls Tryz.prog 33 #[.agg (aE v p).toArray,.agg (aE u q).toArray] w (aX w (p.eqB q)):=by
 obtain⟨N,E,hv,-,-⟩:=h0.rd.form;subst hv;obtain⟨Q,F,hv,-,-⟩:=s.rd.form;subst hv;obtain⟨n,hn⟩:∃x,p.addrs.length=x:=⟨_,rfl⟩
 obtain⟨m,hm⟩:∃x,q.addrs.length=x:=⟨_,rfl⟩
 have HN:=O hn;have HM:=O hm;rw[hn] at h0 ⊢;rw[hm] at s ⊢;obtain⟨R,g⟩:∃R,(w.alloc (.cells (aE (.slice N n E) p).toArray 27)).alloc (.cells (aE (.slice Q m F) q).toArray 27)=R:=⟨_,rfl⟩
 have c:R.heap[w.heap.size]?=some (.cells (aE (.slice N n E) p).toArray 27 (0,0)):=by rw[←g];exact heap_alloc2_old _ _ _
 have f:R.heap[w.heap.size+1]?=some (.cells (aE (.slice Q m F) q).toArray 27 (0,0)):=by rw[←g];exact heap_alloc2_new _ _ _
 have I:aA aB w R:=by rw[←g];exact((aA.refl _ _).alloc _).alloc _
 obtain⟨U,b0,c0,G⟩:=bQ (aD c);have j:=O G;have C:=O c;have hl0:(aE (.slice N n E) p).length=35:=aJ h0.sum;simp only[Nat.zero_add] at U b0 c0;obtain⟨V,b1,c1,H⟩:=bQ (aD f);have r:=O H;have D:=O f;have hl1:(aE (.slice Q m F) q).length=35:=aJ s.sum;simp only[Nat.zero_add] at V b1 c1;have S:=O I;have h:=O (aD C.out);have i:=O (aD D.out);have HE:=O (fun wx (k:aA aB w wx)=>yX wx _ _ p.addrs q.addrs (h0.rd.keep k fun _ _=>id) (s.rd.keep k fun _ _=>id) _ rfl);obtain⟨pc,y⟩:∃x,aE (.slice N n E) p=x:=⟨_,rfl⟩
 have Y:=O y;obtain⟨qc,z⟩:∃x,aE (.slice Q m F) q=x:=⟨_,rfl⟩
 have Z:=O z;have a:=C3 p.sum q.sum h0.sum s.sum;have K:(p.sum.map vb).length=32:=by rw[List.length_map];exact h0.sum
 have J:(q.sum.map vb).length=32:=by rw[List.length_map];exact s.sum
 obtain⟨t1,A⟩:∃t:Bool,decide (p.addrs=q.addrs)=t:=⟨_,rfl⟩
 obtain⟨t2,ht2⟩:∃t:Bool,(p.birth == q.birth)=t:=⟨_,rfl⟩
 obtain⟨t3,ht3⟩:∃t:Bool,(p.level == q.level)=t:=⟨_,rfl⟩
 obtain⟨t4,B⟩:∃t:Bool,decide (p.sum=q.sum)=t:=⟨_,rfl⟩
 have HS:=O (show p.eqB q=(t1 && t2 && t3 && t4) by unfold Pt.eqB;rw[A,ht2,ht3,B]);rw[A] at HE;rw[B] at a;rw[y] at g hl0 h ⊢;rw[z] at g hl1 i ⊢;have X:=O a;clear A B c f G H I y z h0 s C D hn hm a;go_in;go_wp2_with fail;refine(HE.out _ S.out).mono ?_;rintro e w2 ⟨rfl,W⟩;have h:=O (W.rangeAt h.out);have i:=O (W.rangeAt i.out);have S:=O (S.trans W);obtain⟨U,b0,c0,G⟩:=bQ (p:=p) (v:=.slice N n E) (by rw[Y.out];exact h.out);obtain⟨V,b1,c1,H⟩:=bQ (p:=q) (v:=.slice Q m F) (by rw[Z.out];exact i.out);simp only[Nat.zero_add] at U b0 c0 V b1 c1;have j:=O G;have r:=O H;clear W G H;clear U V;obtain⟨ss,L⟩:∃x,p.sum.map vb=x:=⟨_,rfl⟩
 obtain⟨zz,M⟩:∃x,q.sum.map vb=x:=⟨_,rfl⟩
 have a:=X.out;rw[L] at j K a;rw[M] at r J a;clear L M
 cases t1<;>cases t2<;>cases t3<;>cases t4<;>(
  go_wp2_with (first
   | ((with_reducible show WL _ (.load 25 (.tmp 25)));refine aP (by rfl) 25 (.tmp 25) rfl (w.heap.size) 3 rfl ss _ j.out Tryz.underlying25 rfl (rQ K) ?_)
   | ((with_reducible show WL _ (.load 25 (.tmp 27)));refine aP (by rfl) 25 (.tmp 27) rfl (w.heap.size+1) 3 rfl zz _ r.out Tryz.underlying25 rfl (rQ J) ?_))
  go_ret;exact⟨by rw[HS.out];rfl,S.out⟩)
theorem Mw(n k r:Nat)(h:r<k):(be n k).take (r+1)=(be n k).take r++[iN n k r]:=by
 unfold be;rw[List.take_add_one,List.getElem?_map,List.getElem?_range h];rfl
def Mx(w:World)(base:Nat)(v:Value)(l:List UInt8)(e:Ending)(w':World):Prop:=
 ∃a,e=.returned a/\w'.ownsRow base 5 1 a l.length (l.map vb)/\(a.ownBlock=v.ownBlock\/∀i,a.ownBlock=some i->w.heap.size≤i)/\aA (fun i=>v.ownBlock=some i) w w'
theorem kY(w:World)(base:Nat)(v:Value)(l:List UInt8)(n k:Nat)(ho:w.ownsRow base 5 1 v l.length (l.map vb))(hb:base≤w.heap.size)(h1:1≤k)(hk:k≤4)(hl:l.length≤1000)(hn:n≤9223372036854775807) :
 Calls Tryz.prog 190 #[v,.int .i64 (n:Int),.int .i64 (k:Int)] w (Mx w base v (l++be n k)):=by
 have V:=O ho;obtain⟨A,z,rfl,-,-⟩:=(Rd.of_owns ho).form;obtain⟨q,hq⟩:∃q,l.length=q:=⟨_,rfl⟩
 have HQ:=O hq;rw[hq] at V hl ⊢;clear ho hq;go_in;go_wp2_with fail
 go_loopw [0,7] (fun t i wr=>∃(r:Nat) (a:Int) (B:Option Addr) (C:Nat),r≤k/\a=(k:Int)-1-(r:Int)/\t=.slice B (q+r) C/\i=.int .i64 a/\Hid (wr.ownsRow base 5 1 (.slice B (q+r) C) (q+r) ((l++(be n k).take r).map vb))/\Hid ((Value.slice B (q+r) C).ownBlock=(Value.slice A q z).ownBlock\/∀i,(Value.slice B (q+r) C).ownBlock=some i->w.heap.size≤i)/\Hid (aA (fun i=>(Value.slice A q z).ownBlock=some i) w wr)) (fun _ i _=>(intOf i+1).toNat)
 case atStart=>exact⟨0,(k:Int)-1,A,z,Nat.zero_le _,by omega,rfl,by go_num,O (by rw[List.take_zero,List.append_nil];exact V.out),O (.inl rfl),O (aA.refl _ _)⟩
 case round =>
 clear V;obtain⟨r,a,B,C,hr,p,rfl,rfl,Y,M,J⟩:=hrel
 by_cases hlt:r<k
 ·have m:(0:Int)≤a:=by omega
  have hi4:a≤3:=by omega
  obtain⟨j,hj⟩:∃j:Nat,a=(j:Int):=⟨a.toNat,by omega⟩
  have E:j=k-r-1:=by omega
  have hj3:j≤3:=by omega
  have s:=sJ n k r;rw[←E] at s;have HV:Hid (Value.int .u8 ((n:Int) / 2 ^ (8*j) % 256)=vb (iN n k r)):=O (by unfold vb;rw[s]);have hd:0≤a:=m;obtain⟨w8,I,x,f,hs8⟩:=aS wr #[.int .u8 ((n:Int) / 2 ^ (8*j) % 256)] 5;obtain⟨bz,g⟩:∃b,wr.heap.size=b:=⟨_,rfl⟩
  rw[g] at f;have Z:Hid (Rd w8 1 (.slice bz 1 1) 1 [vb (iN n k r)]):=O (by rw[←HV.out];exact dE (n:=1) (size:=1) (vs:=[.int .u8 ((n:Int) / 2 ^ (8*j) % 256)]) f rfl (by unfold maxLen;omega));have X:=O (x.owns Y.out fun _ _=>id);have c:=O (J.trans' x (U:=fun i=>(Value.slice A q z).ownBlock=some i) (fun _ _ h=>h) (fun _ _ h=>h.elim));have H:base≤w8.heap.size:=Nat.le_trans hb c.size;have Q:=O g;have HSW:=O J.size;have G:∀u∈[vb (iN n k r)],u.oneCell'=true:=by intro u hu;rw[List.mem_singleton.1 hu];rfl
  have HW8:=O I;subst hj;have R:=O p;have hj1:(j:Int)≤3:=hi4;clear p x f hs8 g I s E Y J
  go_wp2_with (first
   | (at_builtin;try rw[HW8.out]
      try rw[Q.out]
      refine aL rfl (.tmp 14) (.tmp 20) 268 rfl base 5 _ 1 1 Tryz.underlying268 fS rfl (by omega) (.slice B (q+r) C) (q+r) ((l++(be n k).take r).map vb) rfl X.out (.slice bz 1 1) 1 [vb (iN n k r)] rfl Z.out G (by unfold maxLen;omega) (by omega) H ?_;intro v' w9 y F hn5 D;obtain⟨K,L,rfl,-,-⟩:=(Rd.of_owns y).form;have W:Hid (w9.ownsRow base 5 1 (.slice K (q+(r+1)) L) (q+(r+1)) ((l++(be n k).take (r+1)).map vb)):=O (by rw[Mw n k r hlt,←List.append_assoc,List.map_append,List.map_singleton];exact y)
      have N:Hid ((Value.slice K (q+r+1) L).ownBlock=(Value.slice A q z).ownBlock\/∀i,(Value.slice K (q+r+1) L).ownBlock=some i->w.heap.size≤i):=O (by
       rcases D with h|h
       ·rw[h]
        exact M.out
       ·refine .inr fun i hi=>?_
        rw[h] at hi;cases hi
        exact c.size)
      have S:=O (c.trans' F (U:=fun i=>(Value.slice A q z).ownBlock=some i) (fun _ _ h=>h) (fun i hi e=>by
       rcases M.out with h|h
       ·rw[←h];exact e
       ·have:=h i e;omega))
      clear y F hn5 D))
  go_roundw
  case rel=>exact⟨r+1,(j:Int)-1,K,L,by omega,by have:=R.out;omega,rfl,by go_num,W,N,S⟩
  case measure=>simp[intOf]
 ·obtain rfl:k=r:=by omega
  have m:¬(0:Int)≤a:=by omega
  have hd:decide ((0:Int)≤a)=false:=decide_eq_false m;have hi5:a<0:=by omega
  clear p;go_wp2;go_ret;refine⟨_,rfl,?_,M.out,J.out⟩;have h:=Y.out;rw[List.take_of_length_le (by rw[bM];exact Nat.le_refl _)] at h;rw[List.length_append,bM,HQ.out];exact h
theorem C4{t u e:TypeId}{a:TypeDesc}(c:P.underlying t=some (.slice e))(h:P.underlying u=some a)(g:(a matches .int _)=false)(f:TypeId)(args:Array Value)(w:World) :
 (Builtin.append_ #[t,u] f args).run P w=(Builtin.append_ #[t,t] f args).run P w:=by
 unfold Builtin.append_;rcases h0:args[0]? with _|s
 ·simp
 rcases i:args[1]? with _|x
 ·simp
 simp only[List.getElem?_toArray,List.getElem?_cons_zero,List.getElem?_cons_succ];simp only[Sem.run_bind,run_underlying c,Result.andThen_ok];cases s<;>try rfl
 simp only[Sem.run_bind,run_underlying c,run_underlying h,Result.andThen_ok,Sem.run_pure];cases a<;>first|rfl|(simp at g)|skip
theorem wH{ops:Array Oper}{rest:List Oper}{o:Oper}{a:Act}{Q:Exit->Act->World->Prop}(E:o.guard=none)(s x:Operand)(t u:TypeId)
 (ho:o.op=.call { callee:=.builtin .append,args:=#[s,x],argTypes:=#[t,u] }) (M:TypeDesc) (hu:P.underlying u=some M) (D:(M matches .int _)=false)
 (base:Nat) (e:TypeId) (z:Value) (size bytes:Nat) (R:P.underlying t=some (.slice e)) (y:(P.info? e).map (fun i=>(i.zero,i.size,i.bytes))=some (some z,size,bytes)) (J:z.cells.size=size) (F:0<size)
 (v:Value) (n:Nat) (L:List Value) (hs:a.eval s=v) (A:w.ownsRow base e size v n L)
 (B:Addr) (m c:Nat) (f:List Value) (hx:a.eval x=.slice (some B) m c) (Z:f.length=m*size) (p:∀j u,f[j]?=some u->w.cell? (B.add j)=some u) (S:∀u∈f,u.oneCell'=true)
 (C:n+m≤maxLen) (g:(n+m)*bytes≤140737488355328) (q:base≤w.heap.size)
 (h:∀r w',w'.ownsRow base e size r (n+m) (L++f)->aA (fun k=>v.ownBlock=some k) w w'->(r.ownBlock=v.ownBlock\/r.ownBlock=some w.heap.size)->wpList P ops Q rest (a.put o.dst r) w'):wpList P ops Q (o::rest) a w:=by
 obtain⟨i,Y,G,H,I⟩:=info_parts y;refine wpList_plain E fun K X=>?_
 obtain⟨r,w',N,U,V,h4,W⟩:=run_append_own_at (P:=P) w base t o.type e i z size bytes R Y G H I J F v n L A B m c f Z p S C g q;rw[←C4 R hu D] at N;unfold Oper.wp execOp;simp only[ho,resolve,invoke,builtin,Sem.run_bind,Sem.run_pure,Result.andThen_ok,List.map_toArray,List.map_cons,List.map_nil,hs,hx,N];exact X _ _ (h r w' U (aA.of_grown V) W)
open Go.RowKit Go.Maps Go.ChangeMaps
set_option maxRecDepth 100000
set_option linter.unusedVariables false
def zAd:Ad:=⟨0,0⟩
def ND(a:Ad):List UInt8:=be a.dev.toNat 1++be a.sec.toNat 2
def bW(p:Pt)(k:Nat):List UInt8:=be p.addrs.length 1++(List.range k).flatMap fun i=>ND (p.addrs.getD i zAd)
def cF(p:Pt):List UInt8:=bW p 3++be p.birth.toNat 4++be p.level.toNat 1++p.sum
def ptB(p:Pt):List UInt8:=if p.may then cF p else []
theorem qY(p:Pt)(k:Nat):bW p (k+1)=bW p k++be (p.addrs.getD k zAd).dev.toNat 1++be (p.addrs.getD k zAd).sec.toNat 2:=by
 unfold bW;rw[List.range_succ,List.flatMap_append,List.append_assoc,List.append_assoc];simp[ND]
theorem eV(p:Pt)(k:Nat):(bW p k).length=1+3*k:=by
 induction k with
 | zero=>simp[bW,bM]
 | succ k a=>rw[qY,List.length_append,List.length_append,a,bM,bM];omega
theorem eT{p:Pt}(h:p.sum.length=32):(cF p).length=47:=by
 unfold cF;simp only[List.length_append,eV,bM,h]
theorem iK{p:Pt}(h:p.may=true):p.addrs.length≤3/\(∀a∈p.addrs,kM a=true)/\0≤p.birth/\p.birth≤2147483648/\0≤p.level/\p.level≤3:=by
 unfold Pt.may at h;rw[Bool.or_eq_true] at h;rcases h with h|h
 ·unfold Pt.hole Pt.noth at h
  simp only[Bool.and_eq_true,beq_iff_eq,decide_eq_true_eq] at h;have h0:p.addrs=[]:=List.eq_nil_of_length_eq_zero (by omega);rw[h0];exact⟨by simp,by simp,by omega,by omega,by omega,by omega⟩
 ·unfold qX Pt.numsB at h
  simp only[Bool.and_eq_true,decide_eq_true_eq,List.all_eq_true] at h;exact⟨h.1.2,h.1.1.1.1,by omega,by omega,by omega,by omega⟩
theorem ID(h:∀a∈l,kM a=true)(k:Nat):∃d s:Nat,l.getD k zAd=⟨(d:Int),(s:Int)⟩/\d<8/\s<4096:=by
 rw[List.getD_eq_getElem?_getD];cases e:l[k]? with
 | none=>exact⟨0,0,rfl,by omega,by omega⟩
 | some a =>
   have:=h a (List.mem_of_getElem? e);unfold kM at this;simp only[Bool.and_eq_true,decide_eq_true_eq] at this;obtain⟨x,y⟩:=a;simp only at this;exact⟨x.toNat,y.toNat,by show (⟨x,y⟩:Ad)=_;rw[Int.toNat_of_nonneg (by omega),Int.toNat_of_nonneg (by omega)],by omega,by omega⟩
def Bm(w:World)(p:Pt)(e:Ending)(w':World):Prop:=
 ∃v,e=.returned (.tuple #[v,.int .i64 (if p.may then 0 else 2)])/\w'.ownsRow w.heap.size 5 1 v (ptB p).length ((ptB p).map vb)/\aA aB w w'
theorem uM(w:World)(v:Value)(p:Pt)(h0:PtV w v p):Calls Tryz.prog 139 #[.agg (aE v p).toArray] w (Bm w p):=by
 obtain⟨oa,ca,hv,-,-⟩:=h0.rd.form;subst hv;obtain⟨n,hn⟩:∃x,p.addrs.length=x:=⟨_,rfl⟩
 have HN:=O hn;rw[hn] at h0 ⊢;obtain⟨w1,hw1,hk1,hb_0,hs1⟩:=aS w (aE (.slice oa n ca) p).toArray 27;obtain⟨a0,b0,c0,d0⟩:=bQ (aD hb_0);have HP0:=O d0;have HB0:=O hb_0;have hl0:(aE (.slice oa n ca) p).length=35:=aJ h0.sum;simp only[Nat.zero_add] at a0 b0 c0;have HC:=O (kC w1 _ p (h0.keep hk1 fun _ _=>id));have HK:=O hk1;have HKA:=O hk1;have HRA:=O h0.rd;obtain⟨t,ht⟩:∃t,p.may=t:=⟨_,rfl⟩
 have HT:=O ht;rw[ht] at HC;have HR0:=O (aD HB0.out);have HSL:=O h0.sum;obtain⟨pc,hpc⟩:∃x,aE (.slice oa n ca) p=x:=⟨_,rfl⟩
 have Hpc:=O hpc;rw[hpc] at hw1 HC hl0 HR0 ⊢;have HK1:=O (aA.refl aB w1);have hs1e:w.heap.size<w1.heap.size:=by omega
 obtain⟨pb,hpb⟩:∃b,w.heap.size=b:=⟨_,rfl⟩
 have HPB:=O hpb;rw[hpb] at a0 b0 c0 HR0 hs1e;have HRW:Hid (w1.rangeAt pb 0 pc):=HR0;clear ht hb_0 d0 hk1 hs1 hpc h0 HB0 HP0 hn hpb;cases t
 ·go_in
  go_wp2_with (first
   | ((with_reducible show WL _ (.load 27 (.tmp 1)));refine aP (by rfl) 27 (.tmp 1) rfl (w.heap.size) 0 rfl pc _ (by rw[HPB.out];exact HR0.out) aH rfl (bY hl0) ?_))
  refine HC.mono ?_;rintro e w2 ⟨rfl,hk⟩;have HK2:=O hk;have HK:=O (HK.trans hk);clear hk HC;go_wp2
  go_ret2
  exact⟨_,by rw[HT.out];rfl,by rw[show ptB p=[] by unfold ptB;rw[HT.out];rfl];exact World.ownsRow_nil _ _ _ _,HK.out⟩
 ·obtain⟨hn3,hin,hb0,hb4,hl0',hl4⟩:=iK HT.out
  rw[HN.out] at hn3;have HIN:=O hin;obtain⟨bi,hbi⟩:∃b:Nat,p.birth=(b:Int):=⟨p.birth.toNat,by omega⟩
  obtain⟨le,hle⟩:∃b:Nat,p.level=(b:Int):=⟨p.level.toNat,by omega⟩
  have hbib:bi≤2147483648:=by omega
  have hleb:le≤3:=by omega
  have HBI:=O hbi;have HLE:=O hle;rw[hbi] at b0;rw[hle] at c0;have HA0:=O a0;have HB0:=O b0;have HC0:=O c0;clear hin hb0 hb4 hl0' hl4 hbi hle;go_in
  go_wp2_with (first
   | ((with_reducible show WL _ (.load 27 (.tmp 1)));refine aP (by rfl) 27 (.tmp 1) rfl (w.heap.size) 0 rfl pc _ (by rw[HPB.out];exact HR0.out) aH rfl (bY hl0) ?_))
  refine HC.mono ?_;rintro e w2 ⟨rfl,hk⟩;have HK2:=O hk;have HK:=O (HK.trans hk);clear hk HC;obtain⟨w3,hw3,hk3,hb3,hs3⟩:=aS w2 #[] 5;obtain⟨B,hB⟩:∃B,w1.heap.size=B:=⟨_,rfl⟩
  have M:=O hB;have hpbB:pb<B:=by omega
  have hB2:B≤w2.heap.size:=by rw[←hB];exact HK2.size
  obtain⟨q0,hq0⟩:∃b,w2.heap.size=b:=⟨_,rfl⟩
  have HO3:Hid (w3.ownsRow B 5 1 (.slice q0 0 0) 0 []):=O (by rw[←hw3,←hq0];exact aQ (World.ownsRow_made w2 #[] 0 (Nat.le_refl _) (by unfold maxLen;omega) rfl) hB2);have HK3:=O (HK2.trans hk3);have a0:=HK3.cell HA0.out id;have hB3:B≤w3.heap.size:=Nat.le_trans hB2 hk3.size;have hq0B:B≤q0:=by omega
  clear hk3 hb3 hs3 hB b0 c0 HK2;rw[HPB.out];go_wp2_with fail;refine(kY w3 B _ [] n 1 HO3.out hB3 (by omega) (by omega) (by simp) (by omega)).mono ?_;rintro e w4 ⟨v4,rfl,ho4,hb4,hk4⟩
  have HK4:=O (HK3.trans' hk4 (U:=aB) (fun _ _ h=>h) (fun i H e=>by
   have e':q0=i:=Option.some.inj e;have:=M.out;omega))
  obtain⟨pa,pc',rfl,-,-⟩:=(Rd.of_owns ho4).form;have hlen0:([]++be n 1:List UInt8).length=1:=by simp[bM]
  rw[hlen0] at ho4 ⊢
  have HO4:Hid (w4.ownsRow B 5 1 (.slice pa 1 pc') 1 ((bW p 0).map vb)):=O (by
   have e:bW p 0=[]++be n 1:=by unfold bW;rw[HN.out];simp
   rw[e];exact ho4)
  clear ho4 hb4 hk4 HO3 HK3 hlen0 a0 hw3 hq0;go_wp2_with fail
  go_loopw [5,18] (fun t i wr=>∃(k X:Nat) (pa:Option Addr) (pc:Nat),k≤3/\t=.slice pa X pc/\i=.int .i64 k/\X≤10/\Hid (X=1+3*k)/\Hid (wr.ownsRow B 5 1 (.slice pa X pc) X ((bW p k).map vb))/\Hid (aA aB w1 wr)) (fun _ i _=>3-(intOf i).toNat)
  case atStart=>exact⟨0,1,pa,pc',by omega,rfl,rfl,by omega,O rfl,HO4,HK4⟩
  case round =>
  clear HO4 HK4;obtain⟨k,X,pa,pcp,hk,rfl,rfl,hql,HQL,HO,HKW⟩:=hrel;have a0:=HKW.cell HA0.out id
  by_cases hlt:k<3
  ·have hki:(k:Int)<3:=by omega
   have hk0:(0:Int)≤(k:Int):=by omega
   obtain⟨d,s,hds,hd8,hs4⟩:=ID HIN.out k;have HDS:=O hds;obtain⟨w8,hw8,hk8,hb8,hs8⟩:=aS wr #[.int .i64 0,.int .i64 0] 82;obtain⟨K,hab⟩:∃b,wr.heap.size=b:=⟨_,rfl⟩
   rw[hab] at hb8;have HLT:Hid (∀i,(Value.slice pa X pcp).ownBlock=some i->i<K):=O (fun i H=>by rw[←hab];exact(HO.lt i H).2);have HW8:=O hw8;have HB8:=O hb8;have HABE:=O hab;have HAW:Hid (w1.heap.size≤K):=O (by rw[←hab];exact HKW.size);have HK8:=O (HKW.trans hk8);have HO8:=O (hk8.owns HO.out fun _ _=>id);have a8:=HK8.cell HA0.out id;have hrk:=HRA.keep (HKA.trans HK8.out) (fun _ _=>id);clear hk8 hb8 hs8 hds a0
   by_cases hka:k<n
   ·have hkai:(k:Int)<(n:Int):=by omega
    obtain⟨x,h_x⟩:∃x,p.addrs[k]?=some x:=⟨p.addrs[k]'(by rw[HN.out];exact hka),List.getElem?_eq_getElem _⟩
    have hxe:x=⟨(d:Int),(s:Int)⟩:=by
     have:=HDS.out;rw[List.getD_eq_getElem?_getD,h_x] at this;exact this
    subst hxe;rw[←HN.out] at hrk;obtain⟨g,o,cap',h_v,h_at⟩:=fO hrk h_x;rw[HN.out] at h_v;have e1:oa=some ⟨g,o,none⟩:=by cases h_v;rfl
    subst e1;have HX:=O h_at;clear h_x h_v h_at hrk
    go_wp2_with (first
     | ((with_reducible show WL (some 7) (.alloc 82));refine aV rfl 82 rfl bT eH #[.int .i64 0,.int .i64 0] rfl ?_;rw[hw8,hab])
     | ((with_reducible show WL _ (.load 82 (.tmp 29)));refine wpList_load_mid rfl 82 (.tmp 29) rfl g (o+k*2) rfl (aM ⟨(d:Int),(s:Int)⟩) _ HX.out bB rfl bH ?_)
     | ((with_reducible show WL none (.store 82 (.tmp 7) (.tmp 30)));refine aR rfl 82 (.tmp 7) (.tmp 30) rfl K 0 (aM ⟨(d:Int),(s:Int)⟩) rfl rfl #[.int .i64 0,.int .i64 0] 82 HB8.out (Nat.le_refl _) bH (bG _) ?_
        intro w9 hb9 hk9;rw[aK _ _ (by rfl)] at hb9;have HAB:=O hb9;have HK9:=O (HK8.trans' hk9 (U:=aB) (fun _ _ h=>h) (fun i H e=>by have:=HAW.out;omega));have HO9:=O (hk9.owns HO8.out (fun i H e=>by have:=HLT.out i H;omega));clear hb9 hk9))
    clear HW8 HB8 HK8 HO8 a8 hw8 hab;obtain⟨S,J⟩:∃S:World->Prop,S=fun w'=>aA aB w1 w'/\w'.heap[K]?=some (.cells (aM ⟨(d:Int),(s:Int)⟩).toArray 82 (0,0)):=⟨_,rfl⟩
    have N:=O (show ∀w',S w'->aA aB w1 w' from fun w' h=>by rw[J] at h;exact h.1);have I:=O (show ∀w',S w'->w'.heap[K]?=some (.cells (aM ⟨(d:Int),(s:Int)⟩).toArray 82 (0,0)) from fun w' h=>by rw[J] at h;exact h.2);have D:=O (show ∀w',aA aB w1 w'->w'.heap[K]?=some (.cells (aM ⟨(d:Int),(s:Int)⟩).toArray 82 (0,0))->S w' from fun w' h h2=>by rw[J];exact⟨h,h2⟩);have HD0:=O (fun w' (h:S w')=>(aC (I.out w' h) rfl:w'.cell? ⟨K,0,none⟩=some (.int .i64 (d:Int))));have HD1:=O (fun w' (h:S w')=>(aC (I.out w' h) rfl:w'.cell? ⟨K,1,none⟩=some (.int .i64 (s:Int))));have A:S w9.drew:=D.out _ HK9.drew ((aA.refl aB w9).drew.blk HAB.out id);have F:=(aA.refl aB w9).drew.owns HO9.out (fun _ _=>id);clear J;refine wp_region_held (S:=S) (by kernel_rfl) ?_;change wpAnyH _ _ _ _ _ _ _ _ w9.drew;generalize w9.drew=Y at A F ⊢;refine tka 0 (.slice pa X pcp) rfl A ?_;simp only[Act.put,List.setIfInBounds_toArray,List.set_cons_zero,List.set_cons_succ,List.getElem_toArray,List.getElem_cons_zero];refine tnb 1 (.pointer K) rfl A ?_;refine tnd 2 (.int .i64 (d:Int)) rfl (.inl ⟨by rfl,fun w' V=>by have c:=HD0.out w' V;go_simp⟩) A ?_;refine tnb 4 (.pointer (some ⟨K,1,none⟩)) rfl A ?_;refine tnd 5 (.int .i64 (s:Int)) rfl (.inl ⟨by rfl,fun w' V=>by have c:=HD1.out w' V;go_simp⟩) A ?_;refine wA9 3 ?_;go_wp2_with fail;have L:B≤Y.heap.size:=by rw[←M.out];exact(N.out _ A).size
    have hod':Y.ownsRow B 5 1 (.slice pa X pcp) (bW p k).length ((bW p k).map vb):=by rw[eV,←HQL.out];exact F
    refine(kY Y B _ (bW p k) d 1 hod' L (by omega) (by omega) (by rw[eV];omega) (by omega)).mono ?_;rintro e W ⟨v11,rfl,z,Q,y⟩;obtain⟨qa,qc,rfl,-,-⟩:=(Rd.of_owns z).form;have E:∀i,(Value.slice pa X pcp).ownBlock=some i->B≤i/\i<K:=fun i H=>⟨aW F H,HLT.out i H⟩
    have r:S W:=D.out _ ((N.out _ A).trans' y (U:=aB) (fun _ _ h=>h) (fun i H e=>by have:=(E i e).1;have:=M.out;omega)) (y.blk (I.out _ A) (fun e=>by have:=(E K e).2;omega))
    have G:∀i,(Value.slice qa (bW p k++be d 1).length qc).ownBlock=some i->B≤i/\i≠K:=fun i H=>⟨aW z H,by
     rcases Q with h|h
     ·rw[h] at H;have:=(E i H).2;omega
     ·have h1:=h i H
      have h2:=lt_of_block (I.out _ A);omega⟩
    have m:(bW p k++be d 1).length=X+1:=by rw[List.length_append,eV,bM,HQL.out]
    have Z:B≤W.heap.size:=Nat.le_trans L y.size;rw[m] at G ⊢;have f:=z;rw[m] at f;clear A F hod' y Q E;go_wp2_with fail;refine⟨r,?_⟩;refine wA9 6 ?_;go_wp2_with fail;refine(kY W B _ (bW p k++be d 1) s 2 (by rw[m];exact f) Z (by omega) (by omega) (by rw[m];omega) (by omega)).mono ?_;rintro e w12 ⟨v12,rfl,a,-,C⟩;obtain⟨ra,rc,rfl,-,-⟩:=(Rd.of_owns a).form;have q:S w12:=D.out _ ((N.out _ r).trans' C (U:=aB) (fun _ _ h=>h) (fun i H e=>by have:=(G i e).1;have:=M.out;omega)) (C.blk (I.out _ r) (fun e=>(G K e).2 rfl));have R:(bW p k++be d 1++be s 2).length=X+3:=by rw[List.length_append,m,bM]
    have hpe:bW p k++be d 1++be s 2=bW p (k+1):=by
     rw[qY,HDS.out]
     first|rfl|(show _=bW p k++be (Int.toNat _) 1++be (Int.toNat _) 2;rw[Int.toNat_natCast,Int.toNat_natCast])
    rw[R] at a ⊢;rw[hpe] at a;have HO12:=O a;clear r G z f C a hpe;go_wp2_with fail;refine⟨q,?_⟩;refine tna 7 (.slice ra (X+3) rc) rfl q ?_;refine wpAnyH_done (by kernel_rfl) ?_ _;have HK12:=O (N.out _ q);clear q N I D HD0 HD1 HAB HO9 HK9 HLT;go_wp2
    go_roundw
    case rel=>exact⟨k+1,X+3,ra,rc,by omega,rfl,by go_num,by have:=HQL.out;omega,O (by rw[HQL.out];omega),HO12,HK12⟩
    case measure=>simp[intOf];omega
   ·have hkai:¬(k:Int)<(n:Int):=by omega
    have hd0:d=0/\s=0:=by
     have h:=HDS.out;rw[List.getD_eq_getElem?_getD,List.getElem?_eq_none (by rw[HN.out];omega)] at h;have h1:=congrArg Ad.dev h;have h2:=congrArg Ad.sec h;have h3:(0:Int)=(d:Int):=h1;have h4:(0:Int)=(s:Int):=h2;omega
    obtain⟨rfl,rfl⟩:=hd0;have HAB:Hid (w8.heap[K]?=some (.cells (aM ⟨((0:Nat):Int),((0:Nat):Int)⟩).toArray 82 (0,0))):=HB8;have HK9:=HK8;have HO9:=HO8;clear hrk
    go_wp2_with (first
     | ((with_reducible show WL (some 7) (.alloc 82));refine aV rfl 82 rfl bT eH #[.int .i64 0,.int .i64 0] rfl ?_;rw[hw8,hab]))
    obtain⟨w9,hw9⟩:∃w9,w8=w9:=⟨_,rfl⟩
    rw[hw9] at HAB HK9 HO9 ⊢;clear HW8 HB8 HK8 HO8 a8 hw8 hab hw9;obtain⟨S,J⟩:∃S:World->Prop,S=fun w'=>aA aB w1 w'/\w'.heap[K]?=some (.cells (aM ⟨((0:Nat):Int),((0:Nat):Int)⟩).toArray 82 (0,0)):=⟨_,rfl⟩
    have N:=O (show ∀w',S w'->aA aB w1 w' from fun w' h=>by rw[J] at h;exact h.1);have I:=O (show ∀w',S w'->w'.heap[K]?=some (.cells (aM ⟨((0:Nat):Int),((0:Nat):Int)⟩).toArray 82 (0,0)) from fun w' h=>by rw[J] at h;exact h.2);have D:=O (show ∀w',aA aB w1 w'->w'.heap[K]?=some (.cells (aM ⟨((0:Nat):Int),((0:Nat):Int)⟩).toArray 82 (0,0))->S w' from fun w' h h2=>by rw[J];exact⟨h,h2⟩);have HD0:=O (fun w' (h:S w')=>(aC (I.out w' h) rfl:w'.cell? ⟨K,0,none⟩=some (.int .i64 ((0:Nat):Int))));have HD1:=O (fun w' (h:S w')=>(aC (I.out w' h) rfl:w'.cell? ⟨K,1,none⟩=some (.int .i64 ((0:Nat):Int))));have A:S w9.drew:=D.out _ HK9.drew ((aA.refl aB w9).drew.blk HAB.out id);have F:=(aA.refl aB w9).drew.owns HO9.out (fun _ _=>id);clear J;refine wp_region_held (S:=S) (by kernel_rfl) ?_;change wpAnyH _ _ _ _ _ _ _ _ w9.drew;generalize w9.drew=Y at A F ⊢;refine tka 0 (.slice pa X pcp) rfl A ?_;simp only[Act.put,List.setIfInBounds_toArray,List.set_cons_zero,List.set_cons_succ,List.getElem_toArray,List.getElem_cons_zero];refine tnb 1 (.pointer K) rfl A ?_;refine tnd 2 (.int .i64 ((0:Nat):Int)) rfl (.inl ⟨by rfl,fun w' V=>by have c:=HD0.out w' V;go_simp⟩) A ?_;refine tnb 4 (.pointer (some ⟨K,1,none⟩)) rfl A ?_;refine tnd 5 (.int .i64 ((0:Nat):Int)) rfl (.inl ⟨by rfl,fun w' V=>by have c:=HD1.out w' V;go_simp⟩) A ?_;refine wA9 3 ?_;go_wp2_with fail;have L:B≤Y.heap.size:=by rw[←M.out];exact(N.out _ A).size
    have hod':Y.ownsRow B 5 1 (.slice pa X pcp) (bW p k).length ((bW p k).map vb):=by rw[eV,←HQL.out];exact F
    refine(kY Y B _ (bW p k) 0 1 hod' L (by omega) (by omega) (by rw[eV];omega) (by omega)).mono ?_;rintro e W ⟨v11,rfl,z,Q,y⟩;obtain⟨qa,qc,rfl,-,-⟩:=(Rd.of_owns z).form;have E:∀i,(Value.slice pa X pcp).ownBlock=some i->B≤i/\i<K:=fun i H=>⟨aW F H,HLT.out i H⟩
    have r:S W:=D.out _ ((N.out _ A).trans' y (U:=aB) (fun _ _ h=>h) (fun i H e=>by have:=(E i e).1;have:=M.out;omega)) (y.blk (I.out _ A) (fun e=>by have:=(E K e).2;omega))
    have G:∀i,(Value.slice qa (bW p k++be 0 1).length qc).ownBlock=some i->B≤i/\i≠K:=fun i H=>⟨aW z H,by
     rcases Q with h|h
     ·rw[h] at H;have:=(E i H).2;omega
     ·have h1:=h i H
      have h2:=lt_of_block (I.out _ A);omega⟩
    have m:(bW p k++be 0 1).length=X+1:=by rw[List.length_append,eV,bM,HQL.out]
    have Z:B≤W.heap.size:=Nat.le_trans L y.size;rw[m] at G ⊢;have f:=z;rw[m] at f;clear A F hod' y Q E;go_wp2_with fail;refine⟨r,?_⟩;refine wA9 6 ?_;go_wp2_with fail;refine(kY W B _ (bW p k++be 0 1) 0 2 (by rw[m];exact f) Z (by omega) (by omega) (by rw[m];omega) (by omega)).mono ?_;rintro e w12 ⟨v12,rfl,a,-,C⟩;obtain⟨ra,rc,rfl,-,-⟩:=(Rd.of_owns a).form;have q:S w12:=D.out _ ((N.out _ r).trans' C (U:=aB) (fun _ _ h=>h) (fun i H e=>by have:=(G i e).1;have:=M.out;omega)) (C.blk (I.out _ r) (fun e=>(G K e).2 rfl));have R:(bW p k++be 0 1++be 0 2).length=X+3:=by rw[List.length_append,m,bM]
    have hpe:bW p k++be 0 1++be 0 2=bW p (k+1):=by
     rw[qY,HDS.out]
     first|rfl|(show _=bW p k++be (Int.toNat _) 1++be (Int.toNat _) 2;rw[Int.toNat_natCast,Int.toNat_natCast])
    rw[R] at a ⊢;rw[hpe] at a;have HO12:=O a;clear r G z f C a hpe;go_wp2_with fail;refine⟨q,?_⟩;refine tna 7 (.slice ra (X+3) rc) rfl q ?_;refine wpAnyH_done (by kernel_rfl) ?_ _;have HK12:=O (N.out _ q);clear q N I D HD0 HD1 HAB HO9 HK9 HLT;go_wp2
    go_roundw
    case rel=>exact⟨k+1,X+3,ra,rc,by omega,rfl,by go_num,by have:=HQL.out;omega,O (by rw[HQL.out];omega),HO12,HK12⟩
    case measure=>simp[intOf];omega
  ·obtain rfl:k=3:=by omega
   have HSM:=O ((bQ (p:=p) (v:=.slice oa n ca) (by rw[Hpc.out];exact HRW.out)).2.2.2);rw[Nat.zero_add] at HSM;obtain⟨ss,hss⟩:∃x,p.sum.map vb=x:=⟨_,rfl⟩
   have HSS:=O hss;have hsl:ss.length=32:=by rw[←hss,List.length_map];exact HSL.out
   have hso:∀u∈ss,u.oneCell'=true:=by rw[←hss];exact bS _
   rw[hss] at HSM;have hqe:X=10:=HQL.out;subst hqe;obtain⟨S,J⟩:∃S:World->Prop,S=fun w'=>aA aB w1 w':=⟨_,rfl⟩
   have HSE:=O (show ∀w',S w'->aA aB w1 w' from fun w' h=>by rw[J] at h;exact h);have D:=O (show ∀w',aA aB w1 w'->S w' from fun w' h=>by rw[J];exact h);have HD0:=O (fun w' (h:S w')=>(HSE.out w' h).cell HB0.out id);have HD1:=O (fun w' (h:S w')=>(HSE.out w' h).cell HC0.out id);have F:=(aA.refl aB wr).drew.owns HO.out (fun _ _=>id);have A:S wr.drew:=D.out _ HKW.drew;clear J hss a0 HO;go_wp2_with fail;refine wp_region_held (S:=S) (by kernel_rfl) ?_;change wpAnyH _ _ _ _ _ _ _ _ wr.drew;generalize wr.drew=Y at A F ⊢;refine tka 0 (.slice pa 10 pcp) rfl A ?_;simp only[Act.put,List.setIfInBounds_toArray,List.set_cons_zero,List.set_cons_succ,List.getElem_toArray,List.getElem_cons_zero];refine tnb 1 (.pointer (some ⟨pb,1,none⟩)) rfl A ?_;refine tnd 2 (.int .i64 (bi:Int)) rfl (.inl ⟨by rfl,fun w' V=>by have c:=HD0.out w' V;go_simp⟩) A ?_;refine tnb 4 (.pointer (some ⟨pb,2,none⟩)) rfl A ?_;refine tnd 5 (.int .i64 (le:Int)) rfl (.inl ⟨by rfl,fun w' V=>by have c:=HD1.out w' V;go_simp⟩) A ?_;refine tnb 7 (.pointer (some ⟨pb,3,none⟩)) rfl A ?_;refine tnb 8 (.slice (some ⟨pb,3,none⟩) 32 32) rfl A ?_;refine wA9 3 ?_;go_wp2_with fail;have L:B≤Y.heap.size:=by rw[←M.out];exact(HSE.out _ A).size
   refine(kY Y B _ (bW p 3) bi 4 (by rw[eV];exact F) L (by omega) (by omega) (by rw[eV];omega) (by omega)).mono ?_;rintro e W ⟨v11,rfl,z,Q,y⟩;obtain⟨qa,qc,rfl,-,-⟩:=(Rd.of_owns z).form;have r:S W:=D.out _ ((HSE.out _ A).trans' y (U:=aB) (fun _ _ h=>h) (fun i H e=>by have:=aW F e;have:=M.out;omega));have m:(bW p 3++be bi 4).length=14:=by rw[List.length_append,eV,bM]
   have Z:B≤W.heap.size:=Nat.le_trans L y.size;have f:=z;rw[m] at f ⊢;clear A F y Q;go_wp2_with fail;refine⟨r,?_⟩;refine wA9 6 ?_;go_wp2_with fail;refine(kY W B _ (bW p 3++be bi 4) le 1 (by rw[m];exact f) Z (by omega) (by omega) (by rw[m];omega) (by omega)).mono ?_;rintro e w12 ⟨v12,rfl,a,-,C⟩;obtain⟨ra,rc,rfl,-,-⟩:=(Rd.of_owns a).form;have q:S w12:=D.out _ ((HSE.out _ r).trans' C (U:=aB) (fun _ _ h=>h) (fun i H e=>by have:=aW f e;have:=M.out;omega));have R:(bW p 3++be bi 4++be le 1).length=15:=by rw[List.length_append,m,bM]
   have hB12:B≤w12.heap.size:=Nat.le_trans Z C.size;rw[R] at a ⊢;clear r z f C;go_wp2_with fail;refine⟨q,?_⟩;refine wA9 9 ?_
   refine wH rfl (.tmp 45) (.tmp 47) 268 109 rfl _ Tryz.underlying109 rfl B 5 _ 1 1 Tryz.underlying268 fS rfl (by omega) (.slice ra 15 rc) 15 ((bW p 3++be bi 4++be le 1).map vb) rfl a ⟨pb,3,none⟩ 32 32 ss rfl hsl (fun j u hj=>by
    rw[iD];exact(HSE.out _ q).cell (HSM.out j u hj) id) hso (by unfold maxLen;omega) (by omega) hB12 ?_
   intro v13 w13 ho13 hk13 hb13;obtain⟨sa,sc,rfl,-,-⟩:=(Rd.of_owns ho13).form;have hS13:S w13:=D.out _ ((HSE.out _ q).trans' hk13 (U:=aB) (fun _ _ h=>h) (fun i H e=>by have:=aW a e;have:=M.out;omega))
   have HO13:Hid (w13.ownsRow B 5 1 (.slice sa 47 sc) 47 ((cF p).map vb)):=O (by
    have e:(cF p).map vb=(bW p 3++be bi 4++be le 1).map vb++ss:=by
     unfold cF;rw[HBI.out,HLE.out,Int.toNat_natCast,Int.toNat_natCast,List.map_append,HSS.out]
    rw[e];exact ho13)
   clear q a ho13 hk13 hb13;refine wpList_nil ?_;refine⟨hS13,?_⟩;refine tna 10 (.slice sa 47 sc) rfl hS13 ?_;refine tna 11 (.int .i64 0) rfl hS13 ?_;refine wpAnyH_done (by kernel_rfl) ?_ _;have HK13:=O (HSE.out _ hS13);clear hS13 HSE D;go_wp2
   go_ret2
   have e:ptB p=cF p:=by unfold ptB;rw[HT.out];rfl
   refine⟨_,by rw[HT.out];rfl,?_,HKA.trans HK13.out⟩;rw[e,eT HSL.out];exact aQ HO13.out (by have:=M.out;have:=HPB.out;omega)
open Go.RowKit Go.Maps Go.ChangeMaps
set_option maxRecDepth 100000
set_option linter.unusedVariables false
theorem LY(h:n<256):vb (UInt8.ofNat n)=.int .u8 (n:Int):=by
 unfold vb;simp;omega
end
end Go.Proofs.YtiinnfhjpaeffaaGreat
