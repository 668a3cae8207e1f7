import Derived.Test.YtoeinblfcbpcmaaGreatR8
import Derived.Test.YtoeinblfcbpcmaaGreatR16
namespace Go.Proofs.YtoeinblfcbpcmaaGreat
open Tryz
set_option maxHeartbeats 0
set_option maxRecDepth 100000
set_option linter.unusedVariables false
section
open Go.RowKit Go.Maps Go.ChangeMaps
structure Pt where
 addrs:List Ad
 birth:Int
 level:Int
 sum:List UInt8
def eL:List UInt8:=List.replicate 32 0
def Pt.noth(p:Pt):Bool:=(p.birth == 0) && (p.level == 0) && decide (p.sum=eL)
def Pt.hole(p:Pt):Bool:=((p.addrs.length:Int) == 0) && p.noth
def lC(a:Ad):Bool:=decide (0≤a.dev) && decide (a.dev<8) && decide (5≤a.sec) && decide (a.sec<4096)
def sK(l:List Ad):Bool:=l.all lC && decide ((l.map (·.dev)).Nodup) && decide (1≤l.length) && decide (l.length≤3)
def Pt.numsB(p:Pt):Bool:=decide (1≤p.birth) && decide (p.birth≤2147483648) && decide (0≤p.level) && decide (p.level≤3)
def Pt.may(p:Pt):Bool:=p.hole || (sK p.addrs && p.numsB)
def Pt.like(p q:Pt):Bool:=(p.birth == q.birth) && (p.level == q.level) && decide (p.sum=q.sum) && (decide (0<p.addrs.length) == decide (0<q.addrs.length))
structure Ub where
 txg:Int
 root:Pt
 len:Int
 pool:List UInt8
def Ub.may(u:Ub):Bool:=decide (1≤u.txg) && decide (u.txg≤2147483648) && decide (0≤u.len) && decide (u.len≤16384) && (u.root.hole || (u.root.may && (u.root.level == 3) && decide (u.root.birth≤u.txg)))
def aE(v:Value)(p:Pt):List Value:=v::.int .i64 p.birth::.int .i64 p.level::p.sum.map vb
def dS(v:Value)(u:Ub):List Value:=.int .i64 u.txg::(aE v u.root++(.int .i64 u.len::u.pool.map vb))
variable{v:Value}{w w':World}{b o n d:Nat}{l:List Ad}{T:Nat->Prop}{P:Program}
theorem aF{p:Pt}(h:p.sum.length=32):(aE v p).length=35:=by simp[aE,h]
theorem lQ{u:Ub}(h:u.root.sum.length=32)(a:u.pool.length=32):(dS v u).length=69:=by simp[dS,aE,h,a]
theorem rT{A B C:List Value}(h:w.rangeAt b o (A++(B++C))):w.rangeAt b (o+A.length) B:=fun j v a=>by
 have c:=(List.getElem?_eq_some_iff.1 a).1;have:=h (A.length+j) v (by rw[List.getElem?_append_right (by omega),show A.length+j-A.length=j by omega,List.getElem?_append_left c];exact a)
 rwa [←Nat.add_assoc] at this
theorem bN{p:Pt}(h:w.rangeAt b o (aE v p)):w.cell? ⟨b,o,none⟩=some v/\w.cell? ⟨b,o+1,none⟩=some (.int .i64 p.birth)/\w.cell? ⟨b,o+2,none⟩=some (.int .i64 p.level)/\w.rangeAt b (o+3) (p.sum.map vb):=by
 refine⟨h 0 _ rfl,h 1 _ rfl,h 2 _ rfl,?_⟩;have a:w.rangeAt b o ([v,.int .i64 p.birth,.int .i64 p.level]++(p.sum.map vb++[])):=by rw[List.append_nil];exact h
 exact rT a
theorem gT{u:Ub}(f:u.root.sum.length=32)(h:w.rangeAt b o (dS v u)):w.cell? ⟨b,o,none⟩=some (.int .i64 u.txg)/\w.rangeAt b (o+1) (aE v u.root)/\w.cell? ⟨b,o+36,none⟩=some (.int .i64 u.len)/\w.rangeAt b (o+37) (u.pool.map vb):=by
 refine⟨h 0 _ rfl,?_,?_,?_⟩
 ·have a:w.rangeAt b o ([.int .i64 u.txg]++(aE v u.root++(.int .i64 u.len::u.pool.map vb))):=h
  exact rT a
 ·have a:w.rangeAt b o ((.int .i64 u.txg::aE v u.root)++([.int .i64 u.len]++u.pool.map vb)):=h
  have c:=rT a 0 _ rfl;rw[show (Value.int .i64 u.txg::aE v u.root).length=36 by rw[List.length_cons,aF f]] at c;exact c
 ·have a:w.rangeAt b o ((.int .i64 u.txg::(aE v u.root++[.int .i64 u.len]))++(u.pool.map vb++[])):=by
   have e:dS v u=(.int .i64 u.txg::(aE v u.root++[.int .i64 u.len]))++(u.pool.map vb++[]):=by simp[dS]
   rw[←e];exact h
  have c:=rT a;rw[show (Value.int .i64 u.txg::(aE v u.root++[.int .i64 u.len])).length=37 by rw[List.length_cons,List.length_append,aF f];rfl] at c;exact c
theorem aI:prog.underlying 30=some (.struct (prog.fieldsOf 30)):=by kernel_rfl
theorem wV:(prog.info? 30).map (·.size)=some 35:=by kernel_rfl
theorem mC:prog.underlying 111=some (.struct (prog.fieldsOf 111)):=by kernel_rfl
theorem PP:(prog.info? 111).map (·.size)=some 69:=by kernel_rfl
theorem cN{l:List Value}(h:l.length=35):(prog.info? 30).map (·.size)=some l.length:=by rw[h];exact wV
theorem GM{l:List Value}(h:l.length=69):(prog.info? 111).map (·.size)=some l.length:=by rw[h];exact PP
theorem tI{l:List Value}(h:l.length=32):(prog.info? 28).map (·.size)=some l.length:=by rw[h];exact oY
theorem Mw(w:World):(sizeOf 5).run prog w=.ok 1 w:=by kernel_rfl
theorem Es(a ys:List UInt8)(c:a.length=32)(e:ys.length=32)(w:World):Sem.run prog (binOp .eql 28 (.agg (a.map vb).toArray) (.agg (ys.map vb).toArray)) w=.ok (.bool (decide (a=ys))) w:=by
 have:=run_eql_bytes (P:=prog) w 28 5 32 underlying28 underlying5 Mw a ys c e;rw[show decide (a=ys)=(a == ys) by rw[Bool.eq_iff_iff];simp];exact this
theorem OC:prog.eqGuardType prog.depth 28=false:=by kernel_rfl
theorem OD(w:World):(Instr.build 28 #[]).run prog w=.ok (.agg (eL.map vb).toArray) w:=by kernel_rfl
structure PtV(w:World)(v:Value)(p:Pt):Prop where
 rd:Rd w 2 v p.addrs.length (aR p.addrs)
 ads:kR p.addrs
 sum:p.sum.length=32
theorem PtV.keep{p:Pt}(h:PtV w v p)(k:aA T w w')(a:∀i,v.ownBlock=some i->¬T i):PtV w' v p:=⟨h.rd.keep k a,h.ads,h.sum⟩
structure UbV(w:World)(v:Value)(u:Ub):Prop where
 root:PtV w v u.root
 pool:u.pool.length=32
theorem UbV.keep{u:Ub}(h:UbV w v u)(k:aA T w w')(a:∀i,v.ownBlock=some i->¬T i):UbV w' v u:=⟨h.root.keep k a,h.pool⟩
theorem Mx:((n:Int) == 0)=decide (n=0):=by rw[Bool.eq_iff_iff];simp
theorem My(w:World)(v:Value)(p:Pt)(h0:PtV w v p):Calls prog 72 #[.agg (aE v p).toArray] w (aN w p.noth):=by
 obtain⟨J,s,i,a,m⟩:=aP w (aE v p).toArray 30;obtain⟨G,b0,c0,y⟩:=bN (aD a);have h:=O y;have k:=O a;have H:(aE v p).length=35:=aF h0.sum;simp only[Nat.zero_add] at G b0 c0;have D:=O i;have c:=Es p.sum eL h0.sum rfl;have j:(p.sum.map vb).length=32:=by rw[List.length_map];exact h0.sum
 obtain⟨t1,q⟩:∃t:Bool,(p.birth == 0)=t:=⟨_,rfl⟩
 obtain⟨C,r⟩:∃t:Bool,(p.level == 0)=t:=⟨_,rfl⟩
 obtain⟨u,g⟩:∃t:Bool,decide (p.sum=eL)=t:=⟨_,rfl⟩
 have A:p.noth=(t1 && C && u):=by unfold Pt.noth;rw[q,r,g]
 rw[A];rw[g] at c;obtain⟨B,f⟩:=zX9 (p.sum.map vb)
 have F:=O f;obtain⟨I,e⟩:=zX9 (aE v p)
 have E:=O e;rw[f] at c j h;rw[e] at s ⊢;have z:∀w,Sem.run prog (binOp .eql 28 (.agg B.toArray) (.agg #[.int .u8 0,.int .u8 0,.int .u8 0,.int .u8 0,.int .u8 0,.int .u8 0,.int .u8 0,.int .u8 0,.int .u8 0,.int .u8 0,.int .u8 0,.int .u8 0,.int .u8 0,.int .u8 0,.int .u8 0,.int .u8 0,.int .u8 0,.int .u8 0,.int .u8 0,.int .u8 0,.int .u8 0,.int .u8 0,.int .u8 0,.int .u8 0,.int .u8 0,.int .u8 0,.int .u8 0,.int .u8 0,.int .u8 0,.int .u8 0,.int .u8 0,.int .u8 0])) w=.ok (.bool u) w:=c;clear c;clear A g a y i m f e h0 k
 cases t1<;>cases C<;>cases u<;>(
  go_in
  go_wp2_with (first
   | ((with_reducible show WL _ (.load 28 (.tmp 12)));refine aK (by rfl) 28 (.tmp 12) rfl (w.heap.size) 3 rfl B _ h.out underlying28 rfl (tI j) ?_))
  go_ret;exact⟨rfl,D.out⟩)
theorem bK(w:World)(v:Value)(p:Pt)(h0:PtV w v p):Calls prog 31 #[.agg (aE v p).toArray] w (aN w p.hole):=by
 obtain⟨A,s,J,-,-⟩:=h0.rd.form;subst J;obtain⟨L,z,c,a,y⟩:=aP w (aE (.slice A p.addrs.length s) p).toArray 30;obtain⟨C,b0,c0,D⟩:=bN (aD a);have r:=O D;have i:=O a;have k:(aE (.slice A p.addrs.length s) p).length=35:=aF h0.sum;simp only[Nat.zero_add] at C b0 c0;have m:=O (My L _ p (h0.keep c fun _ _=>id));have B:=O c;obtain⟨t1,g⟩:∃t:Bool,((p.addrs.length:Int) == 0)=t:=⟨_,rfl⟩
 obtain⟨H,h⟩:∃t:Bool,p.noth=t:=⟨_,rfl⟩
 have F:p.hole=(t1 && H):=by unfold Pt.hole;rw[g,h]
 rw[F];rw[h] at m;have j:=O (aD i.out);obtain⟨K,f⟩:=zX9 (aE (.slice A p.addrs.length s) p)
 have I:=O f;rw[f] at z m k j ⊢;obtain⟨n,u⟩:=zX9 p.addrs.length
 have M:=O u;rw[u] at C g;have G:decide (n=0)=t1:=by rw[←g,Mx]
 clear F h a D c y f h0 i r u;cases t1
 ·go_in
  go_wp2;go_ret;exact⟨rfl,B.out⟩
 ·go_in
  go_wp2_with (first
   | ((with_reducible show WL _ (.load 30 (.tmp 1)));refine aK (by rfl) 30 (.tmp 1) rfl (w.heap.size) 0 rfl K _ j.out aI rfl (cN k) ?_))
  refine m.mono ?_;rintro e N ⟨rfl,E⟩;have q:=O (B.trans E);clear E m
  cases H<;>(
   go_wp2;go_ret;exact⟨rfl,q.out⟩)
theorem Mz(w:World)(v u:Value)(p q:Pt)(h0:PtV w v p)(A:PtV w u q):Calls prog 78 #[.agg (aE v p).toArray,.agg (aE u q).toArray] w (aN w (p.like q)):=by
 obtain⟨H,F,R,-,-⟩:=h0.rd.form;subst R;obtain⟨I,G,R,-,-⟩:=A.rd.form;subst R;obtain⟨E,e⟩:=zX9 ((w.alloc (.cells (aE (.slice H p.addrs.length F) p).toArray 30)).alloc (.cells (aE (.slice I q.addrs.length G) q).toArray 30))
 have a:E.heap[w.heap.size]?=some (.cells (aE (.slice H p.addrs.length F) p).toArray 30 (0,0)):=by rw[←e];exact heap_alloc2_old _ _ _
 have c:E.heap[w.heap.size+1]?=some (.cells (aE (.slice I q.addrs.length G) q).toArray 30 (0,0)):=by rw[←e];exact heap_alloc2_new _ _ _
 have B:aA aB w E:=by rw[←e];exact((aA.refl _ _).alloc _).alloc _
 obtain⟨V,b0,c0,X⟩:=bN (aD a);have y:=O X;have J:=O a;have qh:(aE (.slice H p.addrs.length F) p).length=35:=aF h0.sum;simp only[Nat.zero_add] at V b0 c0;obtain⟨W,b1,c1,Y⟩:=bN (aD c);have z:=O Y;have K:=O c;have qi:(aE (.slice I q.addrs.length G) q).length=35:=aF A.sum;simp only[Nat.zero_add] at W b1 c1;have HK:=O B;have f:=Es p.sum q.sum h0.sum A.sum;have D:(p.sum.map vb).length=32:=by rw[List.length_map];exact h0.sum
 have C:(q.sum.map vb).length=32:=by rw[List.length_map];exact A.sum
 obtain⟨t1,N⟩:∃t:Bool,(p.birth == q.birth)=t:=⟨_,rfl⟩
 obtain⟨t2,Q⟩:∃t:Bool,(p.level == q.level)=t:=⟨_,rfl⟩
 obtain⟨t3,j⟩:∃t:Bool,decide (p.sum=q.sum)=t:=⟨_,rfl⟩
 obtain⟨S,k⟩:∃t:Bool,decide (0<p.addrs.length)=t:=⟨_,rfl⟩
 obtain⟨U,r⟩:∃t:Bool,decide (0<q.addrs.length)=t:=⟨_,rfl⟩
 have Z:p.like q=(t1 && t2 && t3 && (S == U)):=by unfold Pt.like;rw[N,Q,j,k,r]
 rw[Z];rw[j] at f;obtain⟨ss,i⟩:=zX9 (p.sum.map vb)
 have qf:=O i;obtain⟨zz,s⟩:=zX9 (q.sum.map vb)
 have qg:=O s;obtain⟨pc,g⟩:=zX9 (aE (.slice H p.addrs.length F) p)
 have qd:=O g;obtain⟨qc,h⟩:=zX9 (aE (.slice I q.addrs.length G) q)
 have qe:=O h;rw[i] at f D y;rw[s] at f C z;rw[g,h] at e ⊢;obtain⟨n,M⟩:=zX9 p.addrs.length
 have Hn:=O M;obtain⟨m,L⟩:=zX9 q.addrs.length
 have Hm:=O L;rw[M] at V k;rw[L] at W r;have qa:decide ((0:Int)<(n:Int))=S:=by rw[←k];exact decide_eq_decide.2 (by omega)
 have qb:decide ((0:Int)<(m:Int))=U:=by rw[←r];exact decide_eq_decide.2 (by omega)
 clear Z j a c X Y B i s g h h0 A J K M L
 cases t1<;>cases t2<;>cases t3<;>cases S<;>cases U<;>(
  go_in
  go_wp2_with (first
   | ((with_reducible show WL _ (.load 28 (.tmp 18)));refine aK (by rfl) 28 (.tmp 18) rfl (w.heap.size) 3 rfl ss _ y.out underlying28 rfl (tI D) ?_)
   | ((with_reducible show WL _ (.load 28 (.tmp 20)));refine aK (by rfl) 28 (.tmp 20) rfl (w.heap.size+1) 3 rfl zz _ z.out underlying28 rfl (tI C) ?_))
  go_ret;exact⟨rfl,HK.out⟩)
open Go.RowKit Go.Maps Go.ChangeMaps
set_option maxRecDepth 100000
set_option linter.unusedVariables false
theorem PQ(w:World):(zeroValue 271).run prog w=.ok (.agg (Array.replicate 8 (.bool false))) w:=by kernel_rfl
def rU(l:List Ad):List Value:=(List.range 8).map fun(d:Nat)=>Value.bool (decide ((d:Int)∈l.map (·.dev)))
theorem uL(h:d<8):(rU l).toArray[d]?=some (.bool (decide ((d:Int)∈l.map (·.dev)))):=by
 unfold rU;rw[List.getElem?_toArray,List.getElem?_map,List.getElem?_range h];rfl
theorem MA{s:Int}(h:d<8):(rU l).toArray.setIfInBounds d (.bool true)=(rU (l++[⟨(d:Int),s⟩])).toArray:=by
 rw[List.setIfInBounds_toArray]
 congr 1
 refine List.ext_getElem? fun i=>?_
 unfold rU;rw[List.getElem?_set,List.getElem?_map,List.getElem?_map,List.length_map,List.length_range]
 by_cases a:i<8
 ·rw[List.getElem?_range a,List.map_append]
  by_cases e:d=i
  ·subst e
   rw[if_pos rfl,if_pos a];simp
  ·rw[if_neg e]
   have:¬(i:Int)=(d:Int):=by omega
   simp[this]
 ·rw[if_neg (by omega)]
  rw[List.getElem?_eq_none (by rw[List.length_range];omega)];rfl
theorem PR{k:Nat}{x:Ad}(a:l[k]?=some x)(h:lC x=false\/x.dev∈(l.take k).map (·.dev)):sK l=false:=by
 unfold sK;rcases h with h|h
 ·have c:l.all lC=false:=by
   rw[List.all_eq_false];exact⟨x,List.mem_of_getElem? a,by rw[h];simp⟩
  rw[c];simp
 ·have c:¬(l.map (·.dev)).Nodup:=by
   intro g;have f:=(List.getElem?_eq_some_iff.1 a).1
   have e:l=l.take k++x::l.drop (k+1):=by
    conv=>lhs;rw[←List.take_append_drop k l]
    rw[List.drop_eq_getElem_cons f]
    congr 2
    rw[List.getElem?_eq_getElem f] at a;exact Option.some.inj a
   rw[e,List.map_append,List.map_cons] at g;exact(List.nodup_append.1 g).2.2 _ h _ (List.mem_cons_self ..) rfl
  rw[decide_eq_false c];simp
theorem OE(a:l.all lC=true)(c:(l.map (·.dev)).Nodup):sK l=(decide (1≤l.length) && decide (l.length≤3)):=by
 unfold sK;rw[a,decide_eq_true c];simp
theorem J9(w:World)(v:Value)(l:List Ad)(ho:kR l)(hr:Rd w 2 v l.length (aR l)):Calls prog 152 #[v] w (aN w (sK l)):=by
 obtain⟨oa,ca,rfl,-,qt⟩:=hr.form;have qg:l.length≤maxLen:=by have h:=hr.2;obtain⟨a',qb,M,h2,h3,-⟩:=h;omega
 unfold maxLen at qg;obtain⟨bb,Q⟩:=zX9 (sK l)
 have W:=O Q;rw[Q];obtain⟨n,hn⟩:=zX9 l.length
 have HN:=O hn;have HR:=O hr;have HO:=O ho;rw[hn] at HR qg ⊢;clear qt hr hn Q ho;obtain⟨w1,qk,qf,qe,qu⟩:=aP w (Array.replicate 8 (.bool false)) 271;have K:Hid (w1.heap[w.heap.size]?=some (.cells (rU []).toArray 271 (0,0))):=O qe;have qm:=O qf;obtain⟨I,H⟩:=zX9 w.heap.size
 have q5:I<w1.heap.size:=by omega
 have qq:=O H;rw[H] at K;clear qf qe qu;go_in
 go_wp2_with (first
  | ((with_reducible show WL (some 3) (.alloc 271));refine aY rfl 271 rfl _ PQ (Array.replicate 8 (.bool false)) rfl ?_;rw[qk,H]))
 clear qk H
 go_loopw [8] (fun i wr=>∃k:Nat,k≤n/\i=.int .i64 k/\Hid (wr.heap[I]?=some (.cells (rU (l.take k)).toArray 271 (0,0)))/\Hid ((l.take k).all lC=true/\((l.take k).map (·.dev)).Nodup)/\Hid (aA (fun i=>i=I) w1 wr)) (fun i _=>n-(intOf i).toNat)
 case atStart=>exact⟨0,Nat.zero_le _,rfl,O K.out,O ⟨rfl,List.nodup_nil⟩,O (aA.refl _ _)⟩
 case round =>
 clear K;obtain⟨k,hk,rfl,R,HI,Y⟩:=hrel;have L:=O (qm.trans' Y.out (U:=aB) (fun _ _ h=>h) (fun i V e=>by have:=qq.out;omega))
 by_cases qr:k<n
 ·have q3:(k:Int)<(n:Int):=by omega
  have q1:(0:Int)≤(k:Int):=by omega
  obtain⟨⟨A,q⟩,G⟩:∃x,l[k]?=some x:=⟨l[k]'(by rw[HN.out];exact qr),List.getElem?_eq_getElem _⟩
  have N:=HR.keep L.out fun _ _=>id
  rw[←HN.out] at N;obtain⟨g,o,qb,qd,J⟩:=gX N G;have e1:oa=some ⟨g,o,none⟩:=by cases qd;rfl
  subst e1;have S:=O J;have HE:=O G;have qc:l.take (k+1)=l.take k++[⟨A,q⟩]:=by rw[List.take_add_one,G];rfl
  have qa:=O qc;clear G N qd J qc;have q0:=HO.out _ (List.mem_of_getElem? HE.out);have B:Hid (lC ⟨A,q⟩=false\/A∈(l.take k).map (·.dev)->bb=false):=O (fun h=>by rw[←W.out];exact PR HE.out h)
  by_cases M:A<0
  ·have j:bb=false:=B.out (.inl (by unfold lC;simp;omega))
   have d1:decide (A<0)=true:=decide_eq_true M;subst j
   go_wp2_with (first
    | ((with_reducible show WL _ (.load 59 (.tmp 10)));refine wpList_load_mid rfl 59 (.tmp 10) rfl g (o+k*2) rfl (aO ⟨A,q⟩) _ S.out bT rfl cC ?_)
    | ((with_reducible show WL (some 5) (.alloc 59));refine aY rfl 59 rfl eM eI #[.int .i64 0,.int .i64 0] rfl ?_)
    | ((with_reducible show WL none (.store 59 (.tmp 5) (.tmp 11)));refine aQ rfl 59 (.tmp 5) (.tmp 11) rfl wr.heap.size 0 (aO ⟨A,q⟩) rfl rfl #[.int .i64 0,.int .i64 0] 59 (heap_alloc_new _ _) (Nat.le_refl _) cC (bP _) ?_
       intro m a f;rw[aS _ _ (by rfl)] at a;have c:aA aB wr m:=((aA.refl aB wr).alloc _).tT f (fun i V e=>by omega);have r:=O c;have C:m.cell? ⟨wr.heap.size,0,none⟩=some (.int .i64 A):=aC a rfl;have D:m.cell? ⟨wr.heap.size,1,none⟩=some (.int .i64 q):=aC a rfl;have u:=O (c.blk R.out id)
       skip
       clear a f c))
   go_ret;exact⟨rfl,L.trans r.out⟩
  by_cases h2:8≤A
  ·have j:bb=false:=B.out (.inl (by unfold lC;simp;omega))
   have d2:decide (8≤A)=true:=decide_eq_true h2;subst j
   go_wp2_with (first
    | ((with_reducible show WL _ (.load 59 (.tmp 10)));refine wpList_load_mid rfl 59 (.tmp 10) rfl g (o+k*2) rfl (aO ⟨A,q⟩) _ S.out bT rfl cC ?_)
    | ((with_reducible show WL (some 5) (.alloc 59));refine aY rfl 59 rfl eM eI #[.int .i64 0,.int .i64 0] rfl ?_)
    | ((with_reducible show WL none (.store 59 (.tmp 5) (.tmp 11)));refine aQ rfl 59 (.tmp 5) (.tmp 11) rfl wr.heap.size 0 (aO ⟨A,q⟩) rfl rfl #[.int .i64 0,.int .i64 0] 59 (heap_alloc_new _ _) (Nat.le_refl _) cC (bP _) ?_
       intro m a f;rw[aS _ _ (by rfl)] at a;have c:aA aB wr m:=((aA.refl aB wr).alloc _).tT f (fun i V e=>by omega);have r:=O c;have C:m.cell? ⟨wr.heap.size,0,none⟩=some (.int .i64 A):=aC a rfl;have D:m.cell? ⟨wr.heap.size,1,none⟩=some (.int .i64 q):=aC a rfl;have u:=O (c.blk R.out id)
       skip
       clear a f c))
   go_ret;exact⟨rfl,L.trans r.out⟩
  obtain⟨d,rfl⟩:∃d:Nat,A=(d:Int):=⟨A.toNat,by omega⟩
  have E:d<8:=by omega
  have qw:(d:Int)<8:=by omega
  have qv:(0:Int)≤(d:Int):=by omega
  obtain⟨s,F⟩:=zX9 (decide ((d:Int)∈(l.take k).map (·.dev)))
  have Z:=O F;clear M h2;cases s
  ·have qh:(d:Int) ∉ (l.take k).map (·.dev):=of_decide_eq_false Z.out
   have qo:=O qh;clear qh
   by_cases h3:q<5
   ·have j:bb=false:=B.out (.inl (by unfold lC;simp;omega))
    have d3:decide (q<5)=true:=decide_eq_true h3;subst j
    go_wp2_with (first
     | ((with_reducible show WL _ (.load 59 (.tmp 10)));refine wpList_load_mid rfl 59 (.tmp 10) rfl g (o+k*2) rfl (aO ⟨(d:Int),q⟩) _ S.out bT rfl cC ?_)
     | ((with_reducible show WL (some 5) (.alloc 59));refine aY rfl 59 rfl eM eI #[.int .i64 0,.int .i64 0] rfl ?_)
     | ((with_reducible show WL none (.store 59 (.tmp 5) (.tmp 11)));refine aQ rfl 59 (.tmp 5) (.tmp 11) rfl wr.heap.size 0 (aO ⟨(d:Int),q⟩) rfl rfl #[.int .i64 0,.int .i64 0] 59 (heap_alloc_new _ _) (Nat.le_refl _) cC (bP _) ?_
        intro m a f;rw[aS _ _ (by rfl)] at a;have c:aA aB wr m:=((aA.refl aB wr).alloc _).tT f (fun i V e=>by omega);have r:=O c;have C:m.cell? ⟨wr.heap.size,0,none⟩=some (.int .i64 (d:Int)):=aC a rfl;have D:m.cell? ⟨wr.heap.size,1,none⟩=some (.int .i64 q):=aC a rfl;have u:=O (c.blk R.out id);have z:=aC u.out (uL (l:=l.take k) E);rw[F] at z;clear a f c))
    go_ret;exact⟨rfl,L.trans r.out⟩
   by_cases h4:4096≤q
   ·have j:bb=false:=B.out (.inl (by unfold lC;simp;omega))
    have d4:decide (4096≤q)=true:=decide_eq_true h4;subst j
    go_wp2_with (first
     | ((with_reducible show WL _ (.load 59 (.tmp 10)));refine wpList_load_mid rfl 59 (.tmp 10) rfl g (o+k*2) rfl (aO ⟨(d:Int),q⟩) _ S.out bT rfl cC ?_)
     | ((with_reducible show WL (some 5) (.alloc 59));refine aY rfl 59 rfl eM eI #[.int .i64 0,.int .i64 0] rfl ?_)
     | ((with_reducible show WL none (.store 59 (.tmp 5) (.tmp 11)));refine aQ rfl 59 (.tmp 5) (.tmp 11) rfl wr.heap.size 0 (aO ⟨(d:Int),q⟩) rfl rfl #[.int .i64 0,.int .i64 0] 59 (heap_alloc_new _ _) (Nat.le_refl _) cC (bP _) ?_
        intro m a f;rw[aS _ _ (by rfl)] at a;have c:aA aB wr m:=((aA.refl aB wr).alloc _).tT f (fun i V e=>by omega);have r:=O c;have C:m.cell? ⟨wr.heap.size,0,none⟩=some (.int .i64 (d:Int)):=aC a rfl;have D:m.cell? ⟨wr.heap.size,1,none⟩=some (.int .i64 q):=aC a rfl;have u:=O (c.blk R.out id);have z:=aC u.out (uL (l:=l.take k) E);rw[F] at z;clear a f c))
    go_ret;exact⟨rfl,L.trans r.out⟩
   go_wp2_with (first
    | ((with_reducible show WL _ (.load 59 (.tmp 10)));refine wpList_load_mid rfl 59 (.tmp 10) rfl g (o+k*2) rfl (aO ⟨(d:Int),q⟩) _ S.out bT rfl cC ?_)
    | ((with_reducible show WL (some 5) (.alloc 59));refine aY rfl 59 rfl eM eI #[.int .i64 0,.int .i64 0] rfl ?_)
    | ((with_reducible show WL none (.store 59 (.tmp 5) (.tmp 11)));refine aQ rfl 59 (.tmp 5) (.tmp 11) rfl wr.heap.size 0 (aO ⟨(d:Int),q⟩) rfl rfl #[.int .i64 0,.int .i64 0] 59 (heap_alloc_new _ _) (Nat.le_refl _) cC (bP _) ?_
       intro m a f;rw[aS _ _ (by rfl)] at a;have c:aA aB wr m:=((aA.refl aB wr).alloc _).tT f (fun i V e=>by omega);have r:=O c;have C:m.cell? ⟨wr.heap.size,0,none⟩=some (.int .i64 (d:Int)):=aC a rfl;have D:m.cell? ⟨wr.heap.size,1,none⟩=some (.int .i64 q):=aC a rfl;have u:=O (c.blk R.out id);have z:=aC u.out (uL (l:=l.take k) E);have qx:=dE u.out d;rw[F] at z;clear a f c))
   have qn:Hid (aA (fun i=>i=I) w1 (m.setCell ⟨I,d,none⟩ (.bool true))):=O ((Y.trans' r.out (U:=fun i=>i=I) (fun _ _ h=>h) (fun _ _ h=>h.elim)).setCell (p:=⟨I,d,none⟩) (fun _=>rfl) _);have qp:Hid ((m.setCell ⟨I,d,none⟩ (.bool true)).heap[I]?=some (.cells (rU (l.take (k+1))).toArray 271 (0,0))):=O (by rw[dQ u.out,MA (s:=q) E,←qa.out])
   have ql:Hid ((l.take (k+1)).all lC=true/\((l.take (k+1)).map (·.dev)).Nodup):=O (by
    rw[qa.out];refine⟨?_,?_⟩
    ·rw[List.all_append,HI.1]
     unfold lC;simp;omega
    ·rw[List.map_append,List.nodup_append]
     refine⟨HI.2,by simp,fun x hx y hy e=>?_⟩;subst e;have e2:x=(d:Int):=by simpa using hy
     rw[e2] at hx;exact qo.out hx)
   go_roundw
   case rel=>exact⟨k+1,by omega,by go_num,qp,ql,qn⟩
   case measure=>simp[intOf];omega
  ·have j:bb=false:=B.out (.inr (of_decide_eq_true Z.out))
   subst j
   go_wp2_with (first
    | ((with_reducible show WL _ (.load 59 (.tmp 10)));refine wpList_load_mid rfl 59 (.tmp 10) rfl g (o+k*2) rfl (aO ⟨(d:Int),q⟩) _ S.out bT rfl cC ?_)
    | ((with_reducible show WL (some 5) (.alloc 59));refine aY rfl 59 rfl eM eI #[.int .i64 0,.int .i64 0] rfl ?_)
    | ((with_reducible show WL none (.store 59 (.tmp 5) (.tmp 11)));refine aQ rfl 59 (.tmp 5) (.tmp 11) rfl wr.heap.size 0 (aO ⟨(d:Int),q⟩) rfl rfl #[.int .i64 0,.int .i64 0] 59 (heap_alloc_new _ _) (Nat.le_refl _) cC (bP _) ?_
       intro m a f;rw[aS _ _ (by rfl)] at a;have c:aA aB wr m:=((aA.refl aB wr).alloc _).tT f (fun i V e=>by omega);have r:=O c;have C:m.cell? ⟨wr.heap.size,0,none⟩=some (.int .i64 (d:Int)):=aC a rfl;have D:m.cell? ⟨wr.heap.size,1,none⟩=some (.int .i64 q):=aC a rfl;have u:=O (c.blk R.out id);have z:=aC u.out (uL (l:=l.take k) E);rw[F] at z;clear a f c))
   go_ret;exact⟨rfl,L.trans r.out⟩
 ·obtain rfl:n=k:=by omega
  have j:bb=(decide (1≤n) && decide (n≤3)):=by
   rw[←W.out,←HN.out];have M:=HI.out;rw[List.take_of_length_le (by rw[HN.out];exact Nat.le_refl _)] at M;exact OE M.1 M.2
  have X:=O j;obtain⟨t1,qi⟩:=zX9 (decide (1≤n))
  obtain⟨t2,qj⟩:=zX9 (decide (n≤3))
  have qy:decide ((1:Int)≤(n:Int))=t1:=by rw[←qi];exact decide_eq_decide.2 (by omega)
  have qz:decide ((n:Int)≤3)=t2:=by rw[←qj];exact decide_eq_decide.2 (by omega)
  rw[qi,qj] at X;clear j
  cases t1<;>cases t2<;>(
   go_wp2;go_ret;exact⟨by rw[X.out];rfl,L.out⟩)
def lH(w:World)(b:Bool)(e:Ending)(w':World):Prop:=e=.returned (.int .i64 (if b then 0 else 2))/\aA aB w w'
theorem kA{p:Pt}(h:p.hole=true):p.may=true:=by unfold Pt.may;rw[h];rfl
theorem iZ(w:World)(v:Value)(p:Pt)(h0:PtV w v p):Calls prog 99 #[.agg (aE v p).toArray] w (lH w p.may):=by
 obtain⟨m,i,hv,-,-⟩:=h0.rd.form;subst hv;obtain⟨n,M⟩:=zX9 p.addrs.length
 have HN:=O M;have q:=h0;rw[M] at q ⊢;obtain⟨w1,Q,z,r,N⟩:=aP w (aE (.slice m n i) p).toArray 30;obtain⟨h,b0,c0,R⟩:=bN (aD r);have L:=O R;have J:=O r;have j:(aE (.slice m n i) p).length=35:=aF q.sum;simp only[Nat.zero_add] at h b0 c0;have s:=O (bK w1 _ p (q.keep z fun _ _=>id));have u:=O (fun Z (k:aA aB w Z)=>J9 Z (.slice m n i) p.addrs h0.ads (q.rd.keep k fun _ _=>id));have f:=O z;obtain⟨t1,B⟩:∃t:Bool,p.hole=t:=⟨_,rfl⟩
 obtain⟨U,C⟩:∃t:Bool,sK p.addrs=t:=⟨_,rfl⟩
 obtain⟨V,D⟩:∃t:Bool,decide (1≤p.birth)=t:=⟨_,rfl⟩
 obtain⟨W,E⟩:∃t:Bool,decide (p.birth≤2147483648)=t:=⟨_,rfl⟩
 obtain⟨X,F⟩:∃t:Bool,decide (0≤p.level)=t:=⟨_,rfl⟩
 obtain⟨Y,G⟩:∃t:Bool,decide (p.level≤3)=t:=⟨_,rfl⟩
 have S:p.may=(t1 || (U && (V && W && X && Y))):=by unfold Pt.may Pt.numsB;rw[B,C,D,E,F,G]
 have y:=O S;rw[B] at s;rw[C] at u;have a:=O (aD J.out);obtain⟨H,A⟩:=zX9 (aE (.slice m n i) p)
 have g:=O A;rw[A] at Q s j a ⊢;clear S B C r R z N A h0 q J L M;cases t1
 ·skip
  cases U
  ·skip
   go_in
   go_wp2_with (first
    | ((with_reducible show WL _ (.load 30 (.tmp 1)));refine aK (by rfl) 30 (.tmp 1) rfl (w.heap.size) 0 rfl H _ a.out aI rfl (cN j) ?_))
   refine s.mono ?_;rintro e I ⟨rfl,c⟩;have a:=O (c.rangeAt a.out);have f:=O (f.trans c);obtain⟨h,b0,c0,-⟩:=bN (p:=p) (v:=(.slice m n i)) (by rw[g.out];exact a.out);simp only[Nat.zero_add] at h b0 c0;clear c;go_wp2_with fail;refine(u _ f.out).mono ?_;rintro e K ⟨rfl,c⟩;have a:=O (c.rangeAt a.out);have f:=O (f.trans c);obtain⟨h,b0,c0,-⟩:=bN (p:=p) (v:=(.slice m n i)) (by rw[g.out];exact a.out);simp only[Nat.zero_add] at h b0 c0;clear c;go_wp2;go_ret;exact⟨by rw[y.out];rfl,f.out⟩
  ·skip
   cases V
   ·have y3:decide (p.birth<1)=true:=decide_eq_true (by have:=of_decide_eq_false D;omega)
    go_in
    go_wp2_with (first
     | ((with_reducible show WL _ (.load 30 (.tmp 1)));refine aK (by rfl) 30 (.tmp 1) rfl (w.heap.size) 0 rfl H _ a.out aI rfl (cN j) ?_))
    refine s.mono ?_;rintro e I ⟨rfl,c⟩;have a:=O (c.rangeAt a.out);have f:=O (f.trans c);obtain⟨h,b0,c0,-⟩:=bN (p:=p) (v:=(.slice m n i)) (by rw[g.out];exact a.out);simp only[Nat.zero_add] at h b0 c0;clear c;go_wp2_with fail;refine(u _ f.out).mono ?_;rintro e K ⟨rfl,c⟩;have a:=O (c.rangeAt a.out);have f:=O (f.trans c);obtain⟨h,b0,c0,-⟩:=bN (p:=p) (v:=(.slice m n i)) (by rw[g.out];exact a.out);simp only[Nat.zero_add] at h b0 c0;clear c;go_wp2;go_ret;exact⟨by rw[y.out];rfl,f.out⟩
   ·have y3:decide (p.birth<1)=false:=decide_eq_false (by have:=of_decide_eq_true D;omega)
    cases W
    ·have y4:decide (2147483648<p.birth)=true:=decide_eq_true (by have:=of_decide_eq_false E;omega)
     go_in
     go_wp2_with (first
      | ((with_reducible show WL _ (.load 30 (.tmp 1)));refine aK (by rfl) 30 (.tmp 1) rfl (w.heap.size) 0 rfl H _ a.out aI rfl (cN j) ?_))
     refine s.mono ?_;rintro e I ⟨rfl,c⟩;have a:=O (c.rangeAt a.out);have f:=O (f.trans c);obtain⟨h,b0,c0,-⟩:=bN (p:=p) (v:=(.slice m n i)) (by rw[g.out];exact a.out);simp only[Nat.zero_add] at h b0 c0;clear c;go_wp2_with fail;refine(u _ f.out).mono ?_;rintro e K ⟨rfl,c⟩;have a:=O (c.rangeAt a.out);have f:=O (f.trans c);obtain⟨h,b0,c0,-⟩:=bN (p:=p) (v:=(.slice m n i)) (by rw[g.out];exact a.out);simp only[Nat.zero_add] at h b0 c0;clear c;go_wp2;go_ret;exact⟨by rw[y.out];rfl,f.out⟩
    ·have y4:decide (2147483648<p.birth)=false:=decide_eq_false (by have:=of_decide_eq_true E;omega)
     cases X
     ·have y5:decide (p.level<0)=true:=decide_eq_true (by have:=of_decide_eq_false F;omega)
      go_in
      go_wp2_with (first
       | ((with_reducible show WL _ (.load 30 (.tmp 1)));refine aK (by rfl) 30 (.tmp 1) rfl (w.heap.size) 0 rfl H _ a.out aI rfl (cN j) ?_))
      refine s.mono ?_;rintro e I ⟨rfl,c⟩;have a:=O (c.rangeAt a.out);have f:=O (f.trans c);obtain⟨h,b0,c0,-⟩:=bN (p:=p) (v:=(.slice m n i)) (by rw[g.out];exact a.out);simp only[Nat.zero_add] at h b0 c0;clear c;go_wp2_with fail;refine(u _ f.out).mono ?_;rintro e K ⟨rfl,c⟩;have a:=O (c.rangeAt a.out);have f:=O (f.trans c);obtain⟨h,b0,c0,-⟩:=bN (p:=p) (v:=(.slice m n i)) (by rw[g.out];exact a.out);simp only[Nat.zero_add] at h b0 c0;clear c;go_wp2;go_ret;exact⟨by rw[y.out];rfl,f.out⟩
     ·have y5:decide (p.level<0)=false:=decide_eq_false (by have:=of_decide_eq_true F;omega)
      cases Y
      ·have y6:decide (3<p.level)=true:=decide_eq_true (by have:=of_decide_eq_false G;omega)
       go_in
       go_wp2_with (first
        | ((with_reducible show WL _ (.load 30 (.tmp 1)));refine aK (by rfl) 30 (.tmp 1) rfl (w.heap.size) 0 rfl H _ a.out aI rfl (cN j) ?_))
       refine s.mono ?_;rintro e I ⟨rfl,c⟩;have a:=O (c.rangeAt a.out);have f:=O (f.trans c);obtain⟨h,b0,c0,-⟩:=bN (p:=p) (v:=(.slice m n i)) (by rw[g.out];exact a.out);simp only[Nat.zero_add] at h b0 c0;clear c;go_wp2_with fail;refine(u _ f.out).mono ?_;rintro e K ⟨rfl,c⟩;have a:=O (c.rangeAt a.out);have f:=O (f.trans c);obtain⟨h,b0,c0,-⟩:=bN (p:=p) (v:=(.slice m n i)) (by rw[g.out];exact a.out);simp only[Nat.zero_add] at h b0 c0;clear c;go_wp2;go_ret;exact⟨by rw[y.out];rfl,f.out⟩
      ·have y6:decide (3<p.level)=false:=decide_eq_false (by have:=of_decide_eq_true G;omega)
       go_in
       go_wp2_with (first
        | ((with_reducible show WL _ (.load 30 (.tmp 1)));refine aK (by rfl) 30 (.tmp 1) rfl (w.heap.size) 0 rfl H _ a.out aI rfl (cN j) ?_))
       refine s.mono ?_;rintro e I ⟨rfl,c⟩;have a:=O (c.rangeAt a.out);have f:=O (f.trans c);obtain⟨h,b0,c0,-⟩:=bN (p:=p) (v:=(.slice m n i)) (by rw[g.out];exact a.out);simp only[Nat.zero_add] at h b0 c0;clear c;go_wp2_with fail;refine(u _ f.out).mono ?_;rintro e K ⟨rfl,c⟩;have a:=O (c.rangeAt a.out);have f:=O (f.trans c);obtain⟨h,b0,c0,-⟩:=bN (p:=p) (v:=(.slice m n i)) (by rw[g.out];exact a.out);simp only[Nat.zero_add] at h b0 c0;clear c;go_wp2;go_ret;exact⟨by rw[y.out];rfl,f.out⟩
 ·skip
  go_in
  go_wp2_with (first
   | ((with_reducible show WL _ (.load 30 (.tmp 1)));refine aK (by rfl) 30 (.tmp 1) rfl (w.heap.size) 0 rfl H _ a.out aI rfl (cN j) ?_))
  refine s.mono ?_;rintro e I ⟨rfl,c⟩;have a:=O (c.rangeAt a.out);have f:=O (f.trans c);obtain⟨h,b0,c0,-⟩:=bN (p:=p) (v:=(.slice m n i)) (by rw[g.out];exact a.out);simp only[Nat.zero_add] at h b0 c0;clear c;go_wp2;go_ret;exact⟨by rw[y.out];rfl,f.out⟩
theorem uM(w:World)(v:Value)(u:Ub)(h0:UbV w v u):Calls prog 62 #[.agg (dS v u).toArray] w (lH w u.may):=by
 obtain⟨i,h,hv,-,-⟩:=h0.root.rd.form;subst hv;obtain⟨n,hn⟩:=zX9 u.root.addrs.length
 rw[hn] at h0 ⊢;obtain⟨w1,qb,V,B,qa⟩:=aP w (dS (.slice i n h) u).toArray 111;obtain⟨s,r0,b0,d0⟩:=gT h0.root.sum (aD B);obtain⟨y,z,A,-⟩:=bN r0;have Y:=O d0;have a:=O r0;have F:=O B;have j:(aE (.slice i n h) u.root).length=35:=aF h0.root.sum;have Z:(u.pool.map vb).length=32:=by rw[List.length_map];exact h0.pool
 simp only[Nat.zero_add] at s b0 y z A;have G:=O (fun W (k:aA aB w W)=>bK W (.slice i n h) u.root (h0.root.keep k fun _ _=>id));have U:=O (fun W (k:aA aB w W)=>iZ W (.slice i n h) u.root (h0.root.keep k fun _ _=>id));have g:=O V;have D:=@kA u.root;obtain⟨t1,I⟩:∃t:Bool,decide (1≤u.txg)=t:=⟨_,rfl⟩
 obtain⟨t2,J⟩:∃t:Bool,decide (u.txg≤2147483648)=t:=⟨_,rfl⟩
 obtain⟨t3,K⟩:∃t:Bool,decide (0≤u.len)=t:=⟨_,rfl⟩
 obtain⟨t4,L⟩:∃t:Bool,decide (u.len≤16384)=t:=⟨_,rfl⟩
 obtain⟨t5,M⟩:∃t:Bool,u.root.hole=t:=⟨_,rfl⟩
 obtain⟨t6,N⟩:∃t:Bool,u.root.may=t:=⟨_,rfl⟩
 obtain⟨t7,Q⟩:∃t:Bool,(u.root.level == 3)=t:=⟨_,rfl⟩
 obtain⟨t8,R⟩:∃t:Bool,decide (u.root.birth≤u.txg)=t:=⟨_,rfl⟩
 have hs:u.may=(t1 && t2 && t3 && t4 && (t5 || (t6 && t7 && t8))):=by unfold Ub.may;rw[I,J,K,L,M,N,Q,R]
 have C:=O hs;rw[M] at G D;rw[N] at U D;have qc:=O D;obtain⟨E,H⟩:=zX9 (aE (.slice i n h) u.root)
 have q:=O H;obtain⟨uc,S⟩:=zX9 (dS (.slice i n h) u)
 have r:=O S;rw[H] at G U j a;rw[S] at qb F ⊢;have m:=O h0.root.sum;have c:=O (aD F.out);clear hs M N B d0 r0 V qa H S h0 F Y D Z hn;cases t1
 ·have y1:decide (u.txg<1)=true:=decide_eq_true (by have:=of_decide_eq_false I;omega)
  go_in;go_wp2;go_ret;exact⟨by rw[C.out];rfl,g.out⟩
 ·have y1:decide (u.txg<1)=false:=decide_eq_false (by have:=of_decide_eq_true I;omega)
  cases t2
  ·have y2:decide (2147483648<u.txg)=true:=decide_eq_true (by have:=of_decide_eq_false J;omega)
   go_in;go_wp2;go_ret;exact⟨by rw[C.out];rfl,g.out⟩
  ·have y2:decide (2147483648<u.txg)=false:=decide_eq_false (by have:=of_decide_eq_true J;omega)
   cases t3
   ·have y3:decide (u.len<0)=true:=decide_eq_true (by have:=of_decide_eq_false K;omega)
    go_in;go_wp2;go_ret;exact⟨by rw[C.out];rfl,g.out⟩
   ·have y3:decide (u.len<0)=false:=decide_eq_false (by have:=of_decide_eq_true K;omega)
    cases t4
    ·have y4:decide (16384<u.len)=true:=decide_eq_true (by have:=of_decide_eq_false L;omega)
     go_in;go_wp2;go_ret;exact⟨by rw[C.out];rfl,g.out⟩
    ·have y4:decide (16384<u.len)=false:=decide_eq_false (by have:=of_decide_eq_true L;omega)
     cases t5
     ·skip
      cases t6
      ·skip
       go_in
       go_wp2_with (first
        | ((with_reducible show WL _ (.load 30 (.tmp 23)));refine aK (by rfl) 30 (.tmp 23) rfl (w.heap.size) 1 rfl E _ a.out aI rfl (cN j) ?_))
       refine(G _ g.out).mono ?_;rintro e X ⟨rfl,f⟩;have a:=O (f.rangeAt a.out);have c:=O (f.rangeAt c.out);have g:=O (g.trans f);obtain⟨s,-,b0,-⟩:=gT (u:=u) (v:=.slice i n h) m.out (by rw[r.out];exact c.out);obtain⟨y,z,A,-⟩:=bN (p:=u.root) (v:=.slice i n h) (by rw[q.out];exact a.out);simp only[Nat.zero_add] at s b0 y z A;clear f
       go_wp2_with (first
        | ((with_reducible show WL _ (.load 30 (.tmp 27)));refine aK (by rfl) 30 (.tmp 27) rfl (w.heap.size) 1 rfl E _ a.out aI rfl (cN j) ?_))
       refine(U _ g.out).mono ?_;rintro e w3 ⟨rfl,f⟩;have a:=O (f.rangeAt a.out);have c:=O (f.rangeAt c.out);have g:=O (g.trans f);obtain⟨s,-,b0,-⟩:=gT (u:=u) (v:=.slice i n h) m.out (by rw[r.out];exact c.out);obtain⟨y,z,A,-⟩:=bN (p:=u.root) (v:=.slice i n h) (by rw[q.out];exact a.out);simp only[Nat.zero_add] at s b0 y z A;clear f;go_wp2;go_ret;exact⟨by rw[C.out];rfl,g.out⟩
      ·skip
       cases t7
       ·have y7:(u.root.level != 3)=true:=by simp only[bne,Q];rfl
        go_in
        go_wp2_with (first
         | ((with_reducible show WL _ (.load 30 (.tmp 23)));refine aK (by rfl) 30 (.tmp 23) rfl (w.heap.size) 1 rfl E _ a.out aI rfl (cN j) ?_))
        refine(G _ g.out).mono ?_;rintro e X ⟨rfl,f⟩;have a:=O (f.rangeAt a.out);have c:=O (f.rangeAt c.out);have g:=O (g.trans f);obtain⟨s,-,b0,-⟩:=gT (u:=u) (v:=.slice i n h) m.out (by rw[r.out];exact c.out);obtain⟨y,z,A,-⟩:=bN (p:=u.root) (v:=.slice i n h) (by rw[q.out];exact a.out);simp only[Nat.zero_add] at s b0 y z A;clear f
        go_wp2_with (first
         | ((with_reducible show WL _ (.load 30 (.tmp 27)));refine aK (by rfl) 30 (.tmp 27) rfl (w.heap.size) 1 rfl E _ a.out aI rfl (cN j) ?_))
        refine(U _ g.out).mono ?_;rintro e w3 ⟨rfl,f⟩;have a:=O (f.rangeAt a.out);have c:=O (f.rangeAt c.out);have g:=O (g.trans f);obtain⟨s,-,b0,-⟩:=gT (u:=u) (v:=.slice i n h) m.out (by rw[r.out];exact c.out);obtain⟨y,z,A,-⟩:=bN (p:=u.root) (v:=.slice i n h) (by rw[q.out];exact a.out);simp only[Nat.zero_add] at s b0 y z A;clear f;go_wp2;go_ret;exact⟨by rw[C.out];rfl,g.out⟩
       ·have y7:(u.root.level != 3)=false:=by simp only[bne,Q];rfl
        cases t8
        ·have y8:decide (u.txg<u.root.birth)=true:=decide_eq_true (by have:=of_decide_eq_false R;omega)
         go_in
         go_wp2_with (first
          | ((with_reducible show WL _ (.load 30 (.tmp 23)));refine aK (by rfl) 30 (.tmp 23) rfl (w.heap.size) 1 rfl E _ a.out aI rfl (cN j) ?_))
         refine(G _ g.out).mono ?_;rintro e X ⟨rfl,f⟩;have a:=O (f.rangeAt a.out);have c:=O (f.rangeAt c.out);have g:=O (g.trans f);obtain⟨s,-,b0,-⟩:=gT (u:=u) (v:=.slice i n h) m.out (by rw[r.out];exact c.out);obtain⟨y,z,A,-⟩:=bN (p:=u.root) (v:=.slice i n h) (by rw[q.out];exact a.out);simp only[Nat.zero_add] at s b0 y z A;clear f
         go_wp2_with (first
          | ((with_reducible show WL _ (.load 30 (.tmp 27)));refine aK (by rfl) 30 (.tmp 27) rfl (w.heap.size) 1 rfl E _ a.out aI rfl (cN j) ?_))
         refine(U _ g.out).mono ?_;rintro e w3 ⟨rfl,f⟩;have a:=O (f.rangeAt a.out);have c:=O (f.rangeAt c.out);have g:=O (g.trans f);obtain⟨s,-,b0,-⟩:=gT (u:=u) (v:=.slice i n h) m.out (by rw[r.out];exact c.out);obtain⟨y,z,A,-⟩:=bN (p:=u.root) (v:=.slice i n h) (by rw[q.out];exact a.out);simp only[Nat.zero_add] at s b0 y z A;clear f;go_wp2;go_ret;exact⟨by rw[C.out];rfl,g.out⟩
        ·have y8:decide (u.txg<u.root.birth)=false:=decide_eq_false (by have:=of_decide_eq_true R;omega)
         go_in
         go_wp2_with (first
          | ((with_reducible show WL _ (.load 30 (.tmp 23)));refine aK (by rfl) 30 (.tmp 23) rfl (w.heap.size) 1 rfl E _ a.out aI rfl (cN j) ?_))
         refine(G _ g.out).mono ?_;rintro e X ⟨rfl,f⟩;have a:=O (f.rangeAt a.out);have c:=O (f.rangeAt c.out);have g:=O (g.trans f);obtain⟨s,-,b0,-⟩:=gT (u:=u) (v:=.slice i n h) m.out (by rw[r.out];exact c.out);obtain⟨y,z,A,-⟩:=bN (p:=u.root) (v:=.slice i n h) (by rw[q.out];exact a.out);simp only[Nat.zero_add] at s b0 y z A;clear f
         go_wp2_with (first
          | ((with_reducible show WL _ (.load 30 (.tmp 27)));refine aK (by rfl) 30 (.tmp 27) rfl (w.heap.size) 1 rfl E _ a.out aI rfl (cN j) ?_))
         refine(U _ g.out).mono ?_;rintro e w3 ⟨rfl,f⟩;have a:=O (f.rangeAt a.out);have c:=O (f.rangeAt c.out);have g:=O (g.trans f);obtain⟨s,-,b0,-⟩:=gT (u:=u) (v:=.slice i n h) m.out (by rw[r.out];exact c.out);obtain⟨y,z,A,-⟩:=bN (p:=u.root) (v:=.slice i n h) (by rw[q.out];exact a.out);simp only[Nat.zero_add] at s b0 y z A;clear f;go_wp2;go_ret;exact⟨by rw[C.out];rfl,g.out⟩
     ·skip
      go_in
      go_wp2_with (first
       | ((with_reducible show WL _ (.load 30 (.tmp 23)));refine aK (by rfl) 30 (.tmp 23) rfl (w.heap.size) 1 rfl E _ a.out aI rfl (cN j) ?_))
      refine(G _ g.out).mono ?_;rintro e X ⟨rfl,f⟩;have a:=O (f.rangeAt a.out);have c:=O (f.rangeAt c.out);have g:=O (g.trans f);obtain⟨s,-,b0,-⟩:=gT (u:=u) (v:=.slice i n h) m.out (by rw[r.out];exact c.out);obtain⟨y,z,A,-⟩:=bN (p:=u.root) (v:=.slice i n h) (by rw[q.out];exact a.out);simp only[Nat.zero_add] at s b0 y z A;clear f;go_wp2;go_ret;exact⟨by rw[C.out];rfl,g.out⟩
open Go.RowKit Go.Maps Go.ChangeMaps
set_option maxRecDepth 100000
set_option linter.unusedVariables false
def Pt.eqB(p q:Pt):Bool:=decide (p.addrs=q.addrs) && (p.birth == q.birth) && (p.level == q.level) && decide (p.sum=q.sum)
theorem BA(p q:Pt):(p.like q && decide (p.addrs=q.addrs))=p.eqB q:=by
 unfold Pt.like Pt.eqB
 by_cases h:p.addrs=q.addrs
 ·rw[h]
  simp only[BEq.rfl,Bool.and_true,decide_true,Bool.true_and]
 ·simp[h]
theorem Ga(w:World)(va U:Value)(j ys:List Ad)(r:Rd w 2 va j.length (aR j))(t:Rd w 2 U ys.length (aR ys))(bb:Bool)(he:decide (j=ys)=bb) :
 Calls prog 79 #[va,U] w fun e w'=>e=.returned (.bool bb)/\aA aB w w':=by
 obtain⟨oa,ca,rfl,qj,ql⟩:=r.form;obtain⟨ob,cb,rfl,qk,qm⟩:=t.form;have M:j.length≤maxLen:=by omega
 unfold maxLen at M;have Z:=O he;have G:=O r;have H:=O t;obtain⟨n,Y⟩:=zX9 j.length
 obtain⟨m,X⟩:=zX9 ys.length
 have W:=O Y;have V:=O X;rw[Y] at G M;rw[X] at H;rw[Y,X];clear r t he qj ql qk qm Y X
 by_cases N:n=m
 ·subst N
  go_in;go_wp2_with fail
  go_loopw [13] (fun i wr=>∃k:Nat,k≤n/\i=.int .i64 k/\Hid (j.take k=ys.take k)/\Hid (aA aB w wr)) (fun i _=>n-(intOf i).toNat)
  case atStart=>exact⟨0,Nat.zero_le _,rfl,O rfl,O (aA.refl _ _)⟩
  case round =>
  obtain⟨k,hk,rfl,HT,HK⟩:=hrel
  by_cases L:k<n
  ·obtain⟨x,r⟩:∃x,j[k]?=some x:=⟨j[k]'(by rw[W.out];exact L),List.getElem?_eq_getElem _⟩
   obtain⟨y,t⟩:∃y,ys[k]?=some y:=⟨ys[k]'(by rw[V.out];exact L),List.getElem?_eq_getElem _⟩
   obtain⟨S,c⟩:∃S:World->Prop,S=fun w'=>aA aB w w':=⟨_,rfl⟩
   have p:=G.out;have q:=H.out;rw[←W.out] at p;rw[←V.out] at q;obtain⟨g,o,qo,hv,-⟩:=gX p r;obtain⟨J,R,qn,Q,-⟩:=gX q t;have e1:oa=some ⟨g,o,none⟩:=by cases hv;rfl
   have e2:ob=some ⟨J,R,none⟩:=by cases Q;rfl
   subst e1 e2;obtain⟨z,s⟩:=zX9 (aO x)
   obtain⟨A,u⟩:=zX9 (aO y)
   have qc:=O (show ∀w',S w'->w'.rangeAt g (o+k*2) z from fun w' h=>by
    rw[c] at h;obtain⟨g',o',c',D,C⟩:=gX (p.keep h fun _ _=>id) r;cases D
    rw[←s];exact C)
   have qd:=O (show ∀w',S w'->w'.rangeAt J (R+k*2) A from fun w' h=>by
    rw[c] at h;obtain⟨g',o',c',D,C⟩:=gX (q.keep h fun _ _=>id) t;cases D
    rw[←u];exact C)
   have HX:Hid ((prog.info? 59).map (·.size)=some z.length):=O (by rw[←s];exact cC);have HY:Hid ((prog.info? 59).map (·.size)=some A.length):=O (by rw[←u];exact cC);obtain⟨I,B⟩:=zX9 ((!decide (x=y)))
   have qa:Hid (∀w',Sem.run prog (binOp .neq 59 (.agg z.toArray) (.agg A.toArray)) w'=.ok (.bool I) w'):=O (fun w'=>by rw[←s,←u,←B];exact NW x y w');have E:=O B;have qb:=O (show ∀w',S w'->aA aB w w' from fun w' h=>by rw[c] at h;exact h);have a:S wr.drew:=by rw[c];exact HK.drew
   have qf:Hid (j.take (k+1)=j.take k++[x]):=O (by rw[List.take_add_one,r];rfl);have qg:Hid (ys.take (k+1)=ys.take k++[y]):=O (by rw[List.take_add_one,t];rfl);have qh:=O r;have qi:=O t;have qq:(k:Int)<(n:Int):=by omega
   have qp:(0:Int)≤(k:Int):=by omega
   clear r t c p q hv Q s u B HK;go_wp2_with fail;refine wp_region_held (S:=S) (by kernel_rfl) ?_;change wpAnyH _ _ _ _ _ _ _ _ wr.drew;generalize wr.drew=w6 at *;refine tka 0 (.slice (some ⟨g,o,none⟩) n ca) rfl a ?_;simp only[Act.put,List.setIfInBounds_toArray,List.set_cons_zero,List.set_cons_succ,List.getElem_toArray,List.getElem_cons_zero];refine tna 1 (.int .i64 k) rfl a ?_;refine tkd 2 (.pointer (some ⟨g,o+k*2,none⟩)) rfl (.inl ⟨by rfl,fun _ _=>?_⟩) a ?_
   ·go_simp
   refine nrm ?_;refine tnd 3 (.agg z.toArray) rfl (yieldsIf_load_mid (by rfl) 59 (.tmp 18) rfl g (o+k*2) rfl z _ qc.out bT rfl HX.out) a ?_;refine tna 4 (.slice (some ⟨J,R,none⟩) n cb) rfl a ?_;refine tna 5 (.int .i64 k) rfl a ?_;refine tkd 6 (.pointer (some ⟨J,R+k*2,none⟩)) rfl (.inl ⟨by rfl,fun _ _=>?_⟩) a ?_
   ·go_simp
   refine nrm ?_;refine tnd 7 (.agg A.toArray) rfl (yieldsIf_load_mid (by rfl) 59 (.tmp 22) rfl J (R+k*2) rfl A _ qd.out bT rfl HY.out) a ?_;refine tnd 8 (.bool I) rfl (lP (by rfl) 59 (.tmp 19) (.tmp 23) 59 rfl z.toArray A.toArray rfl rfl GH qa.out) a ?_;refine wpAnyH_done (by kernel_rfl) ?_ _;have F:=O (qb _ a);clear a;cases I
   ·have f:x=y:=by have:=E.out;simpa using this
    have qe:Hid (j.take (k+1)=ys.take (k+1)):=O (by rw[qf.out,qg.out,HT.out,f]);clear f;go_wp2
    go_roundw
    case rel=>exact⟨k+1,by omega,by go_num,qe,F⟩
    case measure=>simp[intOf];omega
   ·have f:x≠y:=by have:=E.out;simpa using this
    have K:bb=false:=by
     rw[←Z.out];refine decide_eq_false fun e=>f ?_
     have h1:=qh.out;rw[e,qi.out] at h1;exact(Option.some.inj h1).symm
    subst K;clear f;go_wp2;go_ret;exact⟨rfl,F.out⟩
  ·obtain rfl:k=n:=by omega
   have K:bb=true:=by
    rw[←Z.out];have:=HT.out;rw[List.take_of_length_le (by rw[W.out];exact Nat.le_refl _),List.take_of_length_le (by rw[V.out];exact Nat.le_refl _)] at this;exact decide_eq_true this
   subst K;go_wp2;go_ret;exact⟨rfl,HK.out⟩
 ·have K:bb=false:=by
   rw[←Z.out];refine decide_eq_false fun e=>N ?_
   rw[←W.out,←V.out,e]
  subst K;have qr:¬(n:Int)=(m:Int):=by omega
  go_in;go_wp2;go_ret;exact⟨rfl,aA.refl _ _⟩
theorem uO(w:World)(v u:Value)(p q:Pt)(h0:PtV w v p)(J:PtV w u q):Calls prog 37 #[.agg (aE v p).toArray,.agg (aE u q).toArray] w (aN w (p.eqB q)):=by
 obtain⟨K,H,Z,-,-⟩:=h0.rd.form;subst Z;obtain⟨L,I,Z,-,-⟩:=J.rd.form;subst Z;obtain⟨n,Y⟩:=zX9 p.addrs.length
 obtain⟨m,X⟩:=zX9 q.addrs.length
 have HN:=O Y;have HM:=O X;rw[Y] at h0 ⊢;rw[X] at J ⊢;obtain⟨M,i⟩:=zX9 ((w.alloc (.cells (aE (.slice K n H) p).toArray 30)).alloc (.cells (aE (.slice L m I) q).toArray 30))
 have g:M.heap[w.heap.size]?=some (.cells (aE (.slice K n H) p).toArray 30 (0,0)):=by rw[←i];exact heap_alloc2_old _ _ _
 have h:M.heap[w.heap.size+1]?=some (.cells (aE (.slice L m I) q).toArray 30 (0,0)):=by rw[←i];exact heap_alloc2_new _ _ _
 have r:aA aB w M:=by rw[←i];exact((aA.refl _ _).alloc _).alloc _
 obtain⟨V,b0,c0,s⟩:=bN (aD g);have z:=O s;have N:=O g;have B:(aE (.slice K n H) p).length=35:=aF h0.sum;simp only[Nat.zero_add] at V b0 c0;obtain⟨W,b1,c1,y⟩:=bN (aD h);have A:=O y;have Q:=O h;have C:(aE (.slice L m I) q).length=35:=aF J.sum;simp only[Nat.zero_add] at W b1 c1;have j:=O r;have a:=O (aD N.out);have c:=O (aD Q.out);have R:=O (Mz M _ _ p q (h0.keep r fun _ _=>id) (J.keep r fun _ _=>id));have HE:=O (fun wx (k:aA aB w wx)=>Ga wx _ _ p.addrs q.addrs (h0.rd.keep k fun _ _=>id) (J.rd.keep k fun _ _=>id) _ rfl);obtain⟨pc,D⟩:=zX9 (aE (.slice K n H) p)
 have S:=O D;obtain⟨qc,E⟩:=zX9 (aE (.slice L m I) q)
 have U:=O E;obtain⟨t1,F⟩:∃t:Bool,p.like q=t:=⟨_,rfl⟩
 obtain⟨t2,G⟩:∃t:Bool,decide (p.addrs=q.addrs)=t:=⟨_,rfl⟩
 have HS:=O (show p.eqB q=(t1 && t2) by rw[←BA,F,G]);rw[F] at R;rw[G] at HE;rw[D] at i R B a ⊢;rw[E] at i R C c ⊢;clear F G g h s y r D E h0 J N Q z A Y X;cases t1
 ·go_in
  go_wp2_with (first
   | ((with_reducible show WL _ (.load 30 (.tmp 2)));refine aK (by rfl) 30 (.tmp 2) rfl (w.heap.size) 0 rfl pc _ a.out aI rfl (cN B) ?_)
   | ((with_reducible show WL _ (.load 30 (.tmp 3)));refine aK (by rfl) 30 (.tmp 3) rfl (w.heap.size+1) 0 rfl qc _ c.out aI rfl (cN C) ?_))
  refine R.mono ?_;rintro e w2 ⟨rfl,f⟩;have a:=O (f.rangeAt a.out);have c:=O (f.rangeAt c.out);have j:=O (j.trans f);obtain⟨V,b0,c0,s⟩:=bN (p:=p) (v:=.slice K n H) (by rw[S.out];exact a.out);obtain⟨W,b1,c1,y⟩:=bN (p:=q) (v:=.slice L m I) (by rw[U.out];exact c.out);simp only[Nat.zero_add] at V b0 c0 W b1 c1;have z:=O s;have A:=O y;clear f s y;go_wp2;go_ret;exact⟨by rw[HS.out];rfl,j.out⟩
 ·go_in
  go_wp2_with (first
   | ((with_reducible show WL _ (.load 30 (.tmp 2)));refine aK (by rfl) 30 (.tmp 2) rfl (w.heap.size) 0 rfl pc _ a.out aI rfl (cN B) ?_)
   | ((with_reducible show WL _ (.load 30 (.tmp 3)));refine aK (by rfl) 30 (.tmp 3) rfl (w.heap.size+1) 0 rfl qc _ c.out aI rfl (cN C) ?_))
  refine R.mono ?_;rintro e w2 ⟨rfl,f⟩;have a:=O (f.rangeAt a.out);have c:=O (f.rangeAt c.out);have j:=O (j.trans f);obtain⟨V,b0,c0,s⟩:=bN (p:=p) (v:=.slice K n H) (by rw[S.out];exact a.out);obtain⟨W,b1,c1,y⟩:=bN (p:=q) (v:=.slice L m I) (by rw[U.out];exact c.out);simp only[Nat.zero_add] at V b0 c0 W b1 c1;have z:=O s;have A:=O y;clear f s y;go_wp2_with fail;refine(HE _ j.out).mono ?_;rintro e w3 ⟨rfl,f⟩;have j:=O (j.trans f);clear f
  cases t2<;>(
   go_wp2;go_ret;exact⟨by rw[HS.out];rfl,j.out⟩)
theorem Kb(w:World)(v u:Value)(p q:Pt)(h0:PtV w v p)(s:PtV w u q):Calls prog 35 #[.agg (aE v p).toArray,.agg (aE u q).toArray] w (aN w (p.eqB q)):=by
 obtain⟨N,E,hv,-,-⟩:=h0.rd.form;subst hv;obtain⟨Q,F,hv,-,-⟩:=s.rd.form;subst hv;obtain⟨n,hn⟩:=zX9 p.addrs.length
 obtain⟨m,hm⟩:=zX9 q.addrs.length
 have HN:=O hn;have HM:=O hm;rw[hn] at h0 ⊢;rw[hm] at s ⊢;obtain⟨R,g⟩:=zX9 ((w.alloc (.cells (aE (.slice N n E) p).toArray 30)).alloc (.cells (aE (.slice Q m F) q).toArray 30))
 have c:R.heap[w.heap.size]?=some (.cells (aE (.slice N n E) p).toArray 30 (0,0)):=by rw[←g];exact heap_alloc2_old _ _ _
 have f:R.heap[w.heap.size+1]?=some (.cells (aE (.slice Q m F) q).toArray 30 (0,0)):=by rw[←g];exact heap_alloc2_new _ _ _
 have I:aA aB w R:=by rw[←g];exact((aA.refl _ _).alloc _).alloc _
 obtain⟨U,b0,c0,G⟩:=bN (aD c);have j:=O G;have C:=O c;have qa:(aE (.slice N n E) p).length=35:=aF h0.sum;simp only[Nat.zero_add] at U b0 c0;obtain⟨V,b1,c1,H⟩:=bN (aD f);have r:=O H;have D:=O f;have qb:(aE (.slice Q m F) q).length=35:=aF s.sum;simp only[Nat.zero_add] at V b1 c1;have S:=O I;have h:=O (aD C.out);have i:=O (aD D.out);have HE:=O (fun wx (k:aA aB w wx)=>Im wx _ _ p.addrs q.addrs (h0.rd.keep k fun _ _=>id) (s.rd.keep k fun _ _=>id) _ rfl);obtain⟨pc,y⟩:=zX9 (aE (.slice N n E) p)
 have Y:=O y;obtain⟨qc,z⟩:=zX9 (aE (.slice Q m F) q)
 have Z:=O z;have a:=Es p.sum q.sum h0.sum s.sum;have K:(p.sum.map vb).length=32:=by rw[List.length_map];exact h0.sum
 have J:(q.sum.map vb).length=32:=by rw[List.length_map];exact s.sum
 obtain⟨t1,A⟩:∃t:Bool,decide (p.addrs=q.addrs)=t:=⟨_,rfl⟩
 obtain⟨t2,qd⟩:∃t:Bool,(p.birth == q.birth)=t:=⟨_,rfl⟩
 obtain⟨t3,qe⟩:∃t:Bool,(p.level == q.level)=t:=⟨_,rfl⟩
 obtain⟨t4,B⟩:∃t:Bool,decide (p.sum=q.sum)=t:=⟨_,rfl⟩
 have HS:=O (show p.eqB q=(t1 && t2 && t3 && t4) by unfold Pt.eqB;rw[A,qd,qe,B]);rw[A] at HE;rw[B] at a;rw[y] at g qa h ⊢;rw[z] at g qb i ⊢;have X:=O a;clear A B c f G H I y z h0 s C D hn hm a;go_in;go_wp2_with fail;refine(HE _ S.out).mono ?_;rintro e w2 ⟨rfl,W⟩;have h:=O (W.rangeAt h.out);have i:=O (W.rangeAt i.out);have S:=O (S.trans W);obtain⟨U,b0,c0,G⟩:=bN (p:=p) (v:=.slice N n E) (by rw[Y.out];exact h.out);obtain⟨V,b1,c1,H⟩:=bN (p:=q) (v:=.slice Q m F) (by rw[Z.out];exact i.out);simp only[Nat.zero_add] at U b0 c0 V b1 c1;have j:=O G;have r:=O H;clear W G H;clear U V;obtain⟨ss,L⟩:=zX9 (p.sum.map vb)
 obtain⟨zz,M⟩:=zX9 (q.sum.map vb)
 have a:=X.out;rw[L] at j K a;rw[M] at r J a;clear L M
 cases t1<;>cases t2<;>cases t3<;>cases t4<;>(
  go_wp2_with (first
   | ((with_reducible show WL _ (.load 28 (.tmp 25)));refine aK (by rfl) 28 (.tmp 25) rfl (w.heap.size) 3 rfl ss _ j.out underlying28 rfl (tI K) ?_)
   | ((with_reducible show WL _ (.load 28 (.tmp 27)));refine aK (by rfl) 28 (.tmp 27) rfl (w.heap.size+1) 3 rfl zz _ r.out underlying28 rfl (tI J) ?_))
  go_ret;exact⟨by rw[HS.out];rfl,S.out⟩)
theorem OF(n k r:Nat)(h:r<k):(be n k).take (r+1)=(be n k).take r++[iY n k r]:=by
 unfold be;rw[List.take_add_one,List.getElem?_map,List.getElem?_range h];rfl
def OG(w:World)(base:Nat)(v:Value)(l:List UInt8)(e:Ending)(w':World):Prop:=
 ∃a,e=.returned a/\w'.ownsRow base 5 1 a l.length (l.map vb)/\(a.ownBlock=v.ownBlock\/∀i,a.ownBlock=some i->w.heap.size≤i)/\aA (fun i=>v.ownBlock=some i) w w'
theorem lR(w:World)(base:Nat)(v:Value)(l:List UInt8)(n k:Nat)(ho:w.ownsRow base 5 1 v l.length (l.map vb))(hb:base≤w.heap.size)(h1:1≤k)(hk:k≤4)(hl:l.length≤1000)(hn:n≤9223372036854775807) :
 Calls prog 188 #[v,.int .i64 (n:Int),.int .i64 (k:Int)] w (OG w base v (l++be n k)):=by
 have V:=O ho;obtain⟨A,z,rfl,-,-⟩:=(Rd.of_owns ho).form;obtain⟨q,hq⟩:=zX9 l.length
 have HQ:=O hq;rw[hq] at V hl ⊢;clear ho hq;go_in;go_wp2_with fail
 go_loopw [0,7] (fun t i wr=>∃(r:Nat) (a:Int) (B:Option Addr) (C:Nat),r≤k/\a=(k:Int)-1-(r:Int)/\t=.slice B (q+r) C/\i=.int .i64 a/\Hid (wr.ownsRow base 5 1 (.slice B (q+r) C) (q+r) ((l++(be n k).take r).map vb))/\Hid ((Value.slice B (q+r) C).ownBlock=(Value.slice A q z).ownBlock\/∀i,(Value.slice B (q+r) C).ownBlock=some i->w.heap.size≤i)/\Hid (aA (fun i=>(Value.slice A q z).ownBlock=some i) w wr)) (fun _ i _=>(intOf i+1).toNat)
 case atStart=>exact⟨0,(k:Int)-1,A,z,Nat.zero_le _,by omega,rfl,by go_num,O (by rw[List.take_zero,List.append_nil];exact V.out),O (.inl rfl),O (aA.refl _ _)⟩
 case round =>
 clear V;obtain⟨r,a,B,C,hr,p,rfl,rfl,Y,M,J⟩:=hrel
 by_cases qc:r<k
 ·have m:(0:Int)≤a:=by omega
  have qb:a≤3:=by omega
  obtain⟨j,hj⟩:∃j:Nat,a=(j:Int):=⟨a.toNat,by omega⟩
  have E:j=k-r-1:=by omega
  have qi:j≤3:=by omega
  have s:=uI n k r;rw[←E] at s;have HV:Hid (Value.int .u8 ((n:Int) / 2 ^ (8*j) % 256)=vb (iY n k r)):=O (by unfold vb;rw[s]);have hd:0≤a:=m;obtain⟨w8,I,x,f,qe⟩:=aP wr #[.int .u8 ((n:Int) / 2 ^ (8*j) % 256)] 5;obtain⟨bz,g⟩:=zX9 wr.heap.size
  rw[g] at f;have Z:Hid (Rd w8 1 (.slice bz 1 1) 1 [vb (iY n k r)]):=O (by rw[←HV.out];exact dX (n:=1) (size:=1) (vs:=[.int .u8 ((n:Int) / 2 ^ (8*j) % 256)]) f rfl (by unfold maxLen;omega));have X:=O (x.owns Y.out fun _ _=>id);have c:=O (J.trans' x (U:=fun i=>(Value.slice A q z).ownBlock=some i) (fun _ _ h=>h) (fun _ _ h=>h.elim));have H:base≤w8.heap.size:=Nat.le_trans hb c.size;have Q:=O g;have qf:=O J.size;have G:∀u∈[vb (iY n k r)],u.oneCell'=true:=by intro u hu;rw[List.mem_singleton.1 hu];rfl
  have qa:=O I;subst hj;have R:=O p;have qh:(j:Int)≤3:=qb;clear p x f qe g I s E Y J
  go_wp2_with (first
   | (at_builtin;try rw[qa.out]
      try rw[Q.out]
      refine aM rfl (.tmp 14) (.tmp 20) 265 rfl base 5 _ 1 1 underlying265 gJ rfl (by omega) (.slice B (q+r) C) (q+r) ((l++(be n k).take r).map vb) rfl X.out (.slice bz 1 1) 1 [vb (iY n k r)] rfl Z.out G (by unfold maxLen;omega) (by omega) H ?_;intro v' w9 y F qd D;obtain⟨K,L,rfl,-,-⟩:=(Rd.of_owns y).form;have W:Hid (w9.ownsRow base 5 1 (.slice K (q+(r+1)) L) (q+(r+1)) ((l++(be n k).take (r+1)).map vb)):=O (by rw[OF n k r qc,←List.append_assoc,List.map_append,List.map_singleton];exact y)
      have N:Hid ((Value.slice K (q+r+1) L).ownBlock=(Value.slice A q z).ownBlock\/∀i,(Value.slice K (q+r+1) L).ownBlock=some i->w.heap.size≤i):=O (by
       rcases D with h|h
       ·rw[h]
        exact M.out
       ·refine .inr fun i hi=>?_
        rw[h] at hi;cases hi
        exact c.size)
      have S:=O (c.trans' F (U:=fun i=>(Value.slice A q z).ownBlock=some i) (fun _ _ h=>h) (fun i hi e=>by
       rcases M.out with h|h
       ·rw[←h];exact e
       ·have:=h i e;omega))
      clear y F qd D))
  go_roundw
  case rel=>exact⟨r+1,(j:Int)-1,K,L,by omega,by have:=R.out;omega,rfl,by go_num,W,N,S⟩
  case measure=>simp[intOf]
 ·obtain rfl:k=r:=by omega
  have m:¬(0:Int)≤a:=by omega
  have hd:decide ((0:Int)≤a)=false:=decide_eq_false m;have qg:a<0:=by omega
  clear p;go_wp2;go_ret;refine⟨_,rfl,?_,M.out,J.out⟩;have h:=Y.out;rw[List.take_of_length_le (by rw[bJ];exact Nat.le_refl _)] at h;rw[List.length_append,bJ,HQ.out];exact h
theorem Et{t u e:TypeId}{a:TypeDesc}(c:P.underlying t=some (.slice e))(h:P.underlying u=some a)(g:(a matches .int _)=false)(f:TypeId)(args:Array Value)(w:World) :
 (Builtin.append_ #[t,u] f args).run P w=(Builtin.append_ #[t,t] f args).run P w:=by
 unfold Builtin.append_;rcases h0:args[0]? with _|s
 ·simp
 rcases i:args[1]? with _|x
 ·simp
 simp only[List.getElem?_toArray,List.getElem?_cons_zero,List.getElem?_cons_succ];simp only[Sem.run_bind,run_underlying c,Result.andThen_ok];cases s<;>try rfl
 simp only[Sem.run_bind,run_underlying c,run_underlying h,Result.andThen_ok,Sem.run_pure];cases a<;>first|rfl|(simp at g)|skip
theorem yT{B:Array Oper}{rest:List Oper}{o:Oper}{a:Act}{Q:Exit->Act->World->Prop}(F:o.guard=none)(s x:Operand)(t u:TypeId)
 (ho:o.op=.call { callee:=.builtin .append,args:=#[s,x],argTypes:=#[t,u] }) (N:TypeDesc) (hu:P.underlying u=some N) (E:(N matches .int _)=false)
 (base:Nat) (e:TypeId) (z:Value) (size bytes:Nat) (S:P.underlying t=some (.slice e)) (y:(P.info? e).map (fun i=>(i.zero,i.size,i.bytes))=some (some z,size,bytes)) (L:z.cells.size=size) (G:0<size)
 (v:Value) (n:Nat) (M:List Value) (hs:a.eval s=v) (A:w.ownsRow base e size v n M)
 (C:Addr) (m c:Nat) (f:List Value) (hx:a.eval x=.slice (some C) m c) (hl:f.length=m*size) (p:∀j u,f[j]?=some u->w.cell? (C.add j)=some u) (U:∀u∈f,u.oneCell'=true)
 (D:n+m≤maxLen) (g:(n+m)*bytes≤140737488355328) (q:base≤w.heap.size)
 (h:∀r w',w'.ownsRow base e size r (n+m) (M++f)->aA (fun k=>v.ownBlock=some k) w w'->(r.ownBlock=v.ownBlock\/r.ownBlock=some w.heap.size)->wpList P B Q rest (a.put o.dst r) w'):wpList P B Q (o::rest) a w:=by
 obtain⟨i,Z,H,I,J⟩:=info_parts y;refine wpList_plain F fun K Y=>?_
 obtain⟨r,w',R,V,W,h4,X⟩:=run_append_own_at (P:=P) w base t o.type e i z size bytes S Z H I J L G v n M A C m c f hl p U D g q;rw[←Et S hu E] at R;unfold Oper.wp execOp;simp only[ho,resolve,invoke,builtin,Sem.run_bind,Sem.run_pure,Result.andThen_ok,List.map_toArray,List.map_cons,List.map_nil,hs,hx,R];exact Y _ _ (h r w' V (aA.of_grown W) X)
open Go.RowKit Go.Maps Go.ChangeMaps
set_option maxRecDepth 100000
set_option linter.unusedVariables false
def zAd:Ad:=⟨0,0⟩
def PS(a:Ad):List UInt8:=be a.dev.toNat 1++be a.sec.toNat 2
def bW(p:Pt)(k:Nat):List UInt8:=be p.addrs.length 1++(List.range k).flatMap fun i=>PS (p.addrs.getD i zAd)
def cJ(p:Pt):List UInt8:=bW p 3++be p.birth.toNat 4++be p.level.toNat 1++p.sum
def ptB(p:Pt):List UInt8:=if p.may then cJ p else []
theorem sL(p:Pt)(k:Nat):bW p (k+1)=bW p k++be (p.addrs.getD k zAd).dev.toNat 1++be (p.addrs.getD k zAd).sec.toNat 2:=by
 unfold bW;rw[List.range_succ,List.flatMap_append,List.append_assoc,List.append_assoc];simp[PS]
theorem fD(p:Pt)(k:Nat):(bW p k).length=1+3*k:=by
 induction k with
 | zero=>simp[bW,bJ]
 | succ k a=>rw[sL,List.length_append,List.length_append,a,bJ,bJ];omega
theorem fB{p:Pt}(h:p.sum.length=32):(cJ p).length=47:=by
 unfold cJ;simp only[List.length_append,fD,bJ,h]
theorem iF{p:Pt}(h:p.may=true):p.addrs.length≤3/\(∀a∈p.addrs,lC a=true)/\0≤p.birth/\p.birth≤2147483648/\0≤p.level/\p.level≤3:=by
 unfold Pt.may at h;rw[Bool.or_eq_true] at h;rcases h with h|h
 ·unfold Pt.hole Pt.noth at h
  simp only[Bool.and_eq_true,beq_iff_eq,decide_eq_true_eq] at h;have h0:p.addrs=[]:=List.eq_nil_of_length_eq_zero (by omega);rw[h0];exact⟨by simp,by simp,by omega,by omega,by omega,by omega⟩
 ·unfold sK Pt.numsB at h
  simp only[Bool.and_eq_true,decide_eq_true_eq,List.all_eq_true] at h;exact⟨h.1.2,h.1.1.1.1,by omega,by omega,by omega,by omega⟩
theorem Kc(h:∀a∈l,lC a=true)(k:Nat):∃d s:Nat,l.getD k zAd=⟨(d:Int),(s:Int)⟩/\d<8/\s<4096:=by
 rw[List.getD_eq_getElem?_getD];cases e:l[k]? with
 | none=>exact⟨0,0,rfl,by omega,by omega⟩
 | some a =>
   have:=h a (List.mem_of_getElem? e);unfold lC at this;simp only[Bool.and_eq_true,decide_eq_true_eq] at this;obtain⟨x,y⟩:=a;simp only at this;exact⟨x.toNat,y.toNat,by show (⟨x,y⟩:Ad)=_;rw[Int.toNat_of_nonneg (by omega),Int.toNat_of_nonneg (by omega)],by omega,by omega⟩
def CG(w:World)(p:Pt)(e:Ending)(w':World):Prop:=
 ∃v,e=.returned (.tuple #[v,.int .i64 (if p.may then 0 else 2)])/\w'.ownsRow w.heap.size 5 1 v (ptB p).length ((ptB p).map vb)/\aA aB w w'
theorem wW(w:World)(v:Value)(p:Pt)(h0:PtV w v p):Calls prog 148 #[.agg (aE v p).toArray] w (CG w p):=by
 obtain⟨oa,ca,hv,-,-⟩:=h0.rd.form;subst hv;obtain⟨n,hn⟩:=zX9 p.addrs.length
 have HN:=O hn;rw[hn] at h0 ⊢;obtain⟨w1,vg,zf,qv,va⟩:=aP w (aE (.slice oa n ca) p).toArray 30;obtain⟨a0,b0,c0,d0⟩:=bN (aD qv);have xx:=O d0;have q3:=O qv;have zx:(aE (.slice oa n ca) p).length=35:=aF h0.sum;simp only[Nat.zero_add] at a0 b0 c0;have HC:=O (iZ w1 _ p (h0.keep zf fun _ _=>id));have HK:=O zf;have z3:=O zf;have xy:=O h0.rd;obtain⟨t,ht⟩:=zX9 p.may
 have HT:=O ht;rw[ht] at HC;have qu:=O (aD q3.out);have z9:=O h0.sum;obtain⟨pc,z0⟩:=zX9 (aE (.slice oa n ca) p)
 have x1:=O z0;rw[z0] at vg HC zx qu ⊢;have vq:=O (aA.refl aB w1);have xk:w.heap.size<w1.heap.size:=by omega
 obtain⟨pb,zz⟩:=zX9 w.heap.size
 have ze:=O zz;rw[zz] at a0 b0 c0 qu xk;have xz:Hid (w1.rangeAt pb 0 pc):=qu;clear ht qv d0 zf va z0 h0 q3 xx hn zz;cases t
 ·go_in
  go_wp2_with (first
   | ((with_reducible show WL _ (.load 30 (.tmp 1)));refine aK (by rfl) 30 (.tmp 1) rfl (w.heap.size) 0 rfl pc _ (by rw[ze.out];exact qu.out) aI rfl (cN zx) ?_))
  refine HC.mono ?_;rintro e w2 ⟨rfl,hk⟩;have za:=O hk;have HK:=O (HK.trans hk);clear hk HC;go_wp2
  go_ret2
  exact⟨_,by rw[HT.out];rfl,by rw[show ptB p=[] by unfold ptB;rw[HT.out];rfl];exact World.ownsRow_nil _ _ _ _,HK.out⟩
 ·obtain⟨x8,xf,x3,zp,xi,x7⟩:=iF HT.out
  rw[HN.out] at x8;have xv:=O xf;obtain⟨bi,zt⟩:∃b:Nat,p.birth=(b:Int):=⟨p.birth.toNat,by omega⟩
  obtain⟨le,zy⟩:∃b:Nat,p.level=(b:Int):=⟨p.level.toNat,by omega⟩
  have vm:bi≤2147483648:=by omega
  have vn:le≤3:=by omega
  have xt:=O zt;have xw:=O zy;rw[zt] at b0;rw[zy] at c0;have zk:=O a0;have q3:=O b0;have xu:=O c0;clear xf x3 zp xi x7 zt zy;go_in
  go_wp2_with (first
   | ((with_reducible show WL _ (.load 30 (.tmp 1)));refine aK (by rfl) 30 (.tmp 1) rfl (w.heap.size) 0 rfl pc _ (by rw[ze.out];exact qu.out) aI rfl (cN zx) ?_))
  refine HC.mono ?_;rintro e w2 ⟨rfl,hk⟩;have za:=O hk;have HK:=O (HK.trans hk);clear hk HC;obtain⟨w3,xl,zu,x4,vc⟩:=aP w2 #[] 5;obtain⟨B,hB⟩:=zX9 w1.heap.size
  have M:=O hB;have vo:pb<B:=by omega
  have xc:B≤w2.heap.size:=by rw[←hB];exact za.size
  obtain⟨q0,xj⟩:=zX9 w2.heap.size
  have z6:Hid (w3.ownsRow B 5 1 (.slice q0 0 0) 0 []):=O (by rw[←xl,←xj];exact bA (World.ownsRow_made w2 #[] 0 (Nat.le_refl _) (by unfold maxLen;omega) rfl) xc);have zl:=O (za.trans zu);have a0:=zl.cell zk.out id;have x2:B≤w3.heap.size:=Nat.le_trans xc zu.size;have vp:B≤q0:=by omega
  clear zu x4 vc hB b0 c0 za;rw[ze.out];go_wp2_with fail;refine(lR w3 B _ [] n 1 z6.out x2 (by omega) (by omega) (by simp) (by omega)).mono ?_;rintro e w4 ⟨v4,rfl,zg,zp,xg⟩
  have z2:=O (zl.trans' xg (U:=aB) (fun _ _ h=>h) (fun i H e=>by
   have e':q0=i:=Option.some.inj e;have:=M.out;omega))
  obtain⟨pa,xn,rfl,-,-⟩:=(Rd.of_owns zg).form;have qw:([]++be n 1:List UInt8).length=1:=by simp[bJ]
  rw[qw] at zg ⊢
  have z7:Hid (w4.ownsRow B 5 1 (.slice pa 1 xn) 1 ((bW p 0).map vb)):=O (by
   have e:bW p 0=[]++be n 1:=by unfold bW;rw[HN.out];simp
   rw[e];exact zg)
  clear zg zp xg z6 zl qw a0 xl xj;go_wp2_with fail
  go_loopw [5,18] (fun t i wr=>∃(k X:Nat) (pa:Option Addr) (pc:Nat),k≤3/\t=.slice pa X pc/\i=.int .i64 k/\X≤10/\Hid (X=1+3*k)/\Hid (wr.ownsRow B 5 1 (.slice pa X pc) X ((bW p k).map vb))/\Hid (aA aB w1 wr)) (fun _ i _=>3-(intOf i).toNat)
  case atStart=>exact⟨0,1,pa,xn,by omega,rfl,rfl,by omega,O rfl,z7,z2⟩
  case round =>
  clear z7 z2;obtain⟨k,X,pa,qh,hk,rfl,rfl,vx,qb,HO,zb⟩:=hrel;have a0:=zb.cell zk.out id
  by_cases vw:k<3
  ·have vu:(k:Int)<3:=by omega
   have vt:(0:Int)≤(k:Int):=by omega
   obtain⟨d,s,xe,vr,vy⟩:=Kc xv.out k;have q9:=O xe;obtain⟨w8,q1,zv,zq,vd⟩:=aP wr #[.int .i64 0,.int .i64 0] 59;obtain⟨K,qf⟩:=zX9 wr.heap.size
   rw[qf] at zq;have qr:Hid (∀i,(Value.slice pa X qh).ownBlock=some i->i<K):=O (fun i H=>by rw[←qf];exact(HO.lt i H).2);have xa:=O q1;have q5:=O zq;have vi:=O qf;have xr:Hid (w1.heap.size≤K):=O (by rw[←qf];exact zb.size);have qm:=O (zb.trans zv);have zd:=O (zv.owns HO.out fun _ _=>id);have a8:=qm.cell zk.out id;have zh:=xy.keep (z3.trans qm.out) (fun _ _=>id);clear zv zq vd xe a0
   by_cases x6:k<n
   ·have xh:(k:Int)<(n:Int):=by omega
    obtain⟨x,zo⟩:∃x,p.addrs[k]?=some x:=⟨p.addrs[k]'(by rw[HN.out];exact x6),List.getElem?_eq_getElem _⟩
    have vh:x=⟨(d:Int),(s:Int)⟩:=by
     have:=q9.out;rw[List.getD_eq_getElem?_getD,zo] at this;exact this
    subst vh;rw[←HN.out] at zh;obtain⟨g,o,vj,zn,zi⟩:=gX zh zo;rw[HN.out] at zn;have e1:oa=some ⟨g,o,none⟩:=by cases zn;rfl
    subst e1;have HX:=O zi;clear zo zn zi zh
    go_wp2_with (first
     | ((with_reducible show WL (some 7) (.alloc 59));refine aY rfl 59 rfl eM eI #[.int .i64 0,.int .i64 0] rfl ?_;rw[q1,qf])
     | ((with_reducible show WL _ (.load 59 (.tmp 29)));refine wpList_load_mid rfl 59 (.tmp 29) rfl g (o+k*2) rfl (aO ⟨(d:Int),(s:Int)⟩) _ HX.out bT rfl cC ?_)
     | ((with_reducible show WL none (.store 59 (.tmp 7) (.tmp 30)));refine aQ rfl 59 (.tmp 7) (.tmp 30) rfl K 0 (aO ⟨(d:Int),(s:Int)⟩) rfl rfl #[.int .i64 0,.int .i64 0] 59 q5.out (Nat.le_refl _) cC (bP _) ?_
        intro w9 zr zw;rw[aS _ _ (by rfl)] at zr;have qk:=O zr;have qn:=O (qm.trans' zw (U:=aB) (fun _ _ h=>h) (fun i H e=>by have:=xr.out;omega));have qo:=O (zw.owns zd.out (fun i H e=>by have:=qr.out i H;omega));clear zr zw))
    clear xa q5 qm zd a8 q1 qf;obtain⟨S,J⟩:∃S:World->Prop,S=fun w'=>aA aB w1 w'/\w'.heap[K]?=some (.cells (aO ⟨(d:Int),(s:Int)⟩).toArray 59 (0,0)):=⟨_,rfl⟩
    have N:=O (show ∀w',S w'->aA aB w1 w' from fun w' h=>by rw[J] at h;exact h.1);have I:=O (show ∀w',S w'->w'.heap[K]?=some (.cells (aO ⟨(d:Int),(s:Int)⟩).toArray 59 (0,0)) from fun w' h=>by rw[J] at h;exact h.2);have D:=O (show ∀w',aA aB w1 w'->w'.heap[K]?=some (.cells (aO ⟨(d:Int),(s:Int)⟩).toArray 59 (0,0))->S w' from fun w' h h2=>by rw[J];exact⟨h,h2⟩);have qi:=O (fun w' (h:S w')=>(aC (I w' h) rfl:w'.cell? ⟨K,0,none⟩=some (.int .i64 (d:Int))));have qj:=O (fun w' (h:S w')=>(aC (I w' h) rfl:w'.cell? ⟨K,1,none⟩=some (.int .i64 (s:Int))));have A:S w9.drew:=D.out _ qn.drew ((aA.refl aB w9).drew.blk qk.out id);have F:=(aA.refl aB w9).drew.owns qo.out (fun _ _=>id);clear J;refine wp_region_held (S:=S) (by kernel_rfl) ?_;change wpAnyH _ _ _ _ _ _ _ _ w9.drew;generalize w9.drew=Y at A F ⊢;refine tka 0 (.slice pa X qh) rfl A ?_;simp only[Act.put,List.setIfInBounds_toArray,List.set_cons_zero,List.set_cons_succ,List.getElem_toArray,List.getElem_cons_zero];refine tnb 1 (.pointer K) rfl A ?_;refine tnd 2 (.int .i64 (d:Int)) rfl (.inl ⟨by rfl,fun w' V=>by have c:=qi.out w' V;go_simp⟩) A ?_;refine tnb 4 (.pointer (some ⟨K,1,none⟩)) rfl A ?_;refine tnd 5 (.int .i64 (s:Int)) rfl (.inl ⟨by rfl,fun w' V=>by have c:=qj.out w' V;go_simp⟩) A ?_;refine wA9 3 ?_;go_wp2_with fail;have L:B≤Y.heap.size:=by rw[←M.out];exact(N _ A).size
    have qg:Y.ownsRow B 5 1 (.slice pa X qh) (bW p k).length ((bW p k).map vb):=by rw[fD,←qb.out];exact F
    refine(lR Y B _ (bW p k) d 1 qg L (by omega) (by omega) (by rw[fD];omega) (by omega)).mono ?_;rintro e W ⟨xo,rfl,z,Q,y⟩;obtain⟨qa,qc,rfl,-,-⟩:=(Rd.of_owns z).form;have E:∀i,(Value.slice pa X qh).ownBlock=some i->B≤i/\i<K:=fun i H=>⟨bM F H,qr i H⟩
    have r:S W:=D.out _ ((N _ A).trans' y (U:=aB) (fun _ _ h=>h) (fun i H e=>by have:=(E i e).1;have:=M.out;omega)) (y.blk (I _ A) (fun e=>by have:=(E K e).2;omega))
    have G:∀i,(Value.slice qa (bW p k++be d 1).length qc).ownBlock=some i->B≤i/\i≠K:=fun i H=>⟨bM z H,by
     rcases Q with h|h
     ·rw[h] at H;have:=(E i H).2;omega
     ·have h1:=h i H
      have h2:=lt_of_block (I _ A);omega⟩
    have m:(bW p k++be d 1).length=X+1:=by rw[List.length_append,fD,bJ,qb.out]
    have Z:B≤W.heap.size:=Nat.le_trans L y.size;rw[m] at G ⊢;have f:=z;rw[m] at f;clear A F qg y Q E;go_wp2_with fail;refine⟨r,?_⟩;refine wA9 6 ?_;go_wp2_with fail;refine(lR W B _ (bW p k++be d 1) s 2 (by rw[m];exact f) Z (by omega) (by omega) (by rw[m];omega) (by omega)).mono ?_;rintro e qp ⟨xp,rfl,a,-,C⟩;obtain⟨ra,rc,rfl,-,-⟩:=(Rd.of_owns a).form;have q:S qp:=D.out _ ((N _ r).trans' C (U:=aB) (fun _ _ h=>h) (fun i H e=>by have:=(G i e).1;have:=M.out;omega)) (C.blk (I _ r) (fun e=>(G K e).2 rfl));have R:(bW p k++be d 1++be s 2).length=X+3:=by rw[List.length_append,m,bJ]
    have qy:bW p k++be d 1++be s 2=bW p (k+1):=by
     rw[sL,q9.out]
     first|rfl|(show _=bW p k++be (Int.toNat _) 1++be (Int.toNat _) 2;rw[Int.toNat_natCast,Int.toNat_natCast])
    rw[R] at a ⊢;rw[qy] at a;have qt:=O a;clear r G z f C a qy;go_wp2_with fail;refine⟨q,?_⟩;refine tna 7 (.slice ra (X+3) rc) rfl q ?_;refine wpAnyH_done (by kernel_rfl) ?_ _;have qq:=O (N _ q);clear q N I D qi qj qk qo qn qr;go_wp2
    go_roundw
    case rel=>exact⟨k+1,X+3,ra,rc,by omega,rfl,by go_num,by have:=qb.out;omega,O (by rw[qb.out];omega),qt,qq⟩
    case measure=>simp[intOf];omega
   ·have xh:¬(k:Int)<(n:Int):=by omega
    have x5:d=0/\s=0:=by
     have h:=q9.out;rw[List.getD_eq_getElem?_getD,List.getElem?_eq_none (by rw[HN.out];omega)] at h;have h1:=congrArg Ad.dev h;have h2:=congrArg Ad.sec h;have h3:(0:Int)=(d:Int):=h1;have h4:(0:Int)=(s:Int):=h2;omega
    obtain⟨rfl,rfl⟩:=x5;have qk:Hid (w8.heap[K]?=some (.cells (aO ⟨((0:Nat):Int),((0:Nat):Int)⟩).toArray 59 (0,0))):=q5;have qn:=qm;have qo:=zd;clear zh
    go_wp2_with (first
     | ((with_reducible show WL (some 7) (.alloc 59));refine aY rfl 59 rfl eM eI #[.int .i64 0,.int .i64 0] rfl ?_;rw[q1,qf]))
    obtain⟨w9,xm⟩:=zX9 w8
    rw[xm] at qk qn qo ⊢;clear xa q5 qm zd a8 q1 qf xm;obtain⟨S,J⟩:∃S:World->Prop,S=fun w'=>aA aB w1 w'/\w'.heap[K]?=some (.cells (aO ⟨((0:Nat):Int),((0:Nat):Int)⟩).toArray 59 (0,0)):=⟨_,rfl⟩
    have N:=O (show ∀w',S w'->aA aB w1 w' from fun w' h=>by rw[J] at h;exact h.1);have I:=O (show ∀w',S w'->w'.heap[K]?=some (.cells (aO ⟨((0:Nat):Int),((0:Nat):Int)⟩).toArray 59 (0,0)) from fun w' h=>by rw[J] at h;exact h.2);have D:=O (show ∀w',aA aB w1 w'->w'.heap[K]?=some (.cells (aO ⟨((0:Nat):Int),((0:Nat):Int)⟩).toArray 59 (0,0))->S w' from fun w' h h2=>by rw[J];exact⟨h,h2⟩);have qi:=O (fun w' (h:S w')=>(aC (I w' h) rfl:w'.cell? ⟨K,0,none⟩=some (.int .i64 ((0:Nat):Int))));have qj:=O (fun w' (h:S w')=>(aC (I w' h) rfl:w'.cell? ⟨K,1,none⟩=some (.int .i64 ((0:Nat):Int))));have A:S w9.drew:=D.out _ qn.drew ((aA.refl aB w9).drew.blk qk.out id);have F:=(aA.refl aB w9).drew.owns qo.out (fun _ _=>id);clear J;refine wp_region_held (S:=S) (by kernel_rfl) ?_;change wpAnyH _ _ _ _ _ _ _ _ w9.drew;generalize w9.drew=Y at A F ⊢;refine tka 0 (.slice pa X qh) rfl A ?_;simp only[Act.put,List.setIfInBounds_toArray,List.set_cons_zero,List.set_cons_succ,List.getElem_toArray,List.getElem_cons_zero];refine tnb 1 (.pointer K) rfl A ?_;refine tnd 2 (.int .i64 ((0:Nat):Int)) rfl (.inl ⟨by rfl,fun w' V=>by have c:=qi.out w' V;go_simp⟩) A ?_;refine tnb 4 (.pointer (some ⟨K,1,none⟩)) rfl A ?_;refine tnd 5 (.int .i64 ((0:Nat):Int)) rfl (.inl ⟨by rfl,fun w' V=>by have c:=qj.out w' V;go_simp⟩) A ?_;refine wA9 3 ?_;go_wp2_with fail;have L:B≤Y.heap.size:=by rw[←M.out];exact(N _ A).size
    have qg:Y.ownsRow B 5 1 (.slice pa X qh) (bW p k).length ((bW p k).map vb):=by rw[fD,←qb.out];exact F
    refine(lR Y B _ (bW p k) 0 1 qg L (by omega) (by omega) (by rw[fD];omega) (by omega)).mono ?_;rintro e W ⟨xo,rfl,z,Q,y⟩;obtain⟨qa,qc,rfl,-,-⟩:=(Rd.of_owns z).form;have E:∀i,(Value.slice pa X qh).ownBlock=some i->B≤i/\i<K:=fun i H=>⟨bM F H,qr i H⟩
    have r:S W:=D.out _ ((N _ A).trans' y (U:=aB) (fun _ _ h=>h) (fun i H e=>by have:=(E i e).1;have:=M.out;omega)) (y.blk (I _ A) (fun e=>by have:=(E K e).2;omega))
    have G:∀i,(Value.slice qa (bW p k++be 0 1).length qc).ownBlock=some i->B≤i/\i≠K:=fun i H=>⟨bM z H,by
     rcases Q with h|h
     ·rw[h] at H;have:=(E i H).2;omega
     ·have h1:=h i H
      have h2:=lt_of_block (I _ A);omega⟩
    have m:(bW p k++be 0 1).length=X+1:=by rw[List.length_append,fD,bJ,qb.out]
    have Z:B≤W.heap.size:=Nat.le_trans L y.size;rw[m] at G ⊢;have f:=z;rw[m] at f;clear A F qg y Q E;go_wp2_with fail;refine⟨r,?_⟩;refine wA9 6 ?_;go_wp2_with fail;refine(lR W B _ (bW p k++be 0 1) 0 2 (by rw[m];exact f) Z (by omega) (by omega) (by rw[m];omega) (by omega)).mono ?_;rintro e qp ⟨xp,rfl,a,-,C⟩;obtain⟨ra,rc,rfl,-,-⟩:=(Rd.of_owns a).form;have q:S qp:=D.out _ ((N _ r).trans' C (U:=aB) (fun _ _ h=>h) (fun i H e=>by have:=(G i e).1;have:=M.out;omega)) (C.blk (I _ r) (fun e=>(G K e).2 rfl));have R:(bW p k++be 0 1++be 0 2).length=X+3:=by rw[List.length_append,m,bJ]
    have qy:bW p k++be 0 1++be 0 2=bW p (k+1):=by
     rw[sL,q9.out]
     first|rfl|(show _=bW p k++be (Int.toNat _) 1++be (Int.toNat _) 2;rw[Int.toNat_natCast,Int.toNat_natCast])
    rw[R] at a ⊢;rw[qy] at a;have qt:=O a;clear r G z f C a qy;go_wp2_with fail;refine⟨q,?_⟩;refine tna 7 (.slice ra (X+3) rc) rfl q ?_;refine wpAnyH_done (by kernel_rfl) ?_ _;have qq:=O (N _ q);clear q N I D qi qj qk qo qn qr;go_wp2
    go_roundw
    case rel=>exact⟨k+1,X+3,ra,rc,by omega,rfl,by go_num,by have:=qb.out;omega,O (by rw[qb.out];omega),qt,qq⟩
    case measure=>simp[intOf];omega
  ·obtain rfl:k=3:=by omega
   have zm:=O ((bN (p:=p) (v:=.slice oa n ca) (by rw[x1.out];exact xz.out)).2.2.2);rw[Nat.zero_add] at zm;obtain⟨ss,qz⟩:=zX9 (p.sum.map vb)
   have x0:=O qz;have ve:ss.length=32:=by rw[←qz,List.length_map];exact z9.out
   have vf:∀u∈ss,u.oneCell'=true:=by rw[←qz];exact bR _
   rw[qz] at zm;have x9:X=10:=qb.out;subst x9;obtain⟨S,J⟩:∃S:World->Prop,S=fun w'=>aA aB w1 w':=⟨_,rfl⟩
   have qd:=O (show ∀w',S w'->aA aB w1 w' from fun w' h=>by rw[J] at h;exact h);have D:=O (show ∀w',aA aB w1 w'->S w' from fun w' h=>by rw[J];exact h);have qi:=O (fun w' (h:S w')=>(qd w' h).cell q3.out id);have qj:=O (fun w' (h:S w')=>(qd w' h).cell xu.out id);have F:=(aA.refl aB wr).drew.owns HO.out (fun _ _=>id);have A:S wr.drew:=D.out _ zb.drew;clear J qz a0 HO;go_wp2_with fail;refine wp_region_held (S:=S) (by kernel_rfl) ?_;change wpAnyH _ _ _ _ _ _ _ _ wr.drew;generalize wr.drew=Y at A F ⊢;refine tka 0 (.slice pa 10 qh) rfl A ?_;simp only[Act.put,List.setIfInBounds_toArray,List.set_cons_zero,List.set_cons_succ,List.getElem_toArray,List.getElem_cons_zero];refine tnb 1 (.pointer (some ⟨pb,1,none⟩)) rfl A ?_;refine tnd 2 (.int .i64 (bi:Int)) rfl (.inl ⟨by rfl,fun w' V=>by have c:=qi.out w' V;go_simp⟩) A ?_;refine tnb 4 (.pointer (some ⟨pb,2,none⟩)) rfl A ?_;refine tnd 5 (.int .i64 (le:Int)) rfl (.inl ⟨by rfl,fun w' V=>by have c:=qj.out w' V;go_simp⟩) A ?_;refine tnb 7 (.pointer (some ⟨pb,3,none⟩)) rfl A ?_;refine tnb 8 (.slice (some ⟨pb,3,none⟩) 32 32) rfl A ?_;refine wA9 3 ?_;go_wp2_with fail;have L:B≤Y.heap.size:=by rw[←M.out];exact(qd _ A).size
   refine(lR Y B _ (bW p 3) bi 4 (by rw[fD];exact F) L (by omega) (by omega) (by rw[fD];omega) (by omega)).mono ?_;rintro e W ⟨xo,rfl,z,Q,y⟩;obtain⟨qa,qc,rfl,-,-⟩:=(Rd.of_owns z).form;have r:S W:=D.out _ ((qd _ A).trans' y (U:=aB) (fun _ _ h=>h) (fun i H e=>by have:=bM F e;have:=M.out;omega));have m:(bW p 3++be bi 4).length=14:=by rw[List.length_append,fD,bJ]
   have Z:B≤W.heap.size:=Nat.le_trans L y.size;have f:=z;rw[m] at f ⊢;clear A F y Q;go_wp2_with fail;refine⟨r,?_⟩;refine wA9 6 ?_;go_wp2_with fail;refine(lR W B _ (bW p 3++be bi 4) le 1 (by rw[m];exact f) Z (by omega) (by omega) (by rw[m];omega) (by omega)).mono ?_;rintro e qp ⟨xp,rfl,a,-,C⟩;obtain⟨ra,rc,rfl,-,-⟩:=(Rd.of_owns a).form;have q:S qp:=D.out _ ((qd _ r).trans' C (U:=aB) (fun _ _ h=>h) (fun i H e=>by have:=bM f e;have:=M.out;omega));have R:(bW p 3++be bi 4++be le 1).length=15:=by rw[List.length_append,m,bJ]
   have xb:B≤qp.heap.size:=Nat.le_trans Z C.size;rw[R] at a ⊢;clear r z f C;go_wp2_with fail;refine⟨q,?_⟩;refine wA9 9 ?_
   refine yT rfl (.tmp 45) (.tmp 47) 265 68 rfl _ underlying68 rfl B 5 _ 1 1 underlying265 gJ rfl (by omega) (.slice ra 15 rc) 15 ((bW p 3++be bi 4++be le 1).map vb) rfl a ⟨pb,3,none⟩ 32 32 ss rfl ve (fun j u hj=>by
    rw[jL];exact(qd _ q).cell (zm j u hj) id) vf (by unfold maxLen;omega) (by omega) xb ?_
   intro vz xq qx zj xd;obtain⟨sa,sc,rfl,-,-⟩:=(Rd.of_owns qx).form;have qe:S xq:=D.out _ ((qd _ q).trans' zj (U:=aB) (fun _ _ h=>h) (fun i H e=>by have:=bM a e;have:=M.out;omega))
   have z5:Hid (xq.ownsRow B 5 1 (.slice sa 47 sc) 47 ((cJ p).map vb)):=O (by
    have e:(cJ p).map vb=(bW p 3++be bi 4++be le 1).map vb++ss:=by
     unfold cJ;rw[xt.out,xw.out,Int.toNat_natCast,Int.toNat_natCast,List.map_append,x0.out]
    rw[e];exact qx)
   clear q a qx zj xd;refine wpList_nil ?_;refine⟨qe,?_⟩;refine tna 10 (.slice sa 47 sc) rfl qe ?_;refine tna 11 (.int .i64 0) rfl qe ?_;refine wpAnyH_done (by kernel_rfl) ?_ _;have z1:=O (qd _ qe);clear qe qd D;go_wp2
   go_ret2
   have e:ptB p=cJ p:=by unfold ptB;rw[HT.out];rfl
   refine⟨_,by rw[HT.out];rfl,?_,z3.trans z1.out⟩;rw[e,fB z9.out];exact bA z5.out (by have:=M.out;have:=ze.out;omega)
open Go.RowKit Go.Maps Go.ChangeMaps
set_option maxRecDepth 100000
set_option linter.unusedVariables false
theorem N4(h:n<256):vb (UInt8.ofNat n)=.int .u8 (n:Int):=by
 unfold vb;simp;omega
end
end Go.Proofs.YtoeinblfcbpcmaaGreat
