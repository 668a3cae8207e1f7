import Derived.Test.YtoeinblfcbpcmaaGreatDoorC39
import Derived.Lib.BytesEntry
import Derived.Laws.Externs
import Derived.Sort.Statements
namespace Go.Proofs.YtoeinblfcbpcmaaGreatDoor
open Tryz
set_option maxHeartbeats 0
set_option maxRecDepth 100000
set_option linter.unusedVariables false
section
open Go.RowKit Go.Sort
variable{a b l:List UInt8}{w:World}
theorem FK:∀a:List UInt8,Lib.compareBytes a a=0
 | []=>rfl
 | x::a=>by simp[Lib.compareBytes,FK a]
theorem Hf:∀{a b:List UInt8},Lib.compareBytes a b=0->a=b
 | [],[],_=>rfl
 | [],_::_,h=>by simp[Lib.compareBytes] at h
 | _::_,[],h=>by simp[Lib.compareBytes] at h
 | x::a,y::b,h=>by
   unfold Lib.compareBytes at h
   by_cases c:x<y
   ·rw[if_pos c] at h;cases h
   ·by_cases d:y<x
    ·rw[if_neg c,if_pos d] at h;cases h
    ·rw[if_neg c,if_neg d] at h
     rw[Hf h,UInt8.le_antisymm (UInt8.not_lt.1 d) (UInt8.not_lt.1 c)]
theorem A0:∀a b:List UInt8,Lib.compareBytes b a=- Lib.compareBytes a b
 | [],[]=>rfl
 | [],_::_=>rfl
 | _::_,[]=>rfl
 | x::a,y::b=>by
   unfold Lib.compareBytes
   by_cases c:x<y
   ·have d:¬y<x:=fun h=>UInt8.lt_irrefl _ (UInt8.lt_trans c h)
    rw[if_pos c,if_neg d,if_pos c];rfl
   ·by_cases d:y<x
    ·rw[if_pos d,if_neg c,if_pos d]
    ·rw[if_neg c,if_neg d,if_neg c,if_neg d,A0 a b]
theorem Dw:∀{a b c:List UInt8},Lib.compareBytes a b<0->Lib.compareBytes b c<0->Lib.compareBytes a c<0
 | [],[],_,h,_=>by simp[Lib.compareBytes] at h
 | [],_::_,[],_,h=>by simp[Lib.compareBytes] at h
 | [],_::_,_::_,_,_=>by simp[Lib.compareBytes]
 | _::_,[],_,h,_=>by simp[Lib.compareBytes] at h
 | _::_,_::_,[],_,h=>by simp[Lib.compareBytes] at h
 | x::a,y::b,z::c,h,k=>by
   unfold Lib.compareBytes at h k ⊢
   by_cases f:x<y
   ·by_cases d:y<z
    ·rw[if_pos (UInt8.lt_trans f d)];decide
    ·by_cases g:z<y
     ·rw[if_neg d,if_pos g] at k;cases k
     ·have e:=UInt8.le_antisymm (UInt8.not_lt.1 g) (UInt8.not_lt.1 d)
      subst e;rw[if_pos f];decide
   ·by_cases i:y<x
    ·rw[if_neg f,if_pos i] at h;cases h
    ·have e:=UInt8.le_antisymm (UInt8.not_lt.1 i) (UInt8.not_lt.1 f)
     subst e;rw[if_neg f,if_neg i] at h
     by_cases d:x<z
     ·rw[if_pos d];decide
     ·by_cases g:z<x
      ·rw[if_neg d,if_pos g] at k;cases k
      ·rw[if_neg d,if_neg g] at k ⊢
       exact Dw h k
def dP(a b:List UInt8):Bool:=decide (Lib.compareBytes a b<0)
theorem Ak(a:List UInt8):dP a a=false:=by simp[dP,FK]
theorem vV{c:List UInt8}(h:dP a b=true)(k:dP b c=true):dP a c=true:=by
 unfold dP at *;exact decide_eq_true (Dw (of_decide_eq_true h) (of_decide_eq_true k))
theorem qN(h:dP a b=false)(k:dP b a=false):a=b:=by
 unfold dP at *;have d:=of_decide_eq_false h;have c:=of_decide_eq_false k;rw[A0 a b] at c;exact Hf (by omega)
theorem LS(h:dP a b=true):dP b a=false:=by
 unfold dP at *;have c:=of_decide_eq_true h;rw[A0 a b];exact decide_eq_false (by omega)
def BS(a b:List UInt8):Int:=if dP a b=true then -1 else if dP b a=true then 1 else 0
theorem BT{v:Value}(h:Rd w 1 v l.length (l.map vb)):(Extern.Bytes.bytesOf v).run prog w=.ok (fG l) w:=by
 obtain⟨h0,a,i,rfl,n,q,r,k⟩:=h;rcases Nat.eq_zero_or_pos l.length with e|e
 ·have:l=[]:=List.eq_nil_of_length_eq_zero e
  subst this;cases a with
  | none=>rfl
  | some a=>rfl
 ·obtain⟨g,o,rfl,m⟩:=k (by simpa using e)
  have f:=Lib.run_loadBytesX (P:=prog) w (l.map fun b=>(b.toNat:Int)) ⟨g,o,none⟩ .empty (fun j x c=>by
   rw[iO];rw[List.getElem?_map] at c;rcases d:l[j]? with _|b
   ·rw[d] at c;cases c
   ·rw[d] at c
    cases c
    exact m j (vb b) (by rw[List.getElem?_map,d];rfl))
  rw[List.length_map] at f;unfold Extern.Bytes.bytesOf;simp only;rw[f]
  congr 1
  unfold fG;apply ByteArray.ext;simp[Lib.bytesOf,Function.comp_def]
theorem PO(w:World)(av c:Value)(d ys:List UInt8)(e:Rd w 1 av d.length (d.map vb))(f:Rd w 1 c ys.length (ys.map vb)) :
 (Extern.BytealgCompare.compare #[av,c]).run prog w=.ok (.int .i64 (Lib.compareBytes d ys)) w:=by
 rw[show Extern.BytealgCompare.compare #[av,c]=(do pure (goInt (Extern.BytealgCompare.cmp (←Extern.Bytes.bytesOf av) (←Extern.Bytes.bytesOf c)))) from rfl];simp only[Sem.run_bind,BT e,BT f,Result.andThen_ok,Sem.run_pure];rw[Lib.cmp_eq];rfl
theorem FL(w:World)(av d:Value)(c ys:List UInt8)(f:Rd w 1 av c.length (c.map vb))(g:Rd w 1 d ys.length (ys.map vb)) :
 Calls prog 231 #[av,d] w (fun e h=>e=.returned (.int .i64 (Lib.compareBytes c ys))/\h=w):=by
 have K:=O (PO w av d c ys f g);clear f g;have X:=O (fun args w=>run_callFunc_extern (P:=prog) func257 (by kernel_rfl) (by kernel_rfl) (by kernel_rfl) (e:=Extern.BytealgCompare.compare) (by kernel_rfl) args w);generalize Lib.compareBytes c ys=r at *;go_in
 go_wp2
 rw[X.out,K.out];simp only[Result.andThen];rw[Oper.upon_value]
 go_wp2
 go_ret;exact⟨rfl,rfl⟩
theorem LT{b n:Nat}{t:TypeId}(c:w.heap[b]?=some (.cells (l.map vb).toArray t (0,0)))(d:l.length=n)(e:n≤maxLen):Rd w 1 (.slice b n n) l.length (l.map vb):=by
 subst d;exact⟨by simp,_,l.length,rfl,Nat.le_refl _,e,(by intro h;cases h),fun _=>⟨b,0,rfl,fun i u f=>aC c (by simpa using f)⟩⟩
theorem Dx(a b:List UInt8)(j:a.length=32)(k:b.length=32)(w:World)(r:Bool)(n:dP a b=r):Calls prog 198 #[.agg (a.map vb).toArray,.agg (b.map vb).toArray] w fun e v=>e=.returned (.bool r)/\Gr w v:=by
 have t:prog.arrayLen 31=32:=by kernel_rfl
 obtain⟨g,c⟩:=zX9 (w.alloc (.cells (a.map vb).toArray 31))
 obtain⟨f,d⟩:=zX9 (g.alloc (.cells (b.map vb).toArray 31))
 have h:f.heap[w.heap.size]?=some (.cells (a.map vb).toArray 31 (0,0)):=by
  rw[←d];exact((aA.refl aB g).alloc _).blk (by rw[←c];exact heap_alloc_new _ _) id
 have i:f.heap[w.heap.size+1]?=some (.cells (b.map vb).toArray 31 (0,0)):=by
  rw[←d,show w.heap.size+1=g.heap.size by rw[←c];exact(World.size_alloc _ _).symm];exact heap_alloc_new _ _
 have m:Gr w f:=by rw[←d,←c];exact((Gr.refl _).alloc _).alloc _
 have C:=O fun q=>FL (f.drewN q) (.slice (w.heap.size) 32 32) (.slice (some ⟨w.heap.size+1,0,none⟩) 32 32) a b
  (LT (((aA.refl aB f).drewN q).blk h id) j (by unfold maxLen;omega)) (LT (((aA.refl aB f).drewN q).blk i id) k (by unfold maxLen;omega))
 have s:Hid (decide (Lib.compareBytes a b<0)=r):=O n;have o:=O m;have u:g.heap.size=w.heap.size+1:=by rw[←c];exact World.size_alloc _ _
 generalize Lib.compareBytes a b=z at *;generalize (a.map vb).toArray=av at *;generalize (b.map vb).toArray=x at *;clear n m h i j k;go_in;go_wp2_with fail;clear c d
 go_quiet ((go_at_call 231;exact Calls.quiet_of_same (C.out _)))
 go_wp2;go_ret;exact⟨by rw[←s.out];rfl,o.drewN _⟩
theorem qU{b:Nat}(h:w.heap[b]?=some (.cells (a.map vb).toArray 31 (0,0))):w.rangeAt b 0 (a.map vb):=aD h
theorem Jt(a b:List UInt8)(B:a.length=32)(C:b.length=32)(w:World):Calls prog 132 #[.agg (a.map vb).toArray,.agg (b.map vb).toArray] w fun e M=>e=.returned (.int .i64 (BS a b))/\Gr w M:=by
 have v:(a.map vb).length=32:=by rw[List.length_map];exact B
 have z:(b.map vb).length=32:=by rw[List.length_map];exact C
 have k:Hid ((prog.info? 31).map (·.size)=some (a.map vb).length):=O (by rw[v];exact fZ);have m:Hid ((prog.info? 31).map (·.size)=some (b.map vb).length):=O (by rw[z];exact fZ);obtain⟨n,d⟩:=zX9 (w.alloc (.cells (a.map vb).toArray 31))
 obtain⟨A,f⟩:=zX9 (n.alloc (.cells (b.map vb).toArray 31))
 have s:A.heap[w.heap.size]?=some (.cells (a.map vb).toArray 31 (0,0)):=by
  rw[←f];exact((aA.refl aB n).alloc _).blk (by rw[←d];exact heap_alloc_new _ _) id
 have t:A.heap[w.heap.size+1]?=some (.cells (b.map vb).toArray 31 (0,0)):=by
  rw[←f,show w.heap.size+1=n.heap.size by rw[←d];exact(World.size_alloc _ _).symm];exact heap_alloc_new _ _
 have H:Gr w A:=by rw[←f,←d];exact((Gr.refl _).alloc _).alloc _
 have G:=O fun W r (h:dP a b=r)=>Dx a b B C W r h
 have K:=O fun W r (h:dP b a=r)=>Dx b a C B W r h
 have E:=O H;have L:n.heap.size=w.heap.size+1:=by rw[←d];exact World.size_alloc _ _
 have g:=O s;have i:=O t;have F:Hid (BS a b=if dP a b=true then -1 else if dP b a=true then 1 else 0):=O rfl;clear s t H B C v z;generalize I:dP a b=x at *;generalize J:dP b a=y at *;have P:=O I;have Q:=O J;clear I J;cases x
 ·cases y <;>
  ·go_in
   go_wp2_with (first
    | ((with_reducible show WL (some 6) (.load 31 (.tmp 2)));refine wpList_load_mid rfl 31 (.tmp 2) rfl w.heap.size 0 rfl (a.map vb) _ (qU g.out) underlying31 rfl k.out ?_)
    | ((with_reducible show WL (some 7) (.load 31 (.tmp 3)));refine wpList_load_mid rfl 31 (.tmp 3) rfl (w.heap.size+1) 0 rfl (b.map vb) _ (qU i.out) underlying31 rfl m.out ?_))
   clear d f;refine(G.out _ _ rfl).mono ?_;rintro e N ⟨rfl,c⟩;have o:=O (c.keep.blk g.out id);have q:=O (c.keep.blk i.out id);have j:=O c;clear c
   go_wp2_with (first
    | ((with_reducible show WL (some 10) (.load 31 (.tmp 3)));refine wpList_load_mid rfl 31 (.tmp 3) rfl (w.heap.size+1) 0 rfl (b.map vb) _ (qU q.out) underlying31 rfl m.out ?_)
    | ((with_reducible show WL (some 11) (.load 31 (.tmp 2)));refine wpList_load_mid rfl 31 (.tmp 2) rfl w.heap.size 0 rfl (a.map vb) _ (qU o.out) underlying31 rfl k.out ?_))
   refine(K.out _ _ rfl).mono ?_;rintro e R ⟨rfl,u⟩;have D:=O u;clear u;go_wp2;go_ret;exact⟨by rw[F.out];rfl,(E.trans j.out).trans D.out⟩
 ·go_in
  go_wp2_with (first
   | ((with_reducible show WL (some 6) (.load 31 (.tmp 2)));refine wpList_load_mid rfl 31 (.tmp 2) rfl w.heap.size 0 rfl (a.map vb) _ (qU g.out) underlying31 rfl k.out ?_)
   | ((with_reducible show WL (some 7) (.load 31 (.tmp 3)));refine wpList_load_mid rfl 31 (.tmp 3) rfl (w.heap.size+1) 0 rfl (b.map vb) _ (qU i.out) underlying31 rfl m.out ?_))
  clear d f;refine(G.out _ _ rfl).mono ?_;rintro e N ⟨rfl,c⟩;have j:=O c;clear c;go_wp2;go_ret;exact⟨by rw[F.out];rfl,E.trans j.out⟩
end
section
def oS(l:List (List UInt8)):List (List UInt8):=l.mergeSort fun x y=>!dP y x
theorem CA(x y z:List UInt8)(h:(!dP y x)=true)(k:(!dP z y)=true):(!dP z x)=true:=by
 simp only[Bool.not_eq_true'] at *;cases c:dP z x
 ·rfl
 ·cases d:dP x y
  ·rw[qN h d] at k;rw[k] at c;cases c
  ·rw[vV c d] at k;cases k
theorem A1(x y:List UInt8):((!dP y x) || (!dP x y))=true:=by
 cases c:dP y x
 ·rfl
 ·rw[LS c];rfl
theorem Ju{a b:List (List UInt8)}(h:a.Perm b):oS a=oS b:=by
 refine List.Perm.eq_of_pairwise (le:=fun x y=>(!dP y x)=true) ?_ (List.pairwise_mergeSort CA A1 a) (List.pairwise_mergeSort CA A1 b) (((List.mergeSort_perm a _).trans h).trans (List.mergeSort_perm b _).symm);intro x y _ _ h k;simp only[Bool.not_eq_true'] at h k;exact qN k h
theorem LU{a:List (List UInt8)}{x:List UInt8}:x∈oS a↔x∈a:=(List.mergeSort_perm a _).mem_iff
theorem LV{α:Type}{c:List α->Prop}(l:List α)(nil:c [])(snoc:∀l x,c l->c (l++[x])):c l:=by
 have:∀n (l:List α),l.length=n->c l:=by
  intro n
  induction n with
  | zero=>intro l h;rw[List.eq_nil_of_length_eq_zero h];exact nil
  | succ n f =>
    intro l h;have d:l≠[]:=fun e=>by rw[e] at h;cases h
    rw[←List.dropLast_concat_getLast d];exact snoc _ _ (f _ (by rw[List.length_dropLast,h];rfl))
 exact this _ l rfl
section
variable {α β:Type} [DecidableEq α]
theorem FM(a:α):eE ([]:List (α×β)) a=none:=rfl
theorem kS(p:α×β)(l:List (α×β))(a:α):eE (p::l) a=if p.1=a then some p.2 else eE l a:=by
 unfold eE;rw[List.find?_cons]
 by_cases h:p.1=a
 ·rw[decide_eq_true h,if_pos h];rfl
 ·rw[decide_eq_false h,if_neg h]
theorem Gx(l m:List (α×β))(a:α):eE (l++m) a=(eE l a).or (eE m a):=by
 induction l with
 | nil=>rfl
 | cons p l c =>
   rw[List.cons_append,kS,kS,c]
   by_cases h:p.1=a
   ·rw[if_pos h,if_pos h];rfl
   ·rw[if_neg h,if_neg h]
theorem wI{l:List (α×β)}{a:α}:(eE l a).isSome=true↔a∈l.map (·.1):=by
 induction l with
 | nil=>simp[FM]
 | cons p l c =>
   rw[kS,List.map_cons,List.mem_cons]
   by_cases h:p.1=a
   ·rw[if_pos h];simp[h]
   ·rw[if_neg h,c]
    constructor
    ·exact .inr
    ·rintro (e|e)
     ·exact absurd e.symm h
     ·exact e
theorem CB{l:List (α×β)}{a b:α}{v:β}(h:b≠a):eE (l.map fun p=>if p.1=a then (a,v) else p) b=eE l b:=by
 induction l with
 | nil=>rfl
 | cons p l c =>
   rw[List.map_cons,kS,kS,c]
   by_cases e:p.1=a
   ·rw[if_pos e,if_neg (fun e2:a=b=>h e2.symm),if_neg (fun e2:p.1=b=>h (e2.symm.trans e))]
   ·rw[if_neg e]
theorem D2{l:List (α×β)}{a:α}{v:β}(h:∃p∈l,p.1=a):eE (l.map fun p=>if p.1=a then (a,v) else p) a=some v:=by
 induction l with
 | nil=>obtain⟨p,f,-⟩:=h;cases f
 | cons p l g =>
   rw[List.map_cons,kS]
   by_cases e:p.1=a
   ·rw[if_pos e,if_pos rfl]
   ·rw[if_neg e,if_neg e]
    obtain⟨q,d,c⟩:=h;rcases List.mem_cons.1 d with rfl|d
    ·exact absurd c e
    ·exact g ⟨q,d,c⟩
theorem tD(l:List (α×β))(a b:α)(v:β):eE (cJ l a v) b=if b=a then some v else eE l b:=by
 unfold cJ
 by_cases h:l.any (fun p=>decide (p.1=a))=true
 ·rw[if_pos h]
  by_cases e:b=a
  ·subst e
   rw[if_pos rfl];simp only[List.any_eq_true,decide_eq_true_eq] at h;exact D2 h
  ·rw[if_neg e,CB e]
 ·rw[if_neg h,Gx,kS,FM]
  by_cases e:b=a
  ·subst e
   rw[if_pos rfl,if_pos rfl]
   have:eE l b=none:=by
    rcases g:eE l b with _|x
    ·rfl
    ·have d:(eE l b).isSome=true:=by rw[g];rfl
     rw[wI] at d;obtain⟨p,i,c⟩:=List.mem_map.1 d;exact absurd (List.any_eq_true.2 ⟨p,i,decide_eq_true c⟩) h
   rw[this];rfl
  ·rw[if_neg e,if_neg (fun f=>e f.symm)]
   cases eE l b<;>rfl
theorem wJ(l:List (α×β))(a:α)(v u:β):cJ (cJ l a v) a u=cJ l a u:=by
 unfold cJ
 by_cases h:l.any (fun p=>decide (p.1=a))=true
 ·rw[if_pos h,if_pos h,if_pos,List.map_map]
  ·congr 1
   funext p
   by_cases e:p.1=a
   ·simp[e]
   ·simp[e]
  ·simp only[List.any_eq_true,decide_eq_true_eq,List.mem_map] at h ⊢
   obtain⟨p,c,e⟩:=h;exact⟨_,⟨p,c,rfl⟩,by simp[e]⟩
 ·rw[if_neg h,if_neg h,if_pos (by simp)]
  rw[List.map_append]
  congr 1
  ·refine(List.map_congr_left fun p c=>?_).trans (List.map_id l)
   have:p.1≠a:=fun e=>h (List.any_eq_true.2 ⟨p,c,decide_eq_true e⟩)
   simp[this]
  ·simp
theorem Gy(l:List (α×β))(a:α)(v:β):(cJ l a v).length≤l.length+1:=by
 unfold cJ;split
 ·simp
 ·simp
end
def dG(l:List Lab)(p:List UInt8):Nat:=(l.filter fun x=>x.may && decide (x.pool=p)).length
variable{l:List Lab}{p:List UInt8}
theorem sQ(l:List Lab)(x:Lab)(p:List UInt8):dG (l++[x]) p=dG l p+if x.may=true/\x.pool=p then 1 else 0:=by
 unfold dG;rw[List.filter_append,List.length_append]
 congr 1
 by_cases h:x.may=true/\x.pool=p
 ·rw[if_pos h];simp[h.1,h.2]
 ·rw[if_neg h]
  have:(x.may && decide (x.pool=p))=false:=by
   cases c:x.may
   ·rfl
   ·simp only[Bool.true_and,decide_eq_false_iff_not];exact fun e=>h ⟨c,e⟩
  simp[this]
theorem Oc(h:0<dG l p):∃x∈l,x.may=true/\x.pool=p:=by
 unfold dG at h;obtain⟨x,c⟩:=List.exists_mem_of_length_pos h;rw[List.mem_filter] at c;simp only[Bool.and_eq_true,decide_eq_true_eq] at c;exact⟨x,c.1,c.2⟩
def vX(m:List (List UInt8×Int))(x:Lab):List (List UInt8×Int):=if x.may=true then cJ m x.pool ((eE m x.pool).getD 0+1) else m
def dQ(l:List Lab):List (List UInt8×Int):=l.foldl vX []
theorem vY(l:List Lab)(x:Lab):dQ (l++[x])=vX (dQ l) x:=by simp[dQ,List.foldl_append]
theorem BU:∀(l:List Lab) (p:List UInt8),eE (dQ l) p=if dG l p=0 then none else some (dG l p:Int):=by
 intro l
 induction l using LV with
 | nil=>intro p;rfl
 | snoc l x f =>
   intro p;rw[vY];unfold vX
   by_cases d:x.may=true/\x.pool=p
   ·obtain⟨c,rfl⟩:=d
    have e:dG (l++[x]) x.pool=dG l x.pool+1:=by rw[sQ,if_pos ⟨c,rfl⟩]
    rw[e,if_pos c,tD,if_pos rfl,if_neg (by omega),f]
    by_cases h0:dG l x.pool=0
    ·rw[if_pos h0,h0];rfl
    ·rw[if_neg h0];simp
   ·have e:dG (l++[x]) p=dG l p:=by rw[sQ,if_neg d,Nat.add_zero]
    rw[e]
    by_cases c:x.may=true
    ·rw[if_pos c,tD,if_neg (fun e=>d ⟨c,e.symm⟩),f]
    ·rw[if_neg c,f]
theorem BV(l:List Lab)(p:List UInt8):(eE (dQ l) p).getD 0=(dG l p:Int):=by
 rw[BU]
 by_cases h:dG l p=0
 ·rw[if_pos h,h];rfl
 ·rw[if_neg h];rfl
theorem Jv(l:List Lab)(p:List UInt8):p∈(dQ l).map (·.1)↔0<dG l p:=by
 rw[←wI,BU]
 by_cases h:dG l p=0
 ·rw[if_pos h,h];simp
 ·rw[if_neg h];simp;omega
theorem Dy(l:List Lab):(dQ l).length≤l.length:=by
 induction l using LV with
 | nil=>simp[dQ]
 | snoc l x c =>
   rw[vY,List.length_append];unfold vX;split
   ·have:=Gy (dQ l) x.pool ((eE (dQ l) x.pool).getD 0+1);simp;omega
   ·simp;omega
def vZ:List UInt8:=List.replicate 32 0
def wA(l:List Lab)(s:List UInt8×Nat)(p:List UInt8):List UInt8×Nat:=if s.2<dG l p then (p,dG l p) else s
def dF(l:List Lab):List (List UInt8):=oS ((dQ l).map (·.1))
def kF(l:List Lab):List UInt8×Nat:=(dF l).foldl (wA l) (vZ,0)
def lU(l:List Lab)(c:List (List UInt8))(s:List UInt8×Nat):Prop:=
 (s.2=0/\s.1=vZ/\∀p∈c,dG l p=0)\/(0<s.2/\s.1∈c/\dG l s.1=s.2/\∀p∈c,dG l p≤s.2/\(dG l p=s.2->dP p s.1=false))
theorem lU.nil(l:List Lab):lU l [] (vZ,0):=.inl ⟨rfl,rfl,fun p c=>by cases c⟩
theorem lU.stepA{j:List (List UInt8)}{s:List UInt8×Nat}(h:lU l j s)(m:∀q∈j,dP p q=false):lU l (j++[p]) (wA l s p):=by
 unfold Go.Proofs.YtoeinblfcbpcmaaGreatDoor.wA
 by_cases k:s.2<dG l p
 ·rw[if_pos k]
  refine .inr ⟨by show 0<dG l p;omega,by simp,rfl,fun q c=>?_⟩;simp only[List.mem_append,List.mem_singleton] at c;rcases c with c|rfl
  ·rcases h with⟨g,d,f⟩|⟨g,d,f,i⟩
   ·have:=f q c;exact⟨by show _≤dG l p;omega,fun e=>absurd (show dG l q=dG l p from e) (by omega)⟩
   ·have:=(i q c).1;exact⟨by show _≤dG l p;omega,fun e=>absurd (show dG l q=dG l p from e) (by omega)⟩
  ·exact⟨Nat.le_refl _,fun _=>Ak _⟩
 ·rw[if_neg k]
  rcases h with⟨g,d,f⟩|⟨g,d,f,i⟩
  ·refine .inl ⟨g,d,fun q c=>?_⟩
   simp only[List.mem_append,List.mem_singleton] at c;rcases c with c|rfl
   ·exact f q c
   ·omega
  ·refine .inr ⟨g,by simp[d],f,fun q c=>?_⟩
   simp only[List.mem_append,List.mem_singleton] at c;rcases c with c|rfl
   ·exact i q c
   ·exact⟨by omega,fun _=>m _ d⟩
theorem lU.foldA:∀(d c:List (List UInt8)) (s:List UInt8×Nat),lU l c s->(c++d).Pairwise (fun x y=>(!dP y x)=true)->lU l (c++d) (d.foldl (Go.Proofs.YtoeinblfcbpcmaaGreatDoor.wA l) s)
 | [],c,s,h,_=>by simpa using h
 | q::d,c,s,h,e=>by
   rw[List.foldl_cons]
   have f:=h.stepA (p:=q) fun x g=>by
    have:=(List.pairwise_append.1 e).2.2 x g q (by simp)
    simpa using this
   have:=lU.foldA d (c++[q]) _ f (by simpa using e)
   simpa using this
theorem Jw(l:List Lab):lU l (dF l) (kF l):=by
 have:=lU.foldA (l:=l) (dF l) [] (vZ,0) (lU.nil l) (by rw[List.nil_append];exact List.pairwise_mergeSort CA A1 ((dQ l).map (·.1)));rw[List.nil_append] at this;exact this
theorem rV(l:List Lab)(p:List UInt8):p∈dF l↔0<dG l p:=by rw[dF,LU,Jv]
set_option linter.unusedVariables false
theorem Jy{q:List UInt8}(f:0<dG l q)(h:∀p,p≠q->dG l p<dG l q):(kF l).1=q/\0<(kF l).2:=by
 rcases Jw l with⟨c,g,d⟩|⟨c,g,d,i⟩
 ·have:=d q ((rV l q).2 f);omega
 ·refine⟨?_,c⟩
  by_cases e:(kF l).1=q
  ·exact e
  ·have j:=h _ e
   have k:=(i q ((rV l q).2 f)).1;omega
end
end Go.Proofs.YtoeinblfcbpcmaaGreatDoor
