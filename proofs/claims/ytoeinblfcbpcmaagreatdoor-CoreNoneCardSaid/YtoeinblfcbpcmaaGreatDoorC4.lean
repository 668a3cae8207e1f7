import Derived.Test.YtoeinblfcbpcmaaGreatDoorC1
import Derived.Great.BuildSlice
namespace Go.Proofs.YtoeinblfcbpcmaaGreatDoor
set_option maxHeartbeats 0
set_option maxRecDepth 100000
set_option linter.unusedVariables false
section
open Go.RowKit
variable{P:Program}{ops:Array Oper}{rest:List Oper}{o:Oper}{a:Act}{w:World}{Q:Exit->Act->World->Prop}{z:Value}{size bytes:Nat}
theorem A8:∀(b c:List Value) (d:Array Value) (o:Nat),spl d o (b++c)=spl (spl d o b) (o+b.length) c
 | [],c,d,o=>by simp[spl]
 | v::b,c,d,o=>by
   rw[List.cons_append,spl,spl,A8 b c,List.length_cons]
   congr 1
   omega
theorem CI(off:Nat):∀(c:List Value) (n:Nat) (b:Array Value),(c.zipIdx n).foldl (fun(b:Array Value) (d:Value×Nat)=>b.setIfInBounds (off+d.2) d.1) b=spl b (off+n) c
 | [],_,_=>rfl
 | v::c,n,b=>by
   rw[List.zipIdx_cons,List.foldl_cons,CI off c (n+1),spl];rfl
theorem DH(off:Nat)(d:List Value)(b:Array Value):(d.toArray.zipIdx.foldl (fun(b:Array Value) (x:Value×Nat)=>match x with|(c,j)=>b.setIfInBounds (off+j) c) b)=spl b off d:=by
 have h:=CI off d 0 b;rw[Nat.add_zero] at h;rw[←h,←Array.foldl_toList]
 congr 1
 simp
def kI(b:List (List Value))(k:Nat):List (Nat×Value):=(b.zipIdx k).map fun x=>(x.2,Value.agg x.1.toArray)
theorem CJ(s:Nat):∀(b:List (List Value)) (k:Nat) (cells:Array Value),(∀c∈b,c.length=s)->(k+b.length)*s≤cells.size ->
 Instr.fill (fun i=>some (i*s,s)) cells (kI b k)=some (spl cells (k*s) b.flatten)
 | [],k,cells,_,_=>by simp[kI,Instr.fill,spl]
 | c::b,k,cells,f,d=>by
   have e:c.length=s:=f c (by simp)
   have g:k*s+s≤cells.size:=by
    refine Nat.le_trans ?_ d;rw[List.length_cons,←Nat.succ_mul];exact Nat.mul_le_mul_right _ (by omega)
   have h:kI (c::b) k=(k,.agg c.toArray)::kI b (k+1):=by simp[kI,List.zipIdx_cons]
   rw[h];unfold Instr.fill;simp only[Value.cells,List.size_toArray,e];rw[if_neg (by simp;omega),DH,CJ s b (k+1) _ (fun v j=>f v (by simp[j])) (by rw[cU];rw[List.length_cons] at d;rw[show k+1+b.length=k+(b.length+1) by omega];exact d)];rw[List.flatten_cons,A8,e,Nat.succ_mul]
theorem pW(y:o.guard=none)(t e:TypeId)(len:Nat)(c:Array (Nat×Operand))(B:o.op=.buildSlice t len c)
 (q:P.underlying t=some (.slice e))(m:(P.info? e).map (fun i=>(i.zero,i.size,i.bytes))=some (some z,size,bytes)) (p:0<size)
 (b:List (List Value)) (k:∀s∈b,s.length=size) (f:len=b.length) (j:0<len) (g:len*size≤2 ^ 24)
 (d:(c.map fun(i,x)=>(i,a.eval x)).toList=kI b 0)
 (h:wpList P ops Q rest (a.put o.dst (.slice (w.heap.size) len len)) (w.alloc (.cells b.flatten.toArray e))):wpList P ops Q (o::rest) a w:=by
 obtain⟨i,A,r,l,C⟩:=info_parts m
 have n:b.flatten.length=b.length*size:=by
  clear d h f j g
  induction b with
  | nil=>simp
  | cons v s D=>rw[List.flatten_cons,List.length_append,k v (by simp),D (fun u q=>k u (by simp[q])),List.length_cons,Nat.succ_mul];omega
 refine wpList_buildSlice y t e len c B b.flatten.toArray i z q A r (by rw[l];omega) (by rw[l];have:=Nat.mul_pos j p;omega) ?_ h;rw[d,l];rw[CJ size b 0 _ k (by simp[f])];rw[Nat.zero_mul,aI _ _ (by simp[n,f])]
theorem bX(j:o.guard=none)(t e:TypeId)(x:Operand)(k:o.op=.buildSlice t 1 #[(0,x)])
 (l:P.underlying t=some (.slice e))(b:(P.info? e).map (fun i=>(i.zero,i.size,i.bytes))=some (some z,size,bytes)) (f:0<size)
 (d:List Value) (g:d.length=size) (c:size≤2 ^ 24) (m:a.eval x=.agg d.toArray)
 (h:wpList P ops Q rest (a.put o.dst (.slice (w.heap.size) 1 1)) (w.alloc (.cells d.toArray e))):wpList P ops Q (o::rest) a w:=
 pW j t e 1 _ k l b f [d] (by simpa using g) rfl (by omega) (by omega) (by simp[kI,m]) (by simpa using h)
end
end Go.Proofs.YtoeinblfcbpcmaaGreatDoor
