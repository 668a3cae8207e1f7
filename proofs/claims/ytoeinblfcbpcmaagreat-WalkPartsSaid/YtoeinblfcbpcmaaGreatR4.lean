import Derived.Test.YtoeinblfcbpcmaaGreatR1
import Derived.Great.BuildSlice
namespace Go.Proofs.YtoeinblfcbpcmaaGreat
set_option maxHeartbeats 0
set_option maxRecDepth 100000
set_option linter.unusedVariables false
section
open Go.RowKit
variable{P:Program}{ops:Array Oper}{xT:List Oper}{o:Oper}{a:Act}{w:World}{Q:Exit->Act->World->Prop}{z:Value}{size bytes:Nat}
theorem AL:∀(b c:List Value) (d:Array Value) (o:Nat),spl d o (b++c)=spl (spl d o b) (o+b.length) c
 | [],c,d,o=>by simp[spl]
 | v::b,c,d,o=>by
   rw[List.cons_append,spl,spl,AL b c,List.length_cons]
   congr 1
   omega
theorem Cp(off:Nat):∀(c:List Value) (n:Nat) (b:Array Value),(c.zipIdx n).foldl (fun(b:Array Value) (d:Value×Nat)=>b.setIfInBounds (off+d.2) d.1) b=spl b (off+n) c
 | [],_,_=>rfl
 | v::c,n,b=>by
   rw[List.zipIdx_cons,List.foldl_cons,Cp off c (n+1),spl];rfl
theorem Dv(off:Nat)(d:List Value)(b:Array Value):(d.toArray.zipIdx.foldl (fun(b:Array Value) (x:Value×Nat)=>match x with|(c,j)=>b.setIfInBounds (off+j) c) b)=spl b off d:=by
 have h:=Cp off d 0 b;rw[Nat.add_zero] at h;rw[←h,←Array.foldl_toList]
 congr 1
 simp
def jX(vss:List (List Value))(k:Nat):List (Nat×Value):=(vss.zipIdx k).map fun x=>(x.2,Value.agg x.1.toArray)
theorem Cq(s:Nat):∀(vss:List (List Value)) (k:Nat) (cells:Array Value),(∀b∈vss,b.length=s)->(k+vss.length)*s≤cells.size ->
 Instr.fill (fun i=>some (i*s,s)) cells (jX vss k)=some (spl cells (k*s) vss.flatten)
 | [],k,cells,_,_=>by simp[jX,Instr.fill,spl]
 | b::vss,k,cells,e,c=>by
   have d:b.length=s:=e b (by simp)
   have f:k*s+s≤cells.size:=by
    refine Nat.le_trans ?_ c;rw[List.length_cons,←Nat.succ_mul];exact Nat.mul_le_mul_right _ (by omega)
   have g:jX (b::vss) k=(k,.agg b.toArray)::jX vss (k+1):=by simp[jX,List.zipIdx_cons]
   rw[g];unfold Instr.fill;simp only[Value.cells,List.size_toArray,d];rw[if_neg (by simp;omega),Dv,Cq s vss (k+1) _ (fun v h=>e v (by simp[h])) (by rw[gF];rw[List.length_cons] at c;rw[show k+1+vss.length=k+(vss.length+1) by omega];exact c)];rw[List.flatten_cons,AL,d,Nat.succ_mul]
theorem pQ(r:o.guard=none)(t e:TypeId)(len:Nat)(parts:Array (Nat×Operand))(y:o.op=.buildSlice t len parts)
 (n:P.underlying t=some (.slice e))(k:(P.info? e).map (fun i=>(i.zero,i.size,i.bytes))=some (some z,size,bytes)) (m:0<size)
 (vss:List (List Value)) (g:∀q∈vss,q.length=size) (c:len=vss.length) (f:0<len) (d:len*size≤2 ^ 24)
 (b:(parts.map fun(i,x)=>(i,a.eval x)).toList=jX vss 0)
 (h:wpList P ops Q xT (a.put o.dst (.slice (w.heap.size) len len)) (w.alloc (.cells vss.flatten.toArray e))):wpList P ops Q (o::xT) a w:=by
 obtain⟨i,s,p,j,A⟩:=info_parts k
 have l:vss.flatten.length=vss.length*size:=by
  clear b h c f d
  induction vss with
  | nil=>simp
  | cons v q B=>rw[List.flatten_cons,List.length_append,g v (by simp),B (fun u n=>g u (by simp[n])),List.length_cons,Nat.succ_mul];omega
 refine wpList_buildSlice r t e len parts y vss.flatten.toArray i z n s p (by rw[j];omega) (by rw[j];have:=Nat.mul_pos f m;omega) ?_ h;rw[b,j];rw[Cq size vss 0 _ g (by simp[c])];rw[Nat.zero_mul,aS _ _ (by simp[l,c])]
theorem bZ(j:o.guard=none)(t e:TypeId)(x:Operand)(k:o.op=.buildSlice t 1 #[(0,x)])
 (l:P.underlying t=some (.slice e))(b:(P.info? e).map (fun i=>(i.zero,i.size,i.bytes))=some (some z,size,bytes)) (f:0<size)
 (d:List Value) (g:d.length=size) (c:size≤2 ^ 24) (m:a.eval x=.agg d.toArray)
 (h:wpList P ops Q xT (a.put o.dst (.slice (w.heap.size) 1 1)) (w.alloc (.cells d.toArray e))):wpList P ops Q (o::xT) a w:=
 pQ j t e 1 _ k l b f [d] (by simpa using g) rfl (by omega) (by omega) (by simp[jX,m]) (by simpa using h)
end
end Go.Proofs.YtoeinblfcbpcmaaGreat
