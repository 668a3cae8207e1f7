import Derived.Test.YtiinnfhjpaeffaaGreatW1
import Derived.Great.BuildSlice
namespace Go.Proofs.YtiinnfhjpaeffaaGreat
set_option maxHeartbeats 64000000
set_option maxRecDepth 100000
set_option linter.unusedVariables false
section
open Go.RowKit
theorem yB:∀(vs ws:List Value) (cs:Array Value) (o:Nat),spl cs o (vs++ws)=spl (spl cs o vs) (o+vs.length) ws
 | [],ws,cs,o=>by simp[spl]
 | v::vs,ws,cs,o=>by
   rw[List.cons_append,spl,spl,yB vs ws,List.length_cons]
   congr 1
   omega
theorem AI(off:Nat):∀(vs:List Value) (n:Nat) (cs:Array Value),(vs.zipIdx n).foldl (fun(cs:Array Value) (cj:Value×Nat)=>cs.setIfInBounds (off+cj.2) cj.1) cs=spl cs (off+n) vs
 | [],_,_=>rfl
 | v::vs,n,cs=>by
   rw[List.zipIdx_cons,List.foldl_cons,AI off vs (n+1),spl];rfl
theorem BC(off:Nat)(vs:List Value)(cs:Array Value):(vs.toArray.zipIdx.foldl (fun(cs:Array Value) (x:Value×Nat)=>match x with|(c,j)=>cs.setIfInBounds (off+j) c) cs)=spl cs off vs:=by
 have h:=AI off vs 0 cs;rw[Nat.add_zero] at h;rw[←h,←Array.foldl_toList]
 congr 1
 simp
def jF(vss:List (List Value))(k:Nat):List (Nat×Value):=(vss.zipIdx k).map fun x=>(x.2,Value.agg x.1.toArray)
theorem AJ(s:Nat):∀(vss:List (List Value)) (k:Nat) (cells:Array Value),(∀vs∈vss,vs.length=s)->(k+vss.length)*s≤cells.size ->
 Instr.fill (fun i=>some (i*s,s)) cells (jF vss k)=some (spl cells (k*s) vss.flatten)
 | [],k,cells,_,_=>by simp[jF,Instr.fill,spl]
 | vs::vss,k,cells,hs,hc=>by
   have h1:vs.length=s:=hs vs (by simp)
   have hle:k*s+s≤cells.size:=by
    refine Nat.le_trans ?_ hc;rw[List.length_cons,←Nat.succ_mul];exact Nat.mul_le_mul_right _ (by omega)
   have hp:jF (vs::vss) k=(k,.agg vs.toArray)::jF vss (k+1):=by simp[jF,List.zipIdx_cons]
   rw[hp];unfold Instr.fill;simp only[Value.cells,List.size_toArray,h1];rw[if_neg (by simp;omega),BC,AJ s vss (k+1) _ (fun v hv=>hs v (by simp[hv])) (by rw[fJ];rw[List.length_cons] at hc;rw[show k+1+vss.length=k+(vss.length+1) by omega];exact hc)];rw[List.flatten_cons,yB,h1,Nat.succ_mul]
theorem oI{P:Program}{ops:Array Oper}{rest:List Oper}{o:Oper}{a:Act}{w:World}{Q:Exit->Act->World->Prop}(hg:o.guard=none)(t e:TypeId)(len:Nat)(parts:Array (Nat×Operand))(ho:o.op=.buildSlice t len parts)
 (hu:P.underlying t=some (.slice e)){z:Value}{size bytes:Nat}(hinf:(P.info? e).map (fun i=>(i.zero,i.size,i.bytes))=some (some z,size,bytes)) (hsz:0<size)
 (vss:List (List Value)) (hvs:∀vs∈vss,vs.length=size) (hlen:len=vss.length) (hpos:0<len) (hsmall:len*size≤2 ^ 24)
 (hparts:(parts.map fun(i,x)=>(i,a.eval x)).toList=jF vss 0)
 (h:wpList P ops Q rest (a.put o.dst (.slice (some ⟨w.heap.size,0,none⟩) len len)) (w.alloc (.cells vss.flatten.toArray e))):wpList P ops Q (o::rest) a w:=by
 obtain⟨i,hi,hz0,hz1,hz2⟩:=info_parts hinf
 have hfl:vss.flatten.length=vss.length*size:=by
  clear hparts h hlen hpos hsmall
  induction vss with
  | nil=>simp
  | cons v vs ih=>rw[List.flatten_cons,List.length_append,hvs v (by simp),ih (fun u hu=>hvs u (by simp[hu])),List.length_cons,Nat.succ_mul];omega
 refine wpList_buildSlice hg t e len parts ho vss.flatten.toArray i z hu hi hz0 (by rw[hz1];omega) (by rw[hz1];have:=Nat.mul_pos hpos hsz;omega) ?_ h;rw[hparts,hz1];rw[AJ size vss 0 _ hvs (by simp[hlen])];rw[Nat.zero_mul,aI _ _ (by simp[hfl,hlen])]
theorem cC{P:Program}{ops:Array Oper}{rest:List Oper}{o:Oper}{a:Act}{w:World}{Q:Exit->Act->World->Prop}(hg:o.guard=none)(t e:TypeId)(x:Operand)(ho:o.op=.buildSlice t 1 #[(0,x)])
 (hu:P.underlying t=some (.slice e)){z:Value}{size bytes:Nat}(hinf:(P.info? e).map (fun i=>(i.zero,i.size,i.bytes))=some (some z,size,bytes)) (hsz:0<size)
 (vs:List Value) (hvs:vs.length=size) (hsmall:size≤2 ^ 24) (hx:a.eval x=.agg vs.toArray)
 (h:wpList P ops Q rest (a.put o.dst (.slice (some ⟨w.heap.size,0,none⟩) 1 1)) (w.alloc (.cells vs.toArray e))):wpList P ops Q (o::rest) a w:=
 oI hg t e 1 _ ho hu hinf hsz [vs] (by simpa using hvs) rfl (by omega) (by omega) (by simp[jF,hx]) (by simpa using h)
end
end Go.Proofs.YtiinnfhjpaeffaaGreat
