import Derived.Test.YtoeinblfcbpcmaaGreatDoorC1
import Derived.Shelf.SlSortCmp.NoneTotal
namespace Go.Proofs.YtoeinblfcbpcmaaGreatDoor
set_option maxHeartbeats 0
set_option maxRecDepth 100000
set_option linter.unusedVariables false
section
open Go.RowKit Go.Sort
section
variable {α:Type}{enc:α->List Value}{k:Nat}
variable [Inhabited α]
variable{w:World}{g m:Nat}{cur:Array Value}{e:TypeId}{os:Array Obj}
theorem Bb(a:∀x,(enc x).length=k)(h0:0<k)(d:Array α):flatK enc k d=(d.toList.flatMap enc).toArray:=by
 apply Array.ext';apply List.ext_getElem?;intro t;rw[List.toList_toArray,As a h0]
 by_cases h:t<d.size*k
 ·have b:t / k<d.size:=(Nat.div_lt_iff_lt_mul h0).2 h
  have f:t % k<k:=Nat.mod_lt _ h0;have c:=get_flatK enc k d t h;rw[Array.getElem?_toList,Array.getElem?_eq_getElem (by simpa using h)];rw[getElem!_pos _ _ (by simpa using h)] at c;rw[c,Array.getElem?_toList,Array.getElem?_eq_getElem b,Option.bind_some,getElem!_pos d _ b,getElem!_pos _ _ (by rw[a];exact f),List.getElem?_eq_getElem (by rw[a];exact f)]
 ·rw[Array.getElem?_toList,Array.getElem?_eq_none (by simpa using h),Array.getElem?_toList,Array.getElem?_eq_none]
  ·rfl
  ·exact(Nat.le_div_iff_mul_le h0).2 (by omega)
theorem CL{ys:List α}(c:∀x,(enc x).length=k)(h0:0<k)(b:w.heap[g]?=some (.cells cur e (0,0)))(f:cur.toList.take (ys.length*k)=ys.flatMap enc) :
 HoldsK enc k w g 0 ys.toArray:=by
 unfold HoldsK;intro j a;rw[Bb c h0] at a ⊢;simp only[List.size_toArray] at a;refine⟨?_,frozen_of_row w g _ _ _ b⟩;rw[Nat.zero_add,cell_of_row w g _ _ _ _ b]
 have d:(cur.toList.take (ys.length*k))[j]?=cur[j]?:=by
  rw[List.getElem?_take,if_pos (by rw[qY c] at a;exact a),Array.getElem?_toList]
 rw[←d,f,id,getElem!_pos _ _ (by simpa using a),List.getElem?_eq_getElem a];simp
theorem Hq{b:Array α}(d:∀x,(enc x).length=k)(h0:0<k)(c:w.heap[g]?=some (.cells cur e (0,0))) :
 (sortWorldK enc k w g 0 m b os).heap[g]?=some (.cells (putCells id 0 (flatK enc k b) cur) e (0,0)):=by
 have a:g<w.heap.size:=(Array.getElem?_eq_some_iff.1 c).1;unfold sortWorldK putRowK putRow mapBlock grow;rw[Array.getElem?_append_left (by simpa using a),Array.getElem?_modify,if_pos rfl];simp only[heap_ahead,c,Option.map_some];rfl
theorem F2{b:Array α}(d:∀x,(enc x).length=k)(h0:0<k)(f:b.size*k≤cur.size):(putCells id 0 (flatK enc k b) cur).toList.take (b.size*k)=b.toList.flatMap enc:=by
 apply List.ext_getElem?;intro j;have a:(b.toList.flatMap enc).length=b.size*k:=by rw[qY d];simp
 rw[List.getElem?_take]
 by_cases c:j<b.size*k
 ·rw[if_pos c,Array.getElem?_toList]
  unfold putCells;rw[Array.getElem?_mapIdx,Array.getElem?_eq_getElem (by omega),Option.map_some,Bb d h0];simp only[List.size_toArray,Nat.zero_add,Nat.sub_zero,a,Nat.zero_le,true_and,if_pos c,id];rw[getElem!_pos _ _ (by simpa [a] using c),List.getElem?_eq_getElem (by rw[a];exact c)];simp
 ·rw[if_neg c,List.getElem?_eq_none (by rw[a];omega)]
theorem zO(enc:α->List Value)(k:Nat)(w:World)(g m:Nat)(b:Array α)(os:Array Obj):aA (fun i=>i=g) w (sortWorldK enc k w g 0 m b os):=by
 refine⟨rfl,rfl,rfl,by simp[sortWorldK,putRowK,putRow,mapBlock,grow],fun i c a=>?_⟩;unfold sortWorldK putRowK putRow mapBlock grow;rw[Array.getElem?_append_left (by simpa using c),Array.getElem?_modify,if_neg (fun e=>a e.symm)];rfl
theorem zP{base n a:Nat}{r:List Value}{dk:Array α}(b:∀x,(enc x).length=k)(h0:0<k)(p:w.ownsRow base e k (.slice g n a) n r)(c:dk.size=n) :
 (sortWorldK enc k w g 0 m dk os).ownsRow base e k (.slice g n a) n (dk.toList.flatMap enc):=by
 rcases p.2 with⟨h,-⟩|⟨s,d,cur,h,l,o,f,j,i,t⟩
 ·cases h
 ·cases h
  have q:dk.size*k≤cur.size:=by rw[i,c];exact Nat.mul_le_mul_right _ f
  refine⟨by rw[qY b];simp[c],.inr ⟨g,a,_,rfl,l,Hq b h0 o,f,j,?_,?_⟩⟩
  ·simp[putCells,i]
  ·rw[←c];exact F2 b h0 q
end
end
end Go.Proofs.YtoeinblfcbpcmaaGreatDoor
