import Derived.Test.YtiinnfhjpaeffaaGreatW1
import Derived.Shelf.SlSortCmp.NoneTotal
namespace Go.Proofs.YtiinnfhjpaeffaaGreat
set_option maxHeartbeats 64000000
set_option maxRecDepth 100000
set_option linter.unusedVariables false
section
open Go.RowKit Go.Sort
section
variable {α:Type}{enc:α->List Value}{k:Nat}
variable [Inhabited α]
theorem yD(hk:∀x,(enc x).length=k)(h0:0<k)(d:Array α):flatK enc k d=(d.toList.flatMap enc).toArray:=by
 apply Array.ext';apply List.ext_getElem?;intro t;rw[List.toList_toArray,wU hk h0]
 by_cases h:t<d.size*k
 ·have hd:t / k<d.size:=(Nat.div_lt_iff_lt_mul h0).2 h
  have hm:t % k<k:=Nat.mod_lt _ h0;have hg:=get_flatK enc k d t h;rw[Array.getElem?_toList,Array.getElem?_eq_getElem (by simpa using h)];rw[getElem!_pos _ _ (by simpa using h)] at hg;rw[hg,Array.getElem?_toList,Array.getElem?_eq_getElem hd,Option.bind_some,getElem!_pos d _ hd,getElem!_pos _ _ (by rw[hk];exact hm),List.getElem?_eq_getElem (by rw[hk];exact hm)]
 ·rw[Array.getElem?_toList,Array.getElem?_eq_none (by simpa using h),Array.getElem?_toList,Array.getElem?_eq_none]
  ·rfl
  ·exact(Nat.le_div_iff_mul_le h0).2 (by omega)
theorem GZ{w:World}{g:Nat}{cur:Array Value}{e:TypeId}{ys:List α}(hk:∀x,(enc x).length=k)(h0:0<k)(hb:w.heap[g]?=some (.cells cur e (0,0)))(ht:cur.toList.take (ys.length*k)=ys.flatMap enc) :
 HoldsK enc k w g 0 ys.toArray:=by
 unfold HoldsK;intro j hj;rw[yD hk h0] at hj ⊢;simp only[List.size_toArray] at hj;refine⟨?_,frozen_of_row w g _ _ _ hb⟩;rw[Nat.zero_add,cell_of_row w g _ _ _ _ hb]
 have h1:(cur.toList.take (ys.length*k))[j]?=cur[j]?:=by
  rw[List.getElem?_take,if_pos (by rw[pE hk] at hj;exact hj),Array.getElem?_toList]
 rw[←h1,ht,id,getElem!_pos _ _ (by simpa using hj),List.getElem?_eq_getElem hj];simp
theorem Fh{w:World}{g m:Nat}{cur:Array Value}{e:TypeId}{dk:Array α}{os:Array Obj}(hk:∀x,(enc x).length=k)(h0:0<k)(hb:w.heap[g]?=some (.cells cur e (0,0))) :
 (sortWorldK enc k w g 0 m dk os).heap[g]?=some (.cells (putCells id 0 (flatK enc k dk) cur) e (0,0)):=by
 have hlt:g<w.heap.size:=(Array.getElem?_eq_some_iff.1 hb).1;unfold sortWorldK putRowK putRow mapBlock grow;rw[Array.getElem?_append_left (by simpa using hlt),Array.getElem?_modify,if_pos rfl];simp only[heap_ahead,hb,Option.map_some];rfl
theorem DX{cur:Array Value}{dk:Array α}(hk:∀x,(enc x).length=k)(h0:0<k)(hs:dk.size*k≤cur.size):(putCells id 0 (flatK enc k dk) cur).toList.take (dk.size*k)=dk.toList.flatMap enc:=by
 apply List.ext_getElem?;intro j;have hfl:(dk.toList.flatMap enc).length=dk.size*k:=by rw[pE hk];simp
 rw[List.getElem?_take]
 by_cases hj:j<dk.size*k
 ·rw[if_pos hj,Array.getElem?_toList]
  unfold putCells;rw[Array.getElem?_mapIdx,Array.getElem?_eq_getElem (by omega),Option.map_some,yD hk h0];simp only[List.size_toArray,Nat.zero_add,Nat.sub_zero,hfl,Nat.zero_le,true_and,if_pos hj,id];rw[getElem!_pos _ _ (by simpa [hfl] using hj),List.getElem?_eq_getElem (by rw[hfl];exact hj)];simp
 ·rw[if_neg hj,List.getElem?_eq_none (by rw[hfl];omega)]
theorem DY(enc:α->List Value)(k:Nat)(w:World)(g m:Nat)(dk:Array α)(os:Array Obj):aA (fun i=>i=g) w (sortWorldK enc k w g 0 m dk os):=by
 refine⟨rfl,rfl,rfl,by simp[sortWorldK,putRowK,putRow,mapBlock,grow],fun i hi hne=>?_⟩;unfold sortWorldK putRowK putRow mapBlock grow;rw[Array.getElem?_append_left (by simpa using hi),Array.getElem?_modify,if_neg (fun e=>hne e.symm)];rfl
theorem DZ{w:World}{base g n cap m:Nat}{e:TypeId}{xs:List Value}{dk:Array α}{os:Array Obj}(hk:∀x,(enc x).length=k)(h0:0<k)(ho:w.ownsRow base e k (.slice (some ⟨g,0,none⟩) n cap) n xs)(hn:dk.size=n) :
 (sortWorldK enc k w g 0 m dk os).ownsRow base e k (.slice (some ⟨g,0,none⟩) n cap) n (dk.toList.flatMap enc):=by
 rcases ho.2 with⟨h,-⟩|⟨g',cap',cur,h,hb,hh,h1,h2,h3,h4⟩
 ·cases h
 ·cases h
  have hs:dk.size*k≤cur.size:=by rw[h3,hn];exact Nat.mul_le_mul_right _ h1
  refine⟨by rw[pE hk];simp[hn],.inr ⟨g,cap,_,rfl,hb,Fh hk h0 hh,h1,h2,?_,?_⟩⟩
  ·simp[putCells,h3]
  ·rw[←hn];exact DX hk h0 hs
end
end
end Go.Proofs.YtiinnfhjpaeffaaGreat
