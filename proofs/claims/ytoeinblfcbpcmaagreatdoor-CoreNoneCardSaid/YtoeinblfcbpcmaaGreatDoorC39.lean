import Derived.Test.YtoeinblfcbpcmaaGreatDoorC18
namespace Go.Proofs.YtoeinblfcbpcmaaGreatDoor
open Tryz
set_option maxHeartbeats 0
set_option maxRecDepth 100000
set_option linter.unusedVariables false
section
open Go.RowKit Go.Maps Go.ChangeMaps
def idV(l:List UInt8):Value:=.agg (l.map vb).toArray
def lL(l:List UInt8):Prop:=l.length=32
theorem PM{x y:UInt8}(h:vb x=vb y):x=y:=by
 unfold vb at h;injection h with _ a
 exact UInt8.toNat_inj.1 (by omega)
theorem Gw{a b:List UInt8}(h:a.map vb=b.map vb):a=b:=by
 induction a generalizing b with
 | nil=>cases b with
   | nil=>rfl
   | cons y b=>simp at h
 | cons x a e=>cases b with
   | nil=>simp at h
   | cons y b =>
     rw[List.map_cons,List.map_cons] at h;injection h with c d
     rw[PM c,e d]
theorem Dv{α β:Type}{f:α->Option β}:∀{l:List α},(∀x∈l,∃y,f x=some y)->∃ys,l.mapM f=some ys
 | [],_=>⟨[],rfl⟩
 | x::l,h=>by
   obtain⟨y,b⟩:=h x (by simp);obtain⟨ys,a⟩:=Dv (l:=l) fun z c=>h z (by simp[c])
   exact⟨y::ys,by simp[List.mapM_cons,b,a]⟩
theorem Js(d:Nat)(b:UInt8):prog.keyLits (d+1) 5 [vb b]=some [.int .u8 b.toNat]:=by
 have a:(Lit.int .u8 (b.toNat:Int)).wf=true:=Go.WalkArith.wf_u8 (by have:=b.toNat_lt;omega);simp[Program.keyLits,underlying5,vb,a]
theorem LR:laidOutB prog=true:=by kernel_rfl
theorem PN:Keyed prog 31:=Keyed.of_law (deep_law_gate LR (of_decide_eq_true (by kernel_rfl)) (of_decide_eq_true (by kernel_rfl)) (by kernel_rfl) (by rw[underlying31]))
theorem QW(l:List UInt8)(h:lL l):∃x,keyOf prog 31 (idV l)=some x:=by
 have g:prog.keyType 31=true:=by kernel_rfl
 have j:(idV l).formed prog 31=true:=by
  have b:prog.cellsOf 31=32:=by kernel_rfl
  have e:l.length=32:=h;simp[Value.formed,idV,underlying31,b,e]
 have k:∃ys,prog.keyLits (prog.types.size+1) 31 (idV l).cells.toList=some ys:=by
  have b:prog.cellsOf 31=32:=by kernel_rfl
  have o:prog.cellsOf 5=1:=by kernel_rfl
  obtain⟨d,m⟩:∃d,prog.types.size=d+1:=⟨prog.types.size-1,by have:0<prog.types.size:=of_decide_eq_true (by kernel_rfl);omega⟩
  rw[m];have n:(idV l).cells.toList=l.map vb:=by simp[idV,Value.cells]
  rw[n];unfold Program.keyLits;rw[underlying31];simp only[b,o,List.length_map];rw[if_pos (show l.length=32 from h)]
  obtain⟨ys,a⟩:=Dv (f:=fun i=>prog.keyLits (d+1) 5 (((l.map vb).drop (i*1)).take 1)) (l:=List.range 32) (fun i c=>by
   rw[List.mem_range] at c
   have:((l.map vb).drop (i*1)).take 1=[vb (l[i]'(by rw[h];exact c))]:=by
    rw[Nat.mul_one];rw[List.drop_eq_getElem_cons (by rw[List.length_map,show l.length=32 from h];exact c)];simp
   rw[this];exact⟨_,Js d _⟩)
  exact⟨ys.flatten,by rw[a];rfl⟩
 obtain⟨ys,a⟩:=k;refine⟨.string (keyBytes ys),?_⟩;unfold keyOf;rw[underlying31];simp only[g,j,Bool.and_self,if_true];rw[a];rfl
theorem sP:kH prog 31 lL idV where
 law:=PN
 key:=QW
 inj a c _ _ h:=by
  unfold idV at h;injection h with b
  have d:a.map vb=c.map vb:=congrArg Array.toList b;exact Gw d
end
end Go.Proofs.YtoeinblfcbpcmaaGreatDoor
