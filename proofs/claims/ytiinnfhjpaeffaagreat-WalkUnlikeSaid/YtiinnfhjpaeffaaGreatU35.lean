import Derived.Test.YtiinnfhjpaeffaaGreatU34
namespace Go.Proofs.YtiinnfhjpaeffaaGreat
open Tryz
set_option maxHeartbeats 0
set_option maxRecDepth 100000
set_option linter.unusedVariables false
section
open Go.RowKit Go.Maps Go.ChangeMaps
section
variable {B0:Nat->Prop}{w0 w w':World}{c:Nat}{S T:Kor}{B B':Nat->Prop}{rs:List (Value×Pt)}{l:List (Nat×Array Value×TypeId)}
variable{v:Value}{p:Pt}
theorem Cs.hole0(h:Cs B0 w0 c S B [] w l):Cs B0 w0 c S B [(.slice none 0 0,Tr.hole.ptr)] w l:=
 ⟨⟨h.loc.keep,h.loc.ge,h.loc.nd,h.loc.at_,fun x f d=>h.loc.ap x f (d.imp id fun ⟨r,a,e⟩=>by cases List.mem_singleton.1 a;cases e)⟩,h.ki,fun r a=>by cases List.mem_singleton.1 a;exact aX.hole _ _,h.bb⟩
theorem Cs.laid1(h:Cs B0 w0 c S B rs w l)(m:aX w' B' v p)(j:KI w' c T B')(d:∀k,B' k->B k\/w.heap.size≤k)(f:(∃r∈rs,v=r.1)\/dQ w v)(k:aA B w w'):Cs B0 w0 c T B' ((v,p)::rs) w' l:=by
 rcases f with⟨q,g,n⟩|f
 ·refine⟨h.loc.turn2 k (fun _ e=>.inl e) (fun i o e=>(h.bb i e).elim id fun e=>by omega) ?_,j,?_,fun i e=>(d i e).elim (h.bb i) fun e=>.inr (Nat.le_trans h.keep.size e)⟩
  ·rintro i o (e|⟨r,a,e⟩)
   ·exact(d i e).elim .inl fun e=>by omega
   ·rcases List.mem_cons.1 a with rfl|a
    ·exact .inr ⟨q,g,by rw[←n];exact e⟩
    ·exact .inr ⟨r,a,e⟩
  ·intro r a
   rcases List.mem_cons.1 a with rfl|a
   ·exact m
   ·exact(h.pv r a).keep k d
 ·exact h.laid m j d f k
theorem Ds.laid1{a:Nat->Prop}{f:World}(h:Ds a f B0 w0 c S B rs w l)(d:∀i,i<f.heap.size->B i->a i)(n:aX w' B' v p)(j:KI w' c T B')(g:∀k,B' k->B k\/w.heap.size≤k)(m:(∃r∈rs,v=r.1)\/dQ w v)(k:aA B w w'):Ds a f B0 w0 c T B' ((v,p)::rs) w' l:=
 ⟨h.toCs.laid1 n j g m k,h.dr.trans' k (fun _ _ e=>e) d⟩
end
variable{v:Value}{p:Pt}{w:World}{b i:Nat}{T:TypeId}{fr:Nat×Nat}{bl:Nat->UInt8}{tc:Nat->Bool}{gc:List Value}
theorem P1(h:p.sum.length=32)(bl:Nat->UInt8)(tc a:Nat->Bool):spl (dN v p bl tc).toArray 99 (tcC a)=(dN v p bl a).toArray:=by
 have d:(aF v p++blC bl).length=99:=by rw[List.length_append,aJ h,jZ]
 have e:∀f,dN v p bl f=(aF v p++blC bl)++(tcC f++[]):=fun f=>by unfold dN;simp
 rw[e,e,←d];exact jA _ (tcC tc) (tcC a) [] (by rw[oQ,oQ])
theorem Pa(a:p.sum.length=32)(d:w.heap[b]?=some (.cells gc.toArray T fr))(h:dN v p bl tc=gc)(e:i<64):w.cell? ⟨b,99+i,none⟩=some (.bool (tc i)):=by
 refine aD d ?_;rw[←h,List.getElem?_toArray];unfold dN;rw[List.getElem?_append_right (by rw[aJ a];omega),aJ a,List.getElem?_append_right (by rw[jZ];omega),jZ,show 99+i-35-64=i by omega];exact G8 tc e
theorem yZ(a:p.sum.length=32)(d:w.heap[b]?=some (.cells gc.toArray T fr))(h:dN v p bl tc=gc)(e:i<64):w.cell? ⟨b,35+i,none⟩=some (vb (bl i)):=by
 refine aD d ?_;rw[←h,List.getElem?_toArray];unfold dN;rw[List.getElem?_append_right (by rw[aJ a];omega),aJ a,List.getElem?_append_left (by rw[jZ];omega),show 35+i-35=i by omega];exact OP bl e
def zTc:List Value:=tcC fun _=>false
theorem mP:zTc.length=64:=oQ _
theorem NK:(prog.info? 60).map (·.size)=some zTc.length:=by rw[mP];kernel_rfl
theorem Cr(w:World):(Instr.build 60 #[]).run prog w=.ok (.agg zTc.toArray) w:=by kernel_rfl
theorem QH:Hid (∀w,(zeroValue 60).run prog w=.ok (.agg zTc.toArray) w):=O (by intro w;kernel_rfl)
theorem Lx(x:Int)(a:List Value)(w:World):(Instr.field 45 (.agg (.int .i64 x::a).toArray) 0).run prog w=.ok (.int .i64 x) w:=by kernel_rfl
def nK(l:List Nat):Nat->Bool:=fun i=>decide (i∈l)
theorem Ly:nK []=fun _=>false:=by funext i;unfold nK;simp
theorem Ji(l:List Nat)(x:Nat):sM (nK l) x=nK (l++[x]):=by
 funext i
 unfold sM nK
 by_cases h:i=x
 ·rw[if_pos h,decide_eq_true (by rw[h];simp)]
 ·rw[if_neg h];simp[h]
theorem P2{n:Nat}(a:n<64):spl (tcC tc).toArray n [.bool true]=(tcC (sM tc n)).toArray:=by
 show (tcC tc).toArray.setIfInBounds n (.bool true)=_;rw[List.setIfInBounds_toArray,G9 tc a]
theorem Qv{a:List Nat}(h:Rd w 1 v a.length (jN a)){k x:Nat}(e:a[k]?=some x):∃g o d,v=.slice (some ⟨g,o,none⟩) a.length d/\w.cell? ⟨g,o+k,none⟩=some (.int .i64 (x:Int)):=
 oW h (by unfold jN;rw[List.getElem?_map,e];rfl)
theorem Hb(a:List Nat):jN a=(a.map fun(i:Nat)=>(i:Int)).map fun x=>.int .i64 x:=by unfold jN;rw[List.map_map];rfl
theorem Lz{e ys:List Ad}(h:∀a∈e,a ∉ ys):dO ((dO e).filter fun x=>decide (x∈dO ys))=[]:=by
 have:((dO e).filter fun x=>decide (x∈dO ys))=[]:=by
  rw[List.filter_eq_nil_iff];intro a d f;exact h a ((jC).1 d) ((jC).1 (of_decide_eq_true f))
 rw[this];exact List.eq_nil_iff_forall_not_mem.2 fun a d=>by cases jC.1 d
end
end Go.Proofs.YtiinnfhjpaeffaaGreat
