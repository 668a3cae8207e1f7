import Derived.Test.YtoeinblfcbpcmaaGreatDoorC33
import Derived.Test.YtoeinblfcbpcmaaGreatDoorRows
import Derived.LaidLaws
import Derived.Deep.DeepHandedRow
import Derived.Deep.DeepWitnessRowRef
import Derived.Lib.LaidIn
import Derived.Stop.LaidErr
namespace Go.Proofs.YtoeinblfcbpcmaaGreatDoor
open Go.Proofs.Tryz Go.Proofs.YtoeinblfcbpcmaaGreatDoor.Tryz
set_option maxHeartbeats 0
set_option maxRecDepth 100000
set_option linter.unusedVariables false
section
open Go.RowKit Go.ChangeShapes Go.WideShapes Go.ChangeAt
theorem OG : "*" ++ "errors.errorString" = "*errors.errorString" := by decide
theorem Q4(u : TypeId)(h : prog.typeName? 3 u = some "*errors.errorString") : u = 385 :=
 typeName_ptr_named (nm := "errors.errorString") (by rw [OG]; kernel_rfl) (by kernel_rfl) (by decide) u (by rw [OG]; exact h)
theorem PW:prog.cellsOf 415=1:=by kernel_rfl
theorem Oq:prog.cellsOf 9=1:=by kernel_rfl
theorem Me : prog.globalNamed "caulker/uber.errField" = some 0 := by kernel_rfl
theorem Ot : prog.globalNamed "caulker/uber.errRoot" = some 1 := by kernel_rfl
theorem Mf:(prog.globals[0]?).map (·.type)=some 118:=by kernel_rfl
theorem Ou:(prog.globals[1]?).map (·.type)=some 118:=by kernel_rfl
theorem Aq{W:World}{m:List MemPlace}{n:String}{g:Nat}{f:List UInt8}{h:Array Value}{fuel:Nat}{p:List MemPlace}
 (d:∀b off,MemPlace.cell b off∈m->(∃c t,W.heap[b]?=some (.cells c t (0,0)))/\∀u v,W.cell? ⟨b,off,none⟩=some (.iface u v)->Value.okWide prog W .any 0 u v)
 (j:prog.globalNamed n=some g) (l:W.var? prog n=some h)
 (o : DataW.trod (fun _ => ()) prog W 0 (fun _ => true) false fuel 118 h.toList = some (.iface "*errors.errorString" (.ptr (.agg [.lit (.string f)])), p)) (k : ∀ x ∈ MemPlace.row ⟨g, 0, none⟩ h.size ++ p, x ∈ m) :
 ∃a,W.cell? ⟨g,0,none⟩=some (esV a)/\∃c t,W.heap[a.block]?=some (.cells c t (0,0)):=by
 obtain⟨q⟩:=h
 have i:∀u v,q=[.iface u v]->Value.okWide prog W .any 0 u v:=fun u v e=>by
  subst e;exact(d g 0 (k _ (by simp[MemPlace.row]))).2 u v (by simpa using World.var?_cell j l 0)
 obtain⟨a,s,rfl,r,w,y,rfl⟩:=errorString_of_trod underlying118 Q4 underlying385 underlying415 rfl rfl underlying9 PW Oq o i;exact⟨a,by simpa using World.var?_cell j l 0,(d a.block a.off (k _ (by simp[MemPlace.row]))).1⟩
theorem FW{W : World}(h : laidMet prog [("caulker/uber.errField", Rows.laid_caulker_uber_errField), ("caulker/uber.errRoot", Rows.laid_caulker_uber_errRoot)] W) : ∃ d e, iK W d e := by
 obtain⟨D,⟨z,t0,p,w,B,E,b,i,k,f,⟨A,t1,q,y,C,F,c,j,l,g,v,s⟩,r⟩,u,a⟩:=h;obtain rfl:=Option.some.inj (Me.symm.trans b);obtain rfl:=Option.some.inj (Ot.symm.trans c);obtain rfl:=Option.some.inj (Mf.symm.trans i);obtain rfl:=Option.some.inj (Ou.symm.trans j);subst r;obtain⟨d,hF,n⟩:=Aq a b k f (fun x m=>List.mem_append_left _ m);obtain⟨e,t,o⟩:=Aq a c l g (fun x m=>List.mem_append_right _ (by rw[s];exact List.mem_append_left _ m));exact⟨d,e,hF,t,n,o⟩
noncomputable def sR(os:Os):World:=
 let N:=(World.settled prog os).heap.size
 let c:=World.holding prog os ⟨#[.cells #[.string ⟨#[97,32,102,105,101,108,100]⟩] 415,.cells #[.string ⟨#[97,32,114,111,111,116]⟩] 415],#[],[]⟩
 let put (h:Array Obj) (g:Nat) (cs:Array Value):Array Obj:=h.modify g fun
  | .cells _ t a=>.cells cs t a
  | o=>o
 { c with heap:=put (put c.heap 0 #[.iface 385 (.pointer N)]) 1 #[.iface 385 (.pointer (some ⟨N+1,0,none⟩))] }
noncomputable abbrev OH:Nat:=(World.settled prog default).heap.size
theorem Ov(os : Os)(args : Array Value) : laidMet prog [("caulker/uber.errField", Rows.laid_caulker_uber_errField), ("caulker/uber.errRoot", Rows.laid_caulker_uber_errRoot)] ((sR os).forCall (fun _ _ => 0) ⟨#[], args, []⟩).memory :=
 (LaidIn.of_run [0,1,OH,OH+1] 8 (by kernel_rfl) (by kernel_rfl) (by kernel_rfl) (by kernel_rfl)).met
end
end Go.Proofs.YtoeinblfcbpcmaaGreatDoor
