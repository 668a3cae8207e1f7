/-
  What the listed package variables give a walk: two errors, each a pointer to a cell of its own; a world that lays them so.
  Conditions: none.
-/
import Derived.Test.YtaiicjhnhbkgmaaGreatDoorStepsU
import Derived.Test.YtaiicjhnhbkgmaaGreatDoorRows
import Derived.LaidLaws
import Derived.RowKitTokens
import Derived.Deep.DeepHandedRow
import Derived.Deep.DeepWitnessRowRef
import Derived.Lib.LaidIn
import Derived.Stop.LaidErr
namespace Go.Proofs.YtaiicjhnhbkgmaaGreatDoor
open Go.RowKit Go.ChangeShapes Go.WideShapes Go.ChangeAt
set_option maxRecDepth 100000
set_option linter.unusedVariables false

theorem Ustar : "*" ++ "errors.errorString" = "*errors.errorString" := by decide
theorem rowES (u : TypeId) (h : Tryz.prog.typeName? 3 u = some "*errors.errorString") : u = 187 :=
  typeName_ptr_named (nm := "errors.errorString") (by rw [Ustar]; kernel_rfl) (by kernel_rfl) (by decide) u (by rw [Ustar]; exact h)
theorem cellsES : Tryz.prog.cellsOf 218 = 1 := by kernel_rfl
theorem cellsStr : Tryz.prog.cellsOf 9 = 1 := by kernel_rfl
theorem gErrField : Tryz.prog.globalNamed "caulker/uber.errField" = some 0 := by kernel_rfl
theorem gErrRoot : Tryz.prog.globalNamed "caulker/uber.errRoot" = some 1 := by kernel_rfl
theorem tErrField : (Tryz.prog.globals[0]?).map (·.type) = some 104 := by kernel_rfl
theorem tErrRoot : (Tryz.prog.globals[1]?).map (·.type) = some 104 := by kernel_rfl
theorem sentinel_of {W : World} {ps : List MemPlace} {n : String} {g : Nat} {text : List UInt8} {cs : Array Value} {fuel : Nat} {p : List MemPlace}
    (hrows : ∀ b off, MemPlace.cell b off ∈ ps → (∃ c t, W.heap[b]? = some (.cells c t (0, 0))) ∧ ∀ u v, W.cell? ⟨b, off, none⟩ = some (.iface u v) → Value.okWide Tryz.prog W .any 0 u v)
    (hg : Tryz.prog.globalNamed n = some g) (hv : W.var? Tryz.prog n = some cs)
    (hd : DataW.trod (fun _ => ()) Tryz.prog W 0 (fun _ => true) false fuel 104 cs.toList = some (.iface "*errors.errorString" (.ptr (.agg [.lit (.string text)])), p)) (hp : ∀ x ∈ MemPlace.row ⟨g, 0, none⟩ cs.size ++ p, x ∈ ps) :
    ∃ a, W.cell? ⟨g, 0, none⟩ = some (esV a) ∧ ∃ c t, W.heap[a.block]? = some (.cells c t (0, 0)) := by
  obtain ⟨l0⟩ := cs
  have ok0 : ∀ u v, l0 = [.iface u v] → Value.okWide Tryz.prog W .any 0 u v := fun u v e => by
    subst e
    exact (hrows g 0 (hp _ (by simp [MemPlace.row]))).2 u v (by simpa using World.var?_cell hg hv 0)
  obtain ⟨a, s, rfl, hc, hs, hz, rfl⟩ := errorString_of_trod Tryz.underlying104 rowES Tryz.underlying187 Tryz.underlying218 rfl rfl Tryz.underlying9 cellsES cellsStr hd ok0
  exact ⟨a, by simpa using World.var?_cell hg hv 0, (hrows a.block a.off (hp _ (by simp [MemPlace.row]))).1⟩
theorem errG_of_laid {W : World} (h : laidMet Tryz.prog [("caulker/uber.errField", Rows.laid_caulker_uber_errField), ("caulker/uber.errRoot", Rows.laid_caulker_uber_errRoot)] W) : ∃ aF aR, ErrG W aF aR := by
  obtain ⟨ps, ⟨g0, t0, cs0, f0, p0, q0, hg0, ht0, hv0, hd0, ⟨g1, t1, cs1, f1, p1, q1, hg1, ht1, hv1, hd1, hq1, e1⟩, e0⟩, hnd, hrows⟩ := h
  obtain rfl := Option.some.inj (gErrField.symm.trans hg0)
  obtain rfl := Option.some.inj (gErrRoot.symm.trans hg1)
  obtain rfl := Option.some.inj (tErrField.symm.trans ht0)
  obtain rfl := Option.some.inj (tErrRoot.symm.trans ht1)
  subst e0
  obtain ⟨aF, hF, bF⟩ := sentinel_of hrows hg0 hv0 hd0 (fun x hx => List.mem_append_left _ hx)
  obtain ⟨aR, hR, bR⟩ := sentinel_of hrows hg1 hv1 hd1 (fun x hx => List.mem_append_right _ (by rw [e1]; exact List.mem_append_left _ hx))
  exact ⟨aF, aR, hF, hR, bF, bR⟩
/-- A world in which the two variables hold what the program's text lays. -/
noncomputable def laidWorld (os : Os) : World :=
  let N := (World.settled Tryz.prog os).heap.size
  let w0 := World.holding Tryz.prog os ⟨#[.cells #[.string ⟨#[97, 32, 102, 105, 101, 108, 100]⟩] 218, .cells #[.string ⟨#[97, 32, 114, 111, 111, 116]⟩] 218], #[], []⟩
  let put (h : Array Obj) (g : Nat) (cs : Array Value) : Array Obj := h.modify g fun
    | .cells _ t frozen => .cells cs t frozen
    | o => o
  { w0 with heap := put (put w0.heap 0 #[.iface 187 (.pointer (some ⟨N, 0, none⟩))]) 1 #[.iface 187 (.pointer (some ⟨N + 1, 0, none⟩))] }
noncomputable abbrev laidN : Nat := (World.settled Tryz.prog default).heap.size
theorem laid_met (os : Os) (args : Array Value) : laidMet Tryz.prog [("caulker/uber.errField", Rows.laid_caulker_uber_errField), ("caulker/uber.errRoot", Rows.laid_caulker_uber_errRoot)] ((laidWorld os).forCall (fun _ _ => 0) ⟨#[], args, []⟩).memory :=
  (LaidIn.of_run [0, 1, laidN, laidN + 1] 8 (by kernel_rfl) (by kernel_rfl) (by kernel_rfl) (by kernel_rfl)).met
end Go.Proofs.YtaiicjhnhbkgmaaGreatDoor
