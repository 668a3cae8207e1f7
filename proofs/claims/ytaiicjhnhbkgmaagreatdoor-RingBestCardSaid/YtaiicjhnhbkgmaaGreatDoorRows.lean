/-
  NARROWER THAN 'FOR EVERY INPUT', by the rows' own cells (each row's printed sentence says how): RingBest: laid · RingOrder: laid · RingFinds: laid · RingKnown: laid · RingTurns: laid · RingLaid: laid.
  DERIVED. THE GIVEN ROWS OF THIS SEAT. 6 by the template 'for every input the law returns true; each argument reads behind the call as it read before'; 0 by the template 'total and deterministic' (their statements: YtaiicjhnhbkgmaaGreatDoorTotals.lean).
  GIVEN WITH THE SEED: the statements are not yours to turn. If you find one false, say at which input.
  Laid BY PROGRAM, IN A SANDBOX (cutbox-rows.mjs): the forced cells as the released guide's own fill.sh prints them over the translation 600d6264e806c443… (all of the seat's roots in one cut). By AI agents, Wed Nov 11 2026. No macro, syntax, notation, axiom, sorry.
-/
import Derived.Test.YtaiicjhnhbkgmaaGreatDoorChecked
import GoSem.Claim
import GoSem.ClaimJoined
import GoSem.ClaimMapViews
import Derived.JoinedTies
import Derived.KernelRfl
namespace Go.Proofs.YtaiicjhnhbkgmaaGreatDoor
/- THE CELL 'sum', in the pinned program and in every row, IS THE sha256 OF THE DUMP (.gsa) THAT YtaiicjhnhbkgmaaGreatDoorProg.lean LOADS. Nothing in Lean hashes anything: it is a label: what it is worth is what the hold of that sum in a sandbox is worth. -/
noncomputable def Tryz.pinned : Pinned := { name := "ytaiicjhnhbkgmaagreatdoor", sum := "600d6264e806c443a79fc3ddfbdb7b2b31ab39ff8f5c5a8b3135e596b9fcff9b", checked := Tryz.checked }
namespace Rows
def none {H : Type} : Left H := { results := [], args := [] }

/- WHAT THE LISTED PACKAGE-LEVEL VARIABLES READ AS WHEN THE CALL BEGINS. Each datum BY PROGRAM (the guide's laid-datum.mjs) off the statement by which the dump's own 'gosem.cut.vars' lays the variable. In a bare row this is a premise. The card (YtaiicjhnhbkgmaaGreatDoorCards.lean) ties it to the program's text. -/
def laid_caulker_uber_errField {H : Type} : DataW H := .iface "*errors.errorString" (.ptr (.agg [.lit (.string [97, 32, 102, 105, 101, 108, 100])]))
def laid_caulker_uber_errRoot {H : Type} : DataW H := .iface "*errors.errorString" (.ptr (.agg [.lit (.string [97, 32, 114, 111, 111, 116])]))

/-- 'caulkerlaw10.RingBest': WHATEVER THE INPUT: true; the input reads as it did. -/
def ringBestSpec : ChangeSpec := { name := "ringBest", fn := fun _ => fun
  | [d] => { results := [.lit (.bool true)], args := [d] }
  | _ => none }
def ringBestRow : OpenClaim := { program := "ytaiicjhnhbkgmaagreatdoor", sum := "600d6264e806c443a79fc3ddfbdb7b2b31ab39ff8f5c5a8b3135e596b9fcff9b", func := "caulker/caulkerlaw10.RingBest", spec := "ringBest", inPlace := ["internal/reflectlite.TypeOf"], unfollowed := true, recurses := true, named := ["caulker/uber.errField", "caulker/uber.errRoot"], apart := false, laid := [("caulker/uber.errField", laid_caulker_uber_errField), ("caulker/uber.errRoot", laid_caulker_uber_errRoot)] }
def RingBestSaid : Prop := ringBestRow.holds Tryz.pinned (OpenSpec.ofChange ringBestSpec)

/-- ITS FALSE NEIGHBOUR: 'it returns false'. Refute it at one input. -/
def ringBestWrong : ChangeSpec := { name := "ringBest", fn := fun _ => fun
  | [d] => { results := [.lit (.bool false)], args := [d] }
  | _ => none }
def RingBestWrongFalsely : Prop := ringBestRow.holds Tryz.pinned (OpenSpec.ofChange ringBestWrong)

/-- 'caulkerlaw10.RingOrder': WHATEVER THE INPUT: true; the input reads as it did. -/
def ringOrderSpec : ChangeSpec := { name := "ringOrder", fn := fun _ => fun
  | [d1, d2] => { results := [.lit (.bool true)], args := [d1, d2] }
  | _ => none }
def ringOrderRow : OpenClaim := { program := "ytaiicjhnhbkgmaagreatdoor", sum := "600d6264e806c443a79fc3ddfbdb7b2b31ab39ff8f5c5a8b3135e596b9fcff9b", func := "caulker/caulkerlaw10.RingOrder", spec := "ringOrder", inPlace := ["internal/reflectlite.TypeOf"], unfollowed := true, recurses := true, named := ["caulker/uber.errField", "caulker/uber.errRoot"], apart := false, laid := [("caulker/uber.errField", laid_caulker_uber_errField), ("caulker/uber.errRoot", laid_caulker_uber_errRoot)] }
def RingOrderSaid : Prop := ringOrderRow.holds Tryz.pinned (OpenSpec.ofChange ringOrderSpec)

/-- ITS FALSE NEIGHBOUR: 'it returns false'. Refute it at one input. -/
def ringOrderWrong : ChangeSpec := { name := "ringOrder", fn := fun _ => fun
  | [d1, d2] => { results := [.lit (.bool false)], args := [d1, d2] }
  | _ => none }
def RingOrderWrongFalsely : Prop := ringOrderRow.holds Tryz.pinned (OpenSpec.ofChange ringOrderWrong)

/-- 'caulkerlaw10.RingFinds': WHATEVER THE INPUT: true; the input reads as it did. -/
def ringFindsSpec : ChangeSpec := { name := "ringFinds", fn := fun _ => fun
  | [d1, d2, d3] => { results := [.lit (.bool true)], args := [d1, d2, d3] }
  | _ => none }
def ringFindsRow : OpenClaim := { program := "ytaiicjhnhbkgmaagreatdoor", sum := "600d6264e806c443a79fc3ddfbdb7b2b31ab39ff8f5c5a8b3135e596b9fcff9b", func := "caulker/caulkerlaw10.RingFinds", spec := "ringFinds", inPlace := ["internal/reflectlite.TypeOf"], unfollowed := true, recurses := true, named := ["caulker/uber.errField", "caulker/uber.errRoot"], apart := false, laid := [("caulker/uber.errField", laid_caulker_uber_errField), ("caulker/uber.errRoot", laid_caulker_uber_errRoot)] }
def RingFindsSaid : Prop := ringFindsRow.holds Tryz.pinned (OpenSpec.ofChange ringFindsSpec)

/-- ITS FALSE NEIGHBOUR: 'it returns false'. Refute it at one input. -/
def ringFindsWrong : ChangeSpec := { name := "ringFinds", fn := fun _ => fun
  | [d1, d2, d3] => { results := [.lit (.bool false)], args := [d1, d2, d3] }
  | _ => none }
def RingFindsWrongFalsely : Prop := ringFindsRow.holds Tryz.pinned (OpenSpec.ofChange ringFindsWrong)

/-- 'caulkerlaw10.RingKnown': WHATEVER THE INPUT: true; the input reads as it did. -/
def ringKnownSpec : ChangeSpec := { name := "ringKnown", fn := fun _ => fun
  | [] => { results := [.lit (.bool true)], args := [] }
  | _ => none }
def ringKnownRow : OpenClaim := { program := "ytaiicjhnhbkgmaagreatdoor", sum := "600d6264e806c443a79fc3ddfbdb7b2b31ab39ff8f5c5a8b3135e596b9fcff9b", func := "caulker/caulkerlaw10.RingKnown", spec := "ringKnown", inPlace := ["internal/reflectlite.TypeOf"], unfollowed := true, recurses := true, named := ["caulker/uber.errField", "caulker/uber.errRoot"], apart := false, laid := [("caulker/uber.errField", laid_caulker_uber_errField), ("caulker/uber.errRoot", laid_caulker_uber_errRoot)] }
def RingKnownSaid : Prop := ringKnownRow.holds Tryz.pinned (OpenSpec.ofChange ringKnownSpec)

/-- ITS FALSE NEIGHBOUR: 'it returns false'. Refute it at one input. -/
def ringKnownWrong : ChangeSpec := { name := "ringKnown", fn := fun _ => fun
  | [] => { results := [.lit (.bool false)], args := [] }
  | _ => none }
def RingKnownWrongFalsely : Prop := ringKnownRow.holds Tryz.pinned (OpenSpec.ofChange ringKnownWrong)

/-- 'caulkerlaw10.RingTurns': WHATEVER THE INPUT: true; the input reads as it did. -/
def ringTurnsSpec : ChangeSpec := { name := "ringTurns", fn := fun _ => fun
  | [d] => { results := [.lit (.bool true)], args := [d] }
  | _ => none }
def ringTurnsRow : OpenClaim := { program := "ytaiicjhnhbkgmaagreatdoor", sum := "600d6264e806c443a79fc3ddfbdb7b2b31ab39ff8f5c5a8b3135e596b9fcff9b", func := "caulker/caulkerlaw10.RingTurns", spec := "ringTurns", inPlace := ["internal/reflectlite.TypeOf"], unfollowed := true, recurses := true, named := ["caulker/uber.errField", "caulker/uber.errRoot"], apart := false, laid := [("caulker/uber.errField", laid_caulker_uber_errField), ("caulker/uber.errRoot", laid_caulker_uber_errRoot)] }
def RingTurnsSaid : Prop := ringTurnsRow.holds Tryz.pinned (OpenSpec.ofChange ringTurnsSpec)

/-- ITS FALSE NEIGHBOUR: 'it returns false'. Refute it at one input. -/
def ringTurnsWrong : ChangeSpec := { name := "ringTurns", fn := fun _ => fun
  | [d] => { results := [.lit (.bool false)], args := [d] }
  | _ => none }
def RingTurnsWrongFalsely : Prop := ringTurnsRow.holds Tryz.pinned (OpenSpec.ofChange ringTurnsWrong)

/-- 'caulkerlaw10.RingLaid': WHATEVER THE INPUT: true; the input reads as it did. -/
def ringLaidSpec : ChangeSpec := { name := "ringLaid", fn := fun _ => fun
  | [d1, d2, d3] => { results := [.lit (.bool true)], args := [d1, d2, d3] }
  | _ => none }
def ringLaidRow : OpenClaim := { program := "ytaiicjhnhbkgmaagreatdoor", sum := "600d6264e806c443a79fc3ddfbdb7b2b31ab39ff8f5c5a8b3135e596b9fcff9b", func := "caulker/caulkerlaw10.RingLaid", spec := "ringLaid", inPlace := ["internal/reflectlite.TypeOf"], unfollowed := true, recurses := true, named := ["caulker/uber.errField", "caulker/uber.errRoot"], apart := false, laid := [("caulker/uber.errField", laid_caulker_uber_errField), ("caulker/uber.errRoot", laid_caulker_uber_errRoot)] }
def RingLaidSaid : Prop := ringLaidRow.holds Tryz.pinned (OpenSpec.ofChange ringLaidSpec)

/-- ITS FALSE NEIGHBOUR: 'it returns false'. Refute it at one input. -/
def ringLaidWrong : ChangeSpec := { name := "ringLaid", fn := fun _ => fun
  | [d1, d2, d3] => { results := [.lit (.bool false)], args := [d1, d2, d3] }
  | _ => none }
def RingLaidWrongFalsely : Prop := ringLaidRow.holds Tryz.pinned (OpenSpec.ofChange ringLaidWrong)

/- THE SECOND FORM. 'bulk': how many values and letters a reading holds, each counted each time it is reached (what is shared counts as often as it is met; a slice's spare places count too). A statement '..UptoSaid' is the law's where the arguments, and the package variables that the reading takes, are together of bulk at most 1048576: NARROWER than '..Said'. Prove '..Said' where nothing that the law and all that it calls make is longer than what came in: it says more and counts as full. Else prove '..UptoSaid'. A law counts once. -/
mutual
def uptoBulk {H : Type} : DataW H → Nat
  | .lit (.string bytes) => bytes.length + 1
  | .lit _ => 1
  | .nil => 1
  | .ptr d => uptoBulk d + 1
  | .slice elems spare => uptoBulkAll elems + uptoBulkAll spare + 1
  | .agg parts => uptoBulkAll parts + 1
  | .iface _ d => uptoBulk d + 1
  | .map entries => uptoBulkEntries entries + 1
  | .held _ => 1
def uptoBulkAll {H : Type} : List (DataW H) → Nat
  | [] => 0
  | d :: r => uptoBulk d + uptoBulkAll r
def uptoBulkEntries {H : Type} : List (Lit × DataW H) → Nat
  | [] => 0
  | x :: r => uptoBulkEntry x + uptoBulkEntries r
def uptoBulkEntry {H : Type} : Lit × DataW H → Nat
  | (.string bytes, d) => bytes.length + uptoBulk d + 1
  | (_, d) => uptoBulk d + 1
 end
def uptoSmall : (H : Type) → List (DataW H) → Bool := fun _ ds => decide (uptoBulkAll ds ≤ 1048576)
def OpenSpec.upto (s : _root_.Go.ChangeSpec) : _root_.Go.OpenSpec := { _root_.Go.OpenSpec.ofChange s with cond := some uptoSmall }

/-- 'caulkerlaw10.RingBest', WHERE WHAT IT READS IS OF BULK AT MOST 1048576: true; the input reads as it did. -/
def ringBestUptoRow : OpenClaim := { program := "ytaiicjhnhbkgmaagreatdoor", sum := "600d6264e806c443a79fc3ddfbdb7b2b31ab39ff8f5c5a8b3135e596b9fcff9b", func := "caulker/caulkerlaw10.RingBest", spec := "ringBest", inPlace := ["internal/reflectlite.TypeOf"], unfollowed := true, recurses := true, named := ["caulker/uber.errField", "caulker/uber.errRoot"], apart := false, laid := [("caulker/uber.errField", laid_caulker_uber_errField), ("caulker/uber.errRoot", laid_caulker_uber_errRoot)], narrowed := true }
def RingBestUptoSaid : Prop := ringBestUptoRow.holds Tryz.pinned (OpenSpec.upto ringBestSpec)

/-- 'caulkerlaw10.RingOrder', WHERE WHAT IT READS IS OF BULK AT MOST 1048576: true; the input reads as it did. -/
def ringOrderUptoRow : OpenClaim := { program := "ytaiicjhnhbkgmaagreatdoor", sum := "600d6264e806c443a79fc3ddfbdb7b2b31ab39ff8f5c5a8b3135e596b9fcff9b", func := "caulker/caulkerlaw10.RingOrder", spec := "ringOrder", inPlace := ["internal/reflectlite.TypeOf"], unfollowed := true, recurses := true, named := ["caulker/uber.errField", "caulker/uber.errRoot"], apart := false, laid := [("caulker/uber.errField", laid_caulker_uber_errField), ("caulker/uber.errRoot", laid_caulker_uber_errRoot)], narrowed := true }
def RingOrderUptoSaid : Prop := ringOrderUptoRow.holds Tryz.pinned (OpenSpec.upto ringOrderSpec)

/-- 'caulkerlaw10.RingFinds', WHERE WHAT IT READS IS OF BULK AT MOST 1048576: true; the input reads as it did. -/
def ringFindsUptoRow : OpenClaim := { program := "ytaiicjhnhbkgmaagreatdoor", sum := "600d6264e806c443a79fc3ddfbdb7b2b31ab39ff8f5c5a8b3135e596b9fcff9b", func := "caulker/caulkerlaw10.RingFinds", spec := "ringFinds", inPlace := ["internal/reflectlite.TypeOf"], unfollowed := true, recurses := true, named := ["caulker/uber.errField", "caulker/uber.errRoot"], apart := false, laid := [("caulker/uber.errField", laid_caulker_uber_errField), ("caulker/uber.errRoot", laid_caulker_uber_errRoot)], narrowed := true }
def RingFindsUptoSaid : Prop := ringFindsUptoRow.holds Tryz.pinned (OpenSpec.upto ringFindsSpec)

/-- 'caulkerlaw10.RingKnown', WHERE WHAT IT READS IS OF BULK AT MOST 1048576: true; the input reads as it did. -/
def ringKnownUptoRow : OpenClaim := { program := "ytaiicjhnhbkgmaagreatdoor", sum := "600d6264e806c443a79fc3ddfbdb7b2b31ab39ff8f5c5a8b3135e596b9fcff9b", func := "caulker/caulkerlaw10.RingKnown", spec := "ringKnown", inPlace := ["internal/reflectlite.TypeOf"], unfollowed := true, recurses := true, named := ["caulker/uber.errField", "caulker/uber.errRoot"], apart := false, laid := [("caulker/uber.errField", laid_caulker_uber_errField), ("caulker/uber.errRoot", laid_caulker_uber_errRoot)], narrowed := true }
def RingKnownUptoSaid : Prop := ringKnownUptoRow.holds Tryz.pinned (OpenSpec.upto ringKnownSpec)

/-- 'caulkerlaw10.RingTurns', WHERE WHAT IT READS IS OF BULK AT MOST 1048576: true; the input reads as it did. -/
def ringTurnsUptoRow : OpenClaim := { program := "ytaiicjhnhbkgmaagreatdoor", sum := "600d6264e806c443a79fc3ddfbdb7b2b31ab39ff8f5c5a8b3135e596b9fcff9b", func := "caulker/caulkerlaw10.RingTurns", spec := "ringTurns", inPlace := ["internal/reflectlite.TypeOf"], unfollowed := true, recurses := true, named := ["caulker/uber.errField", "caulker/uber.errRoot"], apart := false, laid := [("caulker/uber.errField", laid_caulker_uber_errField), ("caulker/uber.errRoot", laid_caulker_uber_errRoot)], narrowed := true }
def RingTurnsUptoSaid : Prop := ringTurnsUptoRow.holds Tryz.pinned (OpenSpec.upto ringTurnsSpec)

/-- 'caulkerlaw10.RingLaid', WHERE WHAT IT READS IS OF BULK AT MOST 1048576: true; the input reads as it did. -/
def ringLaidUptoRow : OpenClaim := { program := "ytaiicjhnhbkgmaagreatdoor", sum := "600d6264e806c443a79fc3ddfbdb7b2b31ab39ff8f5c5a8b3135e596b9fcff9b", func := "caulker/caulkerlaw10.RingLaid", spec := "ringLaid", inPlace := ["internal/reflectlite.TypeOf"], unfollowed := true, recurses := true, named := ["caulker/uber.errField", "caulker/uber.errRoot"], apart := false, laid := [("caulker/uber.errField", laid_caulker_uber_errField), ("caulker/uber.errRoot", laid_caulker_uber_errRoot)], narrowed := true }
def RingLaidUptoSaid : Prop := ringLaidUptoRow.holds Tryz.pinned (OpenSpec.upto ringLaidSpec)

end Rows
end Go.Proofs.YtaiicjhnhbkgmaaGreatDoor
