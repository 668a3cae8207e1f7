/-
  NARROWER THAN 'FOR EVERY INPUT', by the rows' own cells (each row's printed sentence says how): UberKnown: laid · UberBack: laid · UberTorn: laid.
  DERIVED. THE GIVEN ROWS OF THIS SEAT. 3 by the template 'for every input the law returns true; each argument reads behind the call as it read before'; 0 by the template 'total and deterministic' (their statements: YtpkpopgcfgonoaaDoorTotals.lean).
  GIVEN WITH THE SEED: the statements are not yours to turn. If you find one false, say at which input.
  Laid BY PROGRAM, IN A SANDBOX (cutbox-rows.mjs): the forced cells as the released guide's own fill.sh prints them over the translation 7628eaeda1eb6312… (all of the seat's roots in one cut). By AI agents, Wed Nov 11 2026. No macro, syntax, notation, axiom, sorry.
-/
import Derived.Test.YtpkpopgcfgonoaaDoorChecked
import GoSem.Claim
import GoSem.ClaimJoined
import GoSem.ClaimMapViews
import Derived.JoinedTies
import Derived.KernelRfl
namespace Go.Proofs.YtpkpopgcfgonoaaDoor
/- THE CELL 'sum', in the pinned program and in every row, IS THE sha256 OF THE DUMP (.gsa) THAT YtpkpopgcfgonoaaDoorProg.lean LOADS. Nothing in Lean hashes anything: it is a label: what it is worth is what the hold of that sum in a sandbox is worth. -/
noncomputable def Tryd.pinned : Pinned := { name := "ytpkpopgcfgonoaadoor", sum := "7628eaeda1eb6312f99210a55438e4549a163a49e9328609809221a179e8b717", checked := Tryd.checked }
namespace Rows
def none {H : Type} : Left H := { results := [], args := [] }

/- WHAT THE LISTED PACKAGE-LEVEL VARIABLES READ AS WHEN THE CALL BEGINS. Each datum BY PROGRAM (the guide's laid-datum.mjs) off the statement by which the dump's own 'gosem.cut.vars' lays the variable. In a bare row this is a premise. The card (YtpkpopgcfgonoaaDoorCards.lean) ties it to the program's text. -/
def laid_caulker_uber_errField {H : Type} : DataW H := .iface "*errors.errorString" (.ptr (.agg [.lit (.string [97, 32, 102, 105, 101, 108, 100])]))
def laid_caulker_uber_errRoot {H : Type} : DataW H := .iface "*errors.errorString" (.ptr (.agg [.lit (.string [97, 32, 114, 111, 111, 116])]))

/-- 'caulkerlaw09.UberKnown': WHATEVER THE INPUT: true; the input reads as it did. -/
def uberKnownSpec : ChangeSpec := { name := "uberKnown", fn := fun _ => fun
  | [] => { results := [.lit (.bool true)], args := [] }
  | _ => none }
def uberKnownRow : OpenClaim := { program := "ytpkpopgcfgonoaadoor", sum := "7628eaeda1eb6312f99210a55438e4549a163a49e9328609809221a179e8b717", func := "caulker/caulkerlaw09.UberKnown", spec := "uberKnown", inPlace := ["internal/reflectlite.TypeOf"], unfollowed := true, recurses := true, named := ["caulker/uber.errField", "caulker/uber.errRoot"], apart := false, laid := [("caulker/uber.errField", laid_caulker_uber_errField), ("caulker/uber.errRoot", laid_caulker_uber_errRoot)] }
def UberKnownSaid : Prop := uberKnownRow.holds Tryd.pinned (OpenSpec.ofChange uberKnownSpec)

/-- ITS FALSE NEIGHBOUR: 'it returns false'. Refute it at one input. -/
def uberKnownWrong : ChangeSpec := { name := "uberKnown", fn := fun _ => fun
  | [] => { results := [.lit (.bool false)], args := [] }
  | _ => none }
def UberKnownWrongFalsely : Prop := uberKnownRow.holds Tryd.pinned (OpenSpec.ofChange uberKnownWrong)

/-- 'caulkerlaw09.UberBack': WHATEVER THE INPUT: true; the input reads as it did. -/
def uberBackSpec : ChangeSpec := { name := "uberBack", fn := fun _ => fun
  | [d1, d2] => { results := [.lit (.bool true)], args := [d1, d2] }
  | _ => none }
def uberBackRow : OpenClaim := { program := "ytpkpopgcfgonoaadoor", sum := "7628eaeda1eb6312f99210a55438e4549a163a49e9328609809221a179e8b717", func := "caulker/caulkerlaw09.UberBack", spec := "uberBack", inPlace := ["internal/reflectlite.TypeOf"], unfollowed := true, recurses := true, named := ["caulker/uber.errField", "caulker/uber.errRoot"], apart := false, laid := [("caulker/uber.errField", laid_caulker_uber_errField), ("caulker/uber.errRoot", laid_caulker_uber_errRoot)] }
def UberBackSaid : Prop := uberBackRow.holds Tryd.pinned (OpenSpec.ofChange uberBackSpec)

/-- ITS FALSE NEIGHBOUR: 'it returns false'. Refute it at one input. -/
def uberBackWrong : ChangeSpec := { name := "uberBack", fn := fun _ => fun
  | [d1, d2] => { results := [.lit (.bool false)], args := [d1, d2] }
  | _ => none }
def UberBackWrongFalsely : Prop := uberBackRow.holds Tryd.pinned (OpenSpec.ofChange uberBackWrong)

/-- 'caulkerlaw09.UberTorn': WHATEVER THE INPUT: true; the input reads as it did. -/
def uberTornSpec : ChangeSpec := { name := "uberTorn", fn := fun _ => fun
  | [d1, d2, d3, d4] => { results := [.lit (.bool true)], args := [d1, d2, d3, d4] }
  | _ => none }
def uberTornRow : OpenClaim := { program := "ytpkpopgcfgonoaadoor", sum := "7628eaeda1eb6312f99210a55438e4549a163a49e9328609809221a179e8b717", func := "caulker/caulkerlaw09.UberTorn", spec := "uberTorn", inPlace := ["internal/reflectlite.TypeOf"], unfollowed := true, recurses := true, named := ["caulker/uber.errField", "caulker/uber.errRoot"], apart := false, laid := [("caulker/uber.errField", laid_caulker_uber_errField), ("caulker/uber.errRoot", laid_caulker_uber_errRoot)] }
def UberTornSaid : Prop := uberTornRow.holds Tryd.pinned (OpenSpec.ofChange uberTornSpec)

/-- ITS FALSE NEIGHBOUR: 'it returns false'. Refute it at one input. -/
def uberTornWrong : ChangeSpec := { name := "uberTorn", fn := fun _ => fun
  | [d1, d2, d3, d4] => { results := [.lit (.bool false)], args := [d1, d2, d3, d4] }
  | _ => none }
def UberTornWrongFalsely : Prop := uberTornRow.holds Tryd.pinned (OpenSpec.ofChange uberTornWrong)

/- THE SECOND FORM. 'bulk': how many values and letters a reading holds, each counted each time it is reached (what is shared counts as often as it is met; a slice's spare places count too). A statement '..UptoSaid' is the law's where the arguments, and the package variables that the reading takes, are together of bulk at most 1048576: NARROWER than '..Said'. Prove '..Said' where nothing that the law and all that it calls make is longer than what came in: it says more and counts as full. Else prove '..UptoSaid'. A law counts once. -/
mutual
def uptoBulk {H : Type} : DataW H → Nat
  | .lit (.string bytes) => bytes.length + 1
  | .lit _ => 1
  | .nil => 1
  | .ptr d => uptoBulk d + 1
  | .slice elems spare => uptoBulkAll elems + uptoBulkAll spare + 1
  | .agg parts => uptoBulkAll parts + 1
  | .iface _ d => uptoBulk d + 1
  | .map entries => uptoBulkEntries entries + 1
  | .held _ => 1
def uptoBulkAll {H : Type} : List (DataW H) → Nat
  | [] => 0
  | d :: r => uptoBulk d + uptoBulkAll r
def uptoBulkEntries {H : Type} : List (Lit × DataW H) → Nat
  | [] => 0
  | x :: r => uptoBulkEntry x + uptoBulkEntries r
def uptoBulkEntry {H : Type} : Lit × DataW H → Nat
  | (.string bytes, d) => bytes.length + uptoBulk d + 1
  | (_, d) => uptoBulk d + 1
 end
def uptoSmall : (H : Type) → List (DataW H) → Bool := fun _ ds => decide (uptoBulkAll ds ≤ 1048576)
def OpenSpec.upto (s : _root_.Go.ChangeSpec) : _root_.Go.OpenSpec := { _root_.Go.OpenSpec.ofChange s with cond := some uptoSmall }

/-- 'caulkerlaw09.UberKnown', WHERE WHAT IT READS IS OF BULK AT MOST 1048576: true; the input reads as it did. -/
def uberKnownUptoRow : OpenClaim := { program := "ytpkpopgcfgonoaadoor", sum := "7628eaeda1eb6312f99210a55438e4549a163a49e9328609809221a179e8b717", func := "caulker/caulkerlaw09.UberKnown", spec := "uberKnown", inPlace := ["internal/reflectlite.TypeOf"], unfollowed := true, recurses := true, named := ["caulker/uber.errField", "caulker/uber.errRoot"], apart := false, laid := [("caulker/uber.errField", laid_caulker_uber_errField), ("caulker/uber.errRoot", laid_caulker_uber_errRoot)], narrowed := true }
def UberKnownUptoSaid : Prop := uberKnownUptoRow.holds Tryd.pinned (OpenSpec.upto uberKnownSpec)

/-- 'caulkerlaw09.UberBack', WHERE WHAT IT READS IS OF BULK AT MOST 1048576: true; the input reads as it did. -/
def uberBackUptoRow : OpenClaim := { program := "ytpkpopgcfgonoaadoor", sum := "7628eaeda1eb6312f99210a55438e4549a163a49e9328609809221a179e8b717", func := "caulker/caulkerlaw09.UberBack", spec := "uberBack", inPlace := ["internal/reflectlite.TypeOf"], unfollowed := true, recurses := true, named := ["caulker/uber.errField", "caulker/uber.errRoot"], apart := false, laid := [("caulker/uber.errField", laid_caulker_uber_errField), ("caulker/uber.errRoot", laid_caulker_uber_errRoot)], narrowed := true }
def UberBackUptoSaid : Prop := uberBackUptoRow.holds Tryd.pinned (OpenSpec.upto uberBackSpec)

/-- 'caulkerlaw09.UberTorn', WHERE WHAT IT READS IS OF BULK AT MOST 1048576: true; the input reads as it did. -/
def uberTornUptoRow : OpenClaim := { program := "ytpkpopgcfgonoaadoor", sum := "7628eaeda1eb6312f99210a55438e4549a163a49e9328609809221a179e8b717", func := "caulker/caulkerlaw09.UberTorn", spec := "uberTorn", inPlace := ["internal/reflectlite.TypeOf"], unfollowed := true, recurses := true, named := ["caulker/uber.errField", "caulker/uber.errRoot"], apart := false, laid := [("caulker/uber.errField", laid_caulker_uber_errField), ("caulker/uber.errRoot", laid_caulker_uber_errRoot)], narrowed := true }
def UberTornUptoSaid : Prop := uberTornUptoRow.holds Tryd.pinned (OpenSpec.upto uberTornSpec)

end Rows
end Go.Proofs.YtpkpopgcfgonoaaDoor
