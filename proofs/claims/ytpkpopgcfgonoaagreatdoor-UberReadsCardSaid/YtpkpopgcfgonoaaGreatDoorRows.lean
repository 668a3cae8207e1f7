/-
  NARROWER THAN 'FOR EVERY INPUT', by the rows' own cells (each row's printed sentence says how): UberPacks: laid · UberReads: laid.
  DERIVED. THE GIVEN ROWS OF THIS SEAT. 2 by the template 'for every input the law returns true; each argument reads behind the call as it read before'; 0 by the template 'total and deterministic' (their statements: YtpkpopgcfgonoaaGreatDoorTotals.lean).
  GIVEN WITH THE SEED: the statements are not yours to turn. If you find one false, say at which input.
  Laid BY PROGRAM, IN A SANDBOX (cutbox-rows.mjs): the forced cells as the released guide's own fill.sh prints them over the translation 2b14cff120a14334… (all of the seat's roots in one cut). By AI agents, Wed Nov 11 2026. No macro, syntax, notation, axiom, sorry.
-/
import Derived.Test.YtpkpopgcfgonoaaGreatDoorChecked
import GoSem.Claim
import GoSem.ClaimJoined
import GoSem.ClaimMapViews
import Derived.JoinedTies
import Derived.KernelRfl
namespace Go.Proofs.YtpkpopgcfgonoaaGreatDoor
/- THE CELL 'sum', in the pinned program and in every row, IS THE sha256 OF THE DUMP (.gsa) THAT YtpkpopgcfgonoaaGreatDoorProg.lean LOADS. Nothing in Lean hashes anything: it is a label: what it is worth is what the hold of that sum in a sandbox is worth. -/
noncomputable def Tryz.pinned : Pinned := { name := "ytpkpopgcfgonoaagreatdoor", sum := "2b14cff120a14334022125a066b88d36a03825e4995cc12cbe8092b779af16e8", checked := Tryz.checked }
namespace Rows
def none {H : Type} : Left H := { results := [], args := [] }

/- WHAT THE LISTED PACKAGE-LEVEL VARIABLES READ AS WHEN THE CALL BEGINS. Each datum BY PROGRAM (the guide's laid-datum.mjs) off the statement by which the dump's own 'gosem.cut.vars' lays the variable. In a bare row this is a premise. The card (YtpkpopgcfgonoaaGreatDoorCards.lean) ties it to the program's text. -/
def laid_caulker_uber_errField {H : Type} : DataW H := .iface "*errors.errorString" (.ptr (.agg [.lit (.string [97, 32, 102, 105, 101, 108, 100])]))
def laid_caulker_uber_errRoot {H : Type} : DataW H := .iface "*errors.errorString" (.ptr (.agg [.lit (.string [97, 32, 114, 111, 111, 116])]))

/-- 'caulkerlaw09.UberPacks': WHATEVER THE INPUT: true; the input reads as it did. -/
def uberPacksSpec : ChangeSpec := { name := "uberPacks", fn := fun _ => fun
  | [d1, d2] => { results := [.lit (.bool true)], args := [d1, d2] }
  | _ => none }
def uberPacksRow : OpenClaim := { program := "ytpkpopgcfgonoaagreatdoor", sum := "2b14cff120a14334022125a066b88d36a03825e4995cc12cbe8092b779af16e8", func := "caulker/caulkerlaw09.UberPacks", spec := "uberPacks", inPlace := ["internal/reflectlite.TypeOf"], unfollowed := true, recurses := true, named := ["caulker/uber.errField", "caulker/uber.errRoot"], apart := false, laid := [("caulker/uber.errField", laid_caulker_uber_errField), ("caulker/uber.errRoot", laid_caulker_uber_errRoot)] }
def UberPacksSaid : Prop := uberPacksRow.holds Tryz.pinned (OpenSpec.ofChange uberPacksSpec)

/-- ITS FALSE NEIGHBOUR: 'it returns false'. Refute it at one input. -/
def uberPacksWrong : ChangeSpec := { name := "uberPacks", fn := fun _ => fun
  | [d1, d2] => { results := [.lit (.bool false)], args := [d1, d2] }
  | _ => none }
def UberPacksWrongFalsely : Prop := uberPacksRow.holds Tryz.pinned (OpenSpec.ofChange uberPacksWrong)

/-- 'caulkerlaw09.UberReads': WHATEVER THE INPUT: true; the input reads as it did. -/
def uberReadsSpec : ChangeSpec := { name := "uberReads", fn := fun _ => fun
  | [d] => { results := [.lit (.bool true)], args := [d] }
  | _ => none }
def uberReadsRow : OpenClaim := { program := "ytpkpopgcfgonoaagreatdoor", sum := "2b14cff120a14334022125a066b88d36a03825e4995cc12cbe8092b779af16e8", func := "caulker/caulkerlaw09.UberReads", spec := "uberReads", inPlace := ["internal/reflectlite.TypeOf"], unfollowed := true, recurses := true, named := ["caulker/uber.errField", "caulker/uber.errRoot"], apart := false, laid := [("caulker/uber.errField", laid_caulker_uber_errField), ("caulker/uber.errRoot", laid_caulker_uber_errRoot)] }
def UberReadsSaid : Prop := uberReadsRow.holds Tryz.pinned (OpenSpec.ofChange uberReadsSpec)

/-- ITS FALSE NEIGHBOUR: 'it returns false'. Refute it at one input. -/
def uberReadsWrong : ChangeSpec := { name := "uberReads", fn := fun _ => fun
  | [d] => { results := [.lit (.bool false)], args := [d] }
  | _ => none }
def UberReadsWrongFalsely : Prop := uberReadsRow.holds Tryz.pinned (OpenSpec.ofChange uberReadsWrong)

/- THE SECOND FORM. 'bulk': how many values and letters a reading holds, each counted each time it is reached (what is shared counts as often as it is met; a slice's spare places count too). A statement '..UptoSaid' is the law's where the arguments, and the package variables that the reading takes, are together of bulk at most 1048576: NARROWER than '..Said'. Prove '..Said' where nothing that the law and all that it calls make is longer than what came in: it says more and counts as full. Else prove '..UptoSaid'. A law counts once. -/
mutual
def uptoBulk {H : Type} : DataW H → Nat
  | .lit (.string bytes) => bytes.length + 1
  | .lit _ => 1
  | .nil => 1
  | .ptr d => uptoBulk d + 1
  | .slice elems spare => uptoBulkAll elems + uptoBulkAll spare + 1
  | .agg parts => uptoBulkAll parts + 1
  | .iface _ d => uptoBulk d + 1
  | .map entries => uptoBulkEntries entries + 1
  | .held _ => 1
def uptoBulkAll {H : Type} : List (DataW H) → Nat
  | [] => 0
  | d :: r => uptoBulk d + uptoBulkAll r
def uptoBulkEntries {H : Type} : List (Lit × DataW H) → Nat
  | [] => 0
  | x :: r => uptoBulkEntry x + uptoBulkEntries r
def uptoBulkEntry {H : Type} : Lit × DataW H → Nat
  | (.string bytes, d) => bytes.length + uptoBulk d + 1
  | (_, d) => uptoBulk d + 1
 end
def uptoSmall : (H : Type) → List (DataW H) → Bool := fun _ ds => decide (uptoBulkAll ds ≤ 1048576)
def OpenSpec.upto (s : _root_.Go.ChangeSpec) : _root_.Go.OpenSpec := { _root_.Go.OpenSpec.ofChange s with cond := some uptoSmall }

/-- 'caulkerlaw09.UberPacks', WHERE WHAT IT READS IS OF BULK AT MOST 1048576: true; the input reads as it did. -/
def uberPacksUptoRow : OpenClaim := { program := "ytpkpopgcfgonoaagreatdoor", sum := "2b14cff120a14334022125a066b88d36a03825e4995cc12cbe8092b779af16e8", func := "caulker/caulkerlaw09.UberPacks", spec := "uberPacks", inPlace := ["internal/reflectlite.TypeOf"], unfollowed := true, recurses := true, named := ["caulker/uber.errField", "caulker/uber.errRoot"], apart := false, laid := [("caulker/uber.errField", laid_caulker_uber_errField), ("caulker/uber.errRoot", laid_caulker_uber_errRoot)], narrowed := true }
def UberPacksUptoSaid : Prop := uberPacksUptoRow.holds Tryz.pinned (OpenSpec.upto uberPacksSpec)

/-- 'caulkerlaw09.UberReads', WHERE WHAT IT READS IS OF BULK AT MOST 1048576: true; the input reads as it did. -/
def uberReadsUptoRow : OpenClaim := { program := "ytpkpopgcfgonoaagreatdoor", sum := "2b14cff120a14334022125a066b88d36a03825e4995cc12cbe8092b779af16e8", func := "caulker/caulkerlaw09.UberReads", spec := "uberReads", inPlace := ["internal/reflectlite.TypeOf"], unfollowed := true, recurses := true, named := ["caulker/uber.errField", "caulker/uber.errRoot"], apart := false, laid := [("caulker/uber.errField", laid_caulker_uber_errField), ("caulker/uber.errRoot", laid_caulker_uber_errRoot)], narrowed := true }
def UberReadsUptoSaid : Prop := uberReadsUptoRow.holds Tryz.pinned (OpenSpec.upto uberReadsSpec)

end Rows
end Go.Proofs.YtpkpopgcfgonoaaGreatDoor
