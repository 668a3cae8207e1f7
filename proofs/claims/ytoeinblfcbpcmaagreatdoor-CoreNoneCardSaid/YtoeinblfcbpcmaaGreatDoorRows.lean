/-
  NARROWER THAN 'FOR EVERY INPUT', by the rows' own cells (each row's printed sentence says how): CoreRoom: laid · CoreKnown: laid · CoreNone: laid.
  DERIVED. THE GIVEN ROWS OF THIS SEAT. 3 by the template 'for every input the law returns true; each argument reads behind the call as it read before'; 0 by the template 'total and deterministic' (their statements: YtoeinblfcbpcmaaGreatDoorTotals.lean).
  GIVEN WITH THE SEED: the statements are not yours to turn. If you find one false, say at which input.
  Laid BY PROGRAM, IN A SANDBOX (cutbox-rows.mjs): the forced cells as the released guide's own fill.sh prints them over the translation 38885312cfd660d3… (all of the seat's roots in one cut). By AI agents, Wed Nov 11 2026. No macro, syntax, notation, axiom, sorry.
-/
import Derived.Test.YtoeinblfcbpcmaaGreatDoorChecked
import GoSem.Claim
import GoSem.ClaimJoined
import GoSem.ClaimMapViews
import Derived.JoinedTies
import Derived.KernelRfl
namespace Go.Proofs.YtoeinblfcbpcmaaGreatDoor
/- THE CELL 'sum', in the pinned program and in every row, IS THE sha256 OF THE DUMP (.gsa) THAT YtoeinblfcbpcmaaGreatDoorProg.lean LOADS. Nothing in Lean hashes anything: it is a label: what it is worth is what the hold of that sum in a sandbox is worth. -/
noncomputable def Tryz.pinned : Pinned := { name := "ytoeinblfcbpcmaagreatdoor", sum := "38885312cfd660d39bf4f39aa8a9203f96121e5b40523245cb33b69cb7f4d283", checked := Tryz.checked }
namespace Rows
def none {H : Type} : Left H := { results := [], args := [] }

/- WHAT THE LISTED PACKAGE-LEVEL VARIABLES READ AS WHEN THE CALL BEGINS. Each datum BY PROGRAM (the guide's laid-datum.mjs) off the statement by which the dump's own 'gosem.cut.vars' lays the variable. In a bare row this is a premise. The card (YtoeinblfcbpcmaaGreatDoorCards.lean) ties it to the program's text. -/
def laid_caulker_uber_errField {H : Type} : DataW H := .iface "*errors.errorString" (.ptr (.agg [.lit (.string [97, 32, 102, 105, 101, 108, 100])]))
def laid_caulker_uber_errRoot {H : Type} : DataW H := .iface "*errors.errorString" (.ptr (.agg [.lit (.string [97, 32, 114, 111, 111, 116])]))

/-- 'caulkerlaw18.CoreRoom': WHATEVER THE INPUT: true; the input reads as it did. -/
def coreRoomSpec : ChangeSpec := { name := "coreRoom", fn := fun _ => fun
  | [d1, d2, d3] => { results := [.lit (.bool true)], args := [d1, d2, d3] }
  | _ => none }
def coreRoomRow : OpenClaim := { program := "ytoeinblfcbpcmaagreatdoor", sum := "38885312cfd660d39bf4f39aa8a9203f96121e5b40523245cb33b69cb7f4d283", func := "caulker/caulkerlaw18.CoreRoom", spec := "coreRoom", inPlace := ["internal/reflectlite.TypeOf", "internal/bytealg.Compare"], unfollowed := true, recurses := true, named := ["caulker/uber.errField", "caulker/uber.errRoot"], plainKeys := false, apart := false, laid := [("caulker/uber.errField", laid_caulker_uber_errField), ("caulker/uber.errRoot", laid_caulker_uber_errRoot)] }
def CoreRoomSaid : Prop := coreRoomRow.holds Tryz.pinned (OpenSpec.ofChange coreRoomSpec)

/-- ITS FALSE NEIGHBOUR: 'it returns false'. Refute it at one input. -/
def coreRoomWrong : ChangeSpec := { name := "coreRoom", fn := fun _ => fun
  | [d1, d2, d3] => { results := [.lit (.bool false)], args := [d1, d2, d3] }
  | _ => none }
def CoreRoomWrongFalsely : Prop := coreRoomRow.holds Tryz.pinned (OpenSpec.ofChange coreRoomWrong)

/-- 'caulkerlaw18.CoreKnown': WHATEVER THE INPUT: true; the input reads as it did. -/
def coreKnownSpec : ChangeSpec := { name := "coreKnown", fn := fun _ => fun
  | [] => { results := [.lit (.bool true)], args := [] }
  | _ => none }
def coreKnownRow : OpenClaim := { program := "ytoeinblfcbpcmaagreatdoor", sum := "38885312cfd660d39bf4f39aa8a9203f96121e5b40523245cb33b69cb7f4d283", func := "caulker/caulkerlaw18.CoreKnown", spec := "coreKnown", inPlace := ["internal/reflectlite.TypeOf", "internal/bytealg.Compare"], unfollowed := true, recurses := true, named := ["caulker/uber.errField", "caulker/uber.errRoot"], plainKeys := false, apart := false, laid := [("caulker/uber.errField", laid_caulker_uber_errField), ("caulker/uber.errRoot", laid_caulker_uber_errRoot)] }
def CoreKnownSaid : Prop := coreKnownRow.holds Tryz.pinned (OpenSpec.ofChange coreKnownSpec)

/-- ITS FALSE NEIGHBOUR: 'it returns false'. Refute it at one input. -/
def coreKnownWrong : ChangeSpec := { name := "coreKnown", fn := fun _ => fun
  | [] => { results := [.lit (.bool false)], args := [] }
  | _ => none }
def CoreKnownWrongFalsely : Prop := coreKnownRow.holds Tryz.pinned (OpenSpec.ofChange coreKnownWrong)

/-- 'caulkerlaw18.CoreNone': WHATEVER THE INPUT: true; the input reads as it did. -/
def coreNoneSpec : ChangeSpec := { name := "coreNone", fn := fun _ => fun
  | [d] => { results := [.lit (.bool true)], args := [d] }
  | _ => none }
def coreNoneRow : OpenClaim := { program := "ytoeinblfcbpcmaagreatdoor", sum := "38885312cfd660d39bf4f39aa8a9203f96121e5b40523245cb33b69cb7f4d283", func := "caulker/caulkerlaw18.CoreNone", spec := "coreNone", inPlace := ["internal/reflectlite.TypeOf", "internal/bytealg.Compare"], unfollowed := true, recurses := true, named := ["caulker/uber.errField", "caulker/uber.errRoot"], plainKeys := false, apart := false, laid := [("caulker/uber.errField", laid_caulker_uber_errField), ("caulker/uber.errRoot", laid_caulker_uber_errRoot)] }
def CoreNoneSaid : Prop := coreNoneRow.holds Tryz.pinned (OpenSpec.ofChange coreNoneSpec)

/-- ITS FALSE NEIGHBOUR: 'it returns false'. Refute it at one input. -/
def coreNoneWrong : ChangeSpec := { name := "coreNone", fn := fun _ => fun
  | [d] => { results := [.lit (.bool false)], args := [d] }
  | _ => none }
def CoreNoneWrongFalsely : Prop := coreNoneRow.holds Tryz.pinned (OpenSpec.ofChange coreNoneWrong)

/- THE SECOND FORM. 'bulk': how many values and letters a reading holds, each counted each time it is reached (what is shared counts as often as it is met; a slice's spare places count too). A statement '..UptoSaid' is the law's where the arguments, and the package variables that the reading takes, are together of bulk at most 1048576: NARROWER than '..Said'. Prove '..Said' where nothing that the law and all that it calls make is longer than what came in: it says more and counts as full. Else prove '..UptoSaid'. A law counts once. -/
mutual
def uptoBulk {H : Type} : DataW H → Nat
  | .lit (.string bytes) => bytes.length + 1
  | .lit _ => 1
  | .nil => 1
  | .ptr d => uptoBulk d + 1
  | .slice elems spare => uptoBulkAll elems + uptoBulkAll spare + 1
  | .agg parts => uptoBulkAll parts + 1
  | .iface _ d => uptoBulk d + 1
  | .map entries => uptoBulkEntries entries + 1
  | .held _ => 1
def uptoBulkAll {H : Type} : List (DataW H) → Nat
  | [] => 0
  | d :: r => uptoBulk d + uptoBulkAll r
def uptoBulkEntries {H : Type} : List (Lit × DataW H) → Nat
  | [] => 0
  | x :: r => uptoBulkEntry x + uptoBulkEntries r
def uptoBulkEntry {H : Type} : Lit × DataW H → Nat
  | (.string bytes, d) => bytes.length + uptoBulk d + 1
  | (_, d) => uptoBulk d + 1
 end
def uptoSmall : (H : Type) → List (DataW H) → Bool := fun _ ds => decide (uptoBulkAll ds ≤ 1048576)
def OpenSpec.upto (s : _root_.Go.ChangeSpec) : _root_.Go.OpenSpec := { _root_.Go.OpenSpec.ofChange s with cond := some uptoSmall }

/-- 'caulkerlaw18.CoreRoom', WHERE WHAT IT READS IS OF BULK AT MOST 1048576: true; the input reads as it did. -/
def coreRoomUptoRow : OpenClaim := { program := "ytoeinblfcbpcmaagreatdoor", sum := "38885312cfd660d39bf4f39aa8a9203f96121e5b40523245cb33b69cb7f4d283", func := "caulker/caulkerlaw18.CoreRoom", spec := "coreRoom", inPlace := ["internal/reflectlite.TypeOf", "internal/bytealg.Compare"], unfollowed := true, recurses := true, named := ["caulker/uber.errField", "caulker/uber.errRoot"], plainKeys := false, apart := false, laid := [("caulker/uber.errField", laid_caulker_uber_errField), ("caulker/uber.errRoot", laid_caulker_uber_errRoot)], narrowed := true }
def CoreRoomUptoSaid : Prop := coreRoomUptoRow.holds Tryz.pinned (OpenSpec.upto coreRoomSpec)

/-- 'caulkerlaw18.CoreKnown', WHERE WHAT IT READS IS OF BULK AT MOST 1048576: true; the input reads as it did. -/
def coreKnownUptoRow : OpenClaim := { program := "ytoeinblfcbpcmaagreatdoor", sum := "38885312cfd660d39bf4f39aa8a9203f96121e5b40523245cb33b69cb7f4d283", func := "caulker/caulkerlaw18.CoreKnown", spec := "coreKnown", inPlace := ["internal/reflectlite.TypeOf", "internal/bytealg.Compare"], unfollowed := true, recurses := true, named := ["caulker/uber.errField", "caulker/uber.errRoot"], plainKeys := false, apart := false, laid := [("caulker/uber.errField", laid_caulker_uber_errField), ("caulker/uber.errRoot", laid_caulker_uber_errRoot)], narrowed := true }
def CoreKnownUptoSaid : Prop := coreKnownUptoRow.holds Tryz.pinned (OpenSpec.upto coreKnownSpec)

/-- 'caulkerlaw18.CoreNone', WHERE WHAT IT READS IS OF BULK AT MOST 1048576: true; the input reads as it did. -/
def coreNoneUptoRow : OpenClaim := { program := "ytoeinblfcbpcmaagreatdoor", sum := "38885312cfd660d39bf4f39aa8a9203f96121e5b40523245cb33b69cb7f4d283", func := "caulker/caulkerlaw18.CoreNone", spec := "coreNone", inPlace := ["internal/reflectlite.TypeOf", "internal/bytealg.Compare"], unfollowed := true, recurses := true, named := ["caulker/uber.errField", "caulker/uber.errRoot"], plainKeys := false, apart := false, laid := [("caulker/uber.errField", laid_caulker_uber_errField), ("caulker/uber.errRoot", laid_caulker_uber_errRoot)], narrowed := true }
def CoreNoneUptoSaid : Prop := coreNoneUptoRow.holds Tryz.pinned (OpenSpec.upto coreNoneSpec)

end Rows
end Go.Proofs.YtoeinblfcbpcmaaGreatDoor
