/-
  No cell of these rows narrows 'for every input' (looked for: loops, veiled, ifaces, maps, wideKeys, modest, calm, conditions, laid).
  DERIVED. THE GIVEN ROWS OF THIS SEAT. 5 by the template 'for every input the law returns true; each argument reads behind the call as it read before'; 0 by the template 'total and deterministic' (their statements: YtfjklgbakhjjiaaTotals.lean).
  GIVEN WITH THE SEED: the statements are not yours to turn. If you find one false, say at which input.
  Laid BY PROGRAM, IN A SANDBOX (cutbox-rows.mjs): the forced cells as the released guide's own fill.sh prints them over the translation 6c18764432f1a1af… (all of the seat's roots in one cut). By AI agents, Wed Nov 11 2026. No macro, syntax, notation, axiom, sorry.
-/
import Derived.Test.YtfjklgbakhjjiaaChecked
import GoSem.Claim
import GoSem.ClaimJoined
import GoSem.ClaimMapViews
import Derived.JoinedTies
import Derived.KernelRfl
namespace Go.Proofs.Ytfjklgbakhjjiaa
/- THE CELL 'sum', in the pinned program and in every row, IS THE sha256 OF THE DUMP (.gsa) THAT YtfjklgbakhjjiaaProg.lean LOADS. Nothing in Lean hashes anything: it is a label: what it is worth is what the hold of that sum in a sandbox is worth. -/
noncomputable def Try.pinned : Pinned := { name := "ytfjklgbakhjjiaa", sum := "6c18764432f1a1af73f7c30cf247e327bfc5741f25014c4a9f8df1ce8ebe7603", checked := Try.checked }
namespace Rows
def none {H : Type} : Left H := { results := [], args := [] }

/-- 'caulkerlaw17.AllocScript': WHATEVER THE INPUT: true; the input reads as it did. -/
def allocScriptSpec : ChangeSpec := { name := "allocScript", fn := fun _ => fun
  | [d1, d2, d3, d4] => { results := [.lit (.bool true)], args := [d1, d2, d3, d4] }
  | _ => none }
def allocScriptRow : OpenClaim := { program := "ytfjklgbakhjjiaa", sum := "6c18764432f1a1af73f7c30cf247e327bfc5741f25014c4a9f8df1ce8ebe7603", func := "caulker/caulkerlaw17.AllocScript", spec := "allocScript", unfollowed := true, recurses := true, plainKeys := false, apart := false }
def AllocScriptSaid : Prop := allocScriptRow.holds Try.pinned (OpenSpec.ofChange allocScriptSpec)

/-- ITS FALSE NEIGHBOUR: 'it returns false'. Refute it at one input. -/
def allocScriptWrong : ChangeSpec := { name := "allocScript", fn := fun _ => fun
  | [d1, d2, d3, d4] => { results := [.lit (.bool false)], args := [d1, d2, d3, d4] }
  | _ => none }
def AllocScriptWrongFalsely : Prop := allocScriptRow.holds Try.pinned (OpenSpec.ofChange allocScriptWrong)

/-- 'caulkerlaw17.AllocNone': WHATEVER THE INPUT: true; the input reads as it did. -/
def allocNoneSpec : ChangeSpec := { name := "allocNone", fn := fun _ => fun
  | [d1, d2, d3, d4] => { results := [.lit (.bool true)], args := [d1, d2, d3, d4] }
  | _ => none }
def allocNoneRow : OpenClaim := { program := "ytfjklgbakhjjiaa", sum := "6c18764432f1a1af73f7c30cf247e327bfc5741f25014c4a9f8df1ce8ebe7603", func := "caulker/caulkerlaw17.AllocNone", spec := "allocNone", unfollowed := true, recurses := true, plainKeys := false, apart := false }
def AllocNoneSaid : Prop := allocNoneRow.holds Try.pinned (OpenSpec.ofChange allocNoneSpec)

/-- ITS FALSE NEIGHBOUR: 'it returns false'. Refute it at one input. -/
def allocNoneWrong : ChangeSpec := { name := "allocNone", fn := fun _ => fun
  | [d1, d2, d3, d4] => { results := [.lit (.bool false)], args := [d1, d2, d3, d4] }
  | _ => none }
def AllocNoneWrongFalsely : Prop := allocNoneRow.holds Try.pinned (OpenSpec.ofChange allocNoneWrong)

/-- 'caulkerlaw17.AllocKnown': WHATEVER THE INPUT: true; the input reads as it did. -/
def allocKnownSpec : ChangeSpec := { name := "allocKnown", fn := fun _ => fun
  | [] => { results := [.lit (.bool true)], args := [] }
  | _ => none }
def allocKnownRow : OpenClaim := { program := "ytfjklgbakhjjiaa", sum := "6c18764432f1a1af73f7c30cf247e327bfc5741f25014c4a9f8df1ce8ebe7603", func := "caulker/caulkerlaw17.AllocKnown", spec := "allocKnown", unfollowed := true, recurses := true, plainKeys := false, apart := false }
def AllocKnownSaid : Prop := allocKnownRow.holds Try.pinned (OpenSpec.ofChange allocKnownSpec)

/-- ITS FALSE NEIGHBOUR: 'it returns false'. Refute it at one input. -/
def allocKnownWrong : ChangeSpec := { name := "allocKnown", fn := fun _ => fun
  | [] => { results := [.lit (.bool false)], args := [] }
  | _ => none }
def AllocKnownWrongFalsely : Prop := allocKnownRow.holds Try.pinned (OpenSpec.ofChange allocKnownWrong)

/-- 'caulkerlaw17.AllocRoom': WHATEVER THE INPUT: true; the input reads as it did. -/
def allocRoomSpec : ChangeSpec := { name := "allocRoom", fn := fun _ => fun
  | [d1, d2, d3, d4, d5] => { results := [.lit (.bool true)], args := [d1, d2, d3, d4, d5] }
  | _ => none }
def allocRoomRow : OpenClaim := { program := "ytfjklgbakhjjiaa", sum := "6c18764432f1a1af73f7c30cf247e327bfc5741f25014c4a9f8df1ce8ebe7603", func := "caulker/caulkerlaw17.AllocRoom", spec := "allocRoom", unfollowed := true, recurses := true, plainKeys := false, apart := false }
def AllocRoomSaid : Prop := allocRoomRow.holds Try.pinned (OpenSpec.ofChange allocRoomSpec)

/-- ITS FALSE NEIGHBOUR: 'it returns false'. Refute it at one input. -/
def allocRoomWrong : ChangeSpec := { name := "allocRoom", fn := fun _ => fun
  | [d1, d2, d3, d4, d5] => { results := [.lit (.bool false)], args := [d1, d2, d3, d4, d5] }
  | _ => none }
def AllocRoomWrongFalsely : Prop := allocRoomRow.holds Try.pinned (OpenSpec.ofChange allocRoomWrong)

/-- 'caulkerlaw17.AllocApart': WHATEVER THE INPUT: true; the input reads as it did. -/
def allocApartSpec : ChangeSpec := { name := "allocApart", fn := fun _ => fun
  | [d1, d2, d3] => { results := [.lit (.bool true)], args := [d1, d2, d3] }
  | _ => none }
def allocApartRow : OpenClaim := { program := "ytfjklgbakhjjiaa", sum := "6c18764432f1a1af73f7c30cf247e327bfc5741f25014c4a9f8df1ce8ebe7603", func := "caulker/caulkerlaw17.AllocApart", spec := "allocApart", unfollowed := true, recurses := true, plainKeys := false, apart := false }
def AllocApartSaid : Prop := allocApartRow.holds Try.pinned (OpenSpec.ofChange allocApartSpec)

/-- ITS FALSE NEIGHBOUR: 'it returns false'. Refute it at one input. -/
def allocApartWrong : ChangeSpec := { name := "allocApart", fn := fun _ => fun
  | [d1, d2, d3] => { results := [.lit (.bool false)], args := [d1, d2, d3] }
  | _ => none }
def AllocApartWrongFalsely : Prop := allocApartRow.holds Try.pinned (OpenSpec.ofChange allocApartWrong)

/- THE SECOND FORM. 'bulk': how many values and letters a reading holds, each counted each time it is reached (what is shared counts as often as it is met; a slice's spare places count too). A statement '..UptoSaid' is the law's where the arguments, and the package variables that the reading takes, are together of bulk at most 1048576: NARROWER than '..Said'. Prove '..Said' where nothing that the law and all that it calls make is longer than what came in: it says more and counts as full. Else prove '..UptoSaid'. A law counts once. -/
mutual
def uptoBulk {H : Type} : DataW H → Nat
  | .lit (.string bytes) => bytes.length + 1
  | .lit _ => 1
  | .nil => 1
  | .ptr d => uptoBulk d + 1
  | .slice elems spare => uptoBulkAll elems + uptoBulkAll spare + 1
  | .agg parts => uptoBulkAll parts + 1
  | .iface _ d => uptoBulk d + 1
  | .map entries => uptoBulkEntries entries + 1
  | .held _ => 1
def uptoBulkAll {H : Type} : List (DataW H) → Nat
  | [] => 0
  | d :: r => uptoBulk d + uptoBulkAll r
def uptoBulkEntries {H : Type} : List (Lit × DataW H) → Nat
  | [] => 0
  | x :: r => uptoBulkEntry x + uptoBulkEntries r
def uptoBulkEntry {H : Type} : Lit × DataW H → Nat
  | (.string bytes, d) => bytes.length + uptoBulk d + 1
  | (_, d) => uptoBulk d + 1
 end
def uptoSmall : (H : Type) → List (DataW H) → Bool := fun _ ds => decide (uptoBulkAll ds ≤ 1048576)
def OpenSpec.upto (s : _root_.Go.ChangeSpec) : _root_.Go.OpenSpec := { _root_.Go.OpenSpec.ofChange s with cond := some uptoSmall }

/-- 'caulkerlaw17.AllocScript', WHERE WHAT IT READS IS OF BULK AT MOST 1048576: true; the input reads as it did. -/
def allocScriptUptoRow : OpenClaim := { program := "ytfjklgbakhjjiaa", sum := "6c18764432f1a1af73f7c30cf247e327bfc5741f25014c4a9f8df1ce8ebe7603", func := "caulker/caulkerlaw17.AllocScript", spec := "allocScript", unfollowed := true, recurses := true, plainKeys := false, apart := false, narrowed := true }
def AllocScriptUptoSaid : Prop := allocScriptUptoRow.holds Try.pinned (OpenSpec.upto allocScriptSpec)

/-- 'caulkerlaw17.AllocNone', WHERE WHAT IT READS IS OF BULK AT MOST 1048576: true; the input reads as it did. -/
def allocNoneUptoRow : OpenClaim := { program := "ytfjklgbakhjjiaa", sum := "6c18764432f1a1af73f7c30cf247e327bfc5741f25014c4a9f8df1ce8ebe7603", func := "caulker/caulkerlaw17.AllocNone", spec := "allocNone", unfollowed := true, recurses := true, plainKeys := false, apart := false, narrowed := true }
def AllocNoneUptoSaid : Prop := allocNoneUptoRow.holds Try.pinned (OpenSpec.upto allocNoneSpec)

/-- 'caulkerlaw17.AllocKnown', WHERE WHAT IT READS IS OF BULK AT MOST 1048576: true; the input reads as it did. -/
def allocKnownUptoRow : OpenClaim := { program := "ytfjklgbakhjjiaa", sum := "6c18764432f1a1af73f7c30cf247e327bfc5741f25014c4a9f8df1ce8ebe7603", func := "caulker/caulkerlaw17.AllocKnown", spec := "allocKnown", unfollowed := true, recurses := true, plainKeys := false, apart := false, narrowed := true }
def AllocKnownUptoSaid : Prop := allocKnownUptoRow.holds Try.pinned (OpenSpec.upto allocKnownSpec)

/-- 'caulkerlaw17.AllocRoom', WHERE WHAT IT READS IS OF BULK AT MOST 1048576: true; the input reads as it did. -/
def allocRoomUptoRow : OpenClaim := { program := "ytfjklgbakhjjiaa", sum := "6c18764432f1a1af73f7c30cf247e327bfc5741f25014c4a9f8df1ce8ebe7603", func := "caulker/caulkerlaw17.AllocRoom", spec := "allocRoom", unfollowed := true, recurses := true, plainKeys := false, apart := false, narrowed := true }
def AllocRoomUptoSaid : Prop := allocRoomUptoRow.holds Try.pinned (OpenSpec.upto allocRoomSpec)

/-- 'caulkerlaw17.AllocApart', WHERE WHAT IT READS IS OF BULK AT MOST 1048576: true; the input reads as it did. -/
def allocApartUptoRow : OpenClaim := { program := "ytfjklgbakhjjiaa", sum := "6c18764432f1a1af73f7c30cf247e327bfc5741f25014c4a9f8df1ce8ebe7603", func := "caulker/caulkerlaw17.AllocApart", spec := "allocApart", unfollowed := true, recurses := true, plainKeys := false, apart := false, narrowed := true }
def AllocApartUptoSaid : Prop := allocApartUptoRow.holds Try.pinned (OpenSpec.upto allocApartSpec)

end Rows
end Go.Proofs.Ytfjklgbakhjjiaa
