/-
  No cell of these rows narrows 'for every input' (looked for: loops, veiled, ifaces, maps, wideKeys, modest, calm, conditions, laid).
  DERIVED. THE GIVEN ROWS OF THIS SEAT. 7 by the template 'for every input the law returns true; each argument reads behind the call as it read before'; 0 by the template 'total and deterministic' (their statements: YtdlegbcdmlmbpaaTotals.lean).
  GIVEN WITH THE SEED: the statements are not yours to turn. If you find one false, say at which input.
  Laid BY PROGRAM, IN A SANDBOX (cutbox-rows.mjs): the forced cells as the released guide's own fill.sh prints them over the translation 9996c6bbe8f54add… (all of the seat's roots in one cut). By AI agents, Wed Nov 11 2026. No macro, syntax, notation, axiom, sorry.
-/
import Derived.Test.YtdlegbcdmlmbpaaChecked
import GoSem.Claim
import GoSem.ClaimJoined
import GoSem.ClaimMapViews
import Derived.JoinedTies
import Derived.KernelRfl
namespace Go.Proofs.Ytdlegbcdmlmbpaa
/- THE CELL 'sum', in the pinned program and in every row, IS THE sha256 OF THE DUMP (.gsa) THAT YtdlegbcdmlmbpaaProg.lean LOADS. Nothing in Lean hashes anything: it is a label: what it is worth is what the hold of that sum in a sandbox is worth. -/
noncomputable def Try.pinned : Pinned := { name := "ytdlegbcdmlmbpaa", sum := "9996c6bbe8f54adda18ddb10fc14d64059c0c0a2e2fd54f5b2dda72b1edfa08f", checked := Try.checked }
namespace Rows
def none {H : Type} : Left H := { results := [], args := [] }

/-- 'caulkerlaw08.LabelPacks': WHATEVER THE INPUT: true; the input reads as it did. -/
def labelPacksSpec : ChangeSpec := { name := "labelPacks", fn := fun _ => fun
  | [d] => { results := [.lit (.bool true)], args := [d] }
  | _ => none }
def labelPacksRow : OpenClaim := { program := "ytdlegbcdmlmbpaa", sum := "9996c6bbe8f54adda18ddb10fc14d64059c0c0a2e2fd54f5b2dda72b1edfa08f", func := "caulker/caulkerlaw08.LabelPacks", spec := "labelPacks", unfollowed := true, recurses := true, plainKeys := false, apart := false }
def LabelPacksSaid : Prop := labelPacksRow.holds Try.pinned (OpenSpec.ofChange labelPacksSpec)

/-- ITS FALSE NEIGHBOUR: 'it returns false'. Refute it at one input. -/
def labelPacksWrong : ChangeSpec := { name := "labelPacks", fn := fun _ => fun
  | [d] => { results := [.lit (.bool false)], args := [d] }
  | _ => none }
def LabelPacksWrongFalsely : Prop := labelPacksRow.holds Try.pinned (OpenSpec.ofChange labelPacksWrong)

/-- 'caulkerlaw08.LabelReads': WHATEVER THE INPUT: true; the input reads as it did. -/
def labelReadsSpec : ChangeSpec := { name := "labelReads", fn := fun _ => fun
  | [d] => { results := [.lit (.bool true)], args := [d] }
  | _ => none }
def labelReadsRow : OpenClaim := { program := "ytdlegbcdmlmbpaa", sum := "9996c6bbe8f54adda18ddb10fc14d64059c0c0a2e2fd54f5b2dda72b1edfa08f", func := "caulker/caulkerlaw08.LabelReads", spec := "labelReads", unfollowed := true, recurses := true, plainKeys := false, apart := false }
def LabelReadsSaid : Prop := labelReadsRow.holds Try.pinned (OpenSpec.ofChange labelReadsSpec)

/-- ITS FALSE NEIGHBOUR: 'it returns false'. Refute it at one input. -/
def labelReadsWrong : ChangeSpec := { name := "labelReads", fn := fun _ => fun
  | [d] => { results := [.lit (.bool false)], args := [d] }
  | _ => none }
def LabelReadsWrongFalsely : Prop := labelReadsRow.holds Try.pinned (OpenSpec.ofChange labelReadsWrong)

/-- 'caulkerlaw08.LabelTurned': WHATEVER THE INPUT: true; the input reads as it did. -/
def labelTurnedSpec : ChangeSpec := { name := "labelTurned", fn := fun _ => fun
  | [d1, d2, d3] => { results := [.lit (.bool true)], args := [d1, d2, d3] }
  | _ => none }
def labelTurnedRow : OpenClaim := { program := "ytdlegbcdmlmbpaa", sum := "9996c6bbe8f54adda18ddb10fc14d64059c0c0a2e2fd54f5b2dda72b1edfa08f", func := "caulker/caulkerlaw08.LabelTurned", spec := "labelTurned", unfollowed := true, recurses := true, plainKeys := false, apart := false }
def LabelTurnedSaid : Prop := labelTurnedRow.holds Try.pinned (OpenSpec.ofChange labelTurnedSpec)

/-- ITS FALSE NEIGHBOUR: 'it returns false'. Refute it at one input. -/
def labelTurnedWrong : ChangeSpec := { name := "labelTurned", fn := fun _ => fun
  | [d1, d2, d3] => { results := [.lit (.bool false)], args := [d1, d2, d3] }
  | _ => none }
def LabelTurnedWrongFalsely : Prop := labelTurnedRow.holds Try.pinned (OpenSpec.ofChange labelTurnedWrong)

/-- 'caulkerlaw08.LabelPools': WHATEVER THE INPUT: true; the input reads as it did. -/
def labelPoolsSpec : ChangeSpec := { name := "labelPools", fn := fun _ => fun
  | [d1, d2, d3, d4] => { results := [.lit (.bool true)], args := [d1, d2, d3, d4] }
  | _ => none }
def labelPoolsRow : OpenClaim := { program := "ytdlegbcdmlmbpaa", sum := "9996c6bbe8f54adda18ddb10fc14d64059c0c0a2e2fd54f5b2dda72b1edfa08f", func := "caulker/caulkerlaw08.LabelPools", spec := "labelPools", inPlace := ["internal/bytealg.Compare"], unfollowed := true, recurses := true, plainKeys := false, apart := false }
def LabelPoolsSaid : Prop := labelPoolsRow.holds Try.pinned (OpenSpec.ofChange labelPoolsSpec)

/-- ITS FALSE NEIGHBOUR: 'it returns false'. Refute it at one input. -/
def labelPoolsWrong : ChangeSpec := { name := "labelPools", fn := fun _ => fun
  | [d1, d2, d3, d4] => { results := [.lit (.bool false)], args := [d1, d2, d3, d4] }
  | _ => none }
def LabelPoolsWrongFalsely : Prop := labelPoolsRow.holds Try.pinned (OpenSpec.ofChange labelPoolsWrong)

/-- 'caulkerlaw08.LabelKnown': WHATEVER THE INPUT: true; the input reads as it did. -/
def labelKnownSpec : ChangeSpec := { name := "labelKnown", fn := fun _ => fun
  | [] => { results := [.lit (.bool true)], args := [] }
  | _ => none }
def labelKnownRow : OpenClaim := { program := "ytdlegbcdmlmbpaa", sum := "9996c6bbe8f54adda18ddb10fc14d64059c0c0a2e2fd54f5b2dda72b1edfa08f", func := "caulker/caulkerlaw08.LabelKnown", spec := "labelKnown", inPlace := ["internal/bytealg.Compare"], unfollowed := true, recurses := true, plainKeys := false, apart := false }
def LabelKnownSaid : Prop := labelKnownRow.holds Try.pinned (OpenSpec.ofChange labelKnownSpec)

/-- ITS FALSE NEIGHBOUR: 'it returns false'. Refute it at one input. -/
def labelKnownWrong : ChangeSpec := { name := "labelKnown", fn := fun _ => fun
  | [] => { results := [.lit (.bool false)], args := [] }
  | _ => none }
def LabelKnownWrongFalsely : Prop := labelKnownRow.holds Try.pinned (OpenSpec.ofChange labelKnownWrong)

/-- 'caulkerlaw08.LabelBack': WHATEVER THE INPUT: true; the input reads as it did. -/
def labelBackSpec : ChangeSpec := { name := "labelBack", fn := fun _ => fun
  | [d1, d2] => { results := [.lit (.bool true)], args := [d1, d2] }
  | _ => none }
def labelBackRow : OpenClaim := { program := "ytdlegbcdmlmbpaa", sum := "9996c6bbe8f54adda18ddb10fc14d64059c0c0a2e2fd54f5b2dda72b1edfa08f", func := "caulker/caulkerlaw08.LabelBack", spec := "labelBack", inPlace := ["internal/bytealg.Compare"], unfollowed := true, recurses := true, plainKeys := false, apart := false }
def LabelBackSaid : Prop := labelBackRow.holds Try.pinned (OpenSpec.ofChange labelBackSpec)

/-- ITS FALSE NEIGHBOUR: 'it returns false'. Refute it at one input. -/
def labelBackWrong : ChangeSpec := { name := "labelBack", fn := fun _ => fun
  | [d1, d2] => { results := [.lit (.bool false)], args := [d1, d2] }
  | _ => none }
def LabelBackWrongFalsely : Prop := labelBackRow.holds Try.pinned (OpenSpec.ofChange labelBackWrong)

/-- 'caulkerlaw08.LabelMost': WHATEVER THE INPUT: true; the input reads as it did. -/
def labelMostSpec : ChangeSpec := { name := "labelMost", fn := fun _ => fun
  | [d1, d2, d3, d4] => { results := [.lit (.bool true)], args := [d1, d2, d3, d4] }
  | _ => none }
def labelMostRow : OpenClaim := { program := "ytdlegbcdmlmbpaa", sum := "9996c6bbe8f54adda18ddb10fc14d64059c0c0a2e2fd54f5b2dda72b1edfa08f", func := "caulker/caulkerlaw08.LabelMost", spec := "labelMost", inPlace := ["internal/bytealg.Compare"], unfollowed := true, recurses := true, plainKeys := false, apart := false }
def LabelMostSaid : Prop := labelMostRow.holds Try.pinned (OpenSpec.ofChange labelMostSpec)

/-- ITS FALSE NEIGHBOUR: 'it returns false'. Refute it at one input. -/
def labelMostWrong : ChangeSpec := { name := "labelMost", fn := fun _ => fun
  | [d1, d2, d3, d4] => { results := [.lit (.bool false)], args := [d1, d2, d3, d4] }
  | _ => none }
def LabelMostWrongFalsely : Prop := labelMostRow.holds Try.pinned (OpenSpec.ofChange labelMostWrong)

/- THE SECOND FORM. 'bulk': how many values and letters a reading holds, each counted each time it is reached (what is shared counts as often as it is met; a slice's spare places count too). A statement '..UptoSaid' is the law's where the arguments, and the package variables that the reading takes, are together of bulk at most 1048576: NARROWER than '..Said'. Prove '..Said' where nothing that the law and all that it calls make is longer than what came in: it says more and counts as full. Else prove '..UptoSaid'. A law counts once. -/
mutual
def uptoBulk {H : Type} : DataW H → Nat
  | .lit (.string bytes) => bytes.length + 1
  | .lit _ => 1
  | .nil => 1
  | .ptr d => uptoBulk d + 1
  | .slice elems spare => uptoBulkAll elems + uptoBulkAll spare + 1
  | .agg parts => uptoBulkAll parts + 1
  | .iface _ d => uptoBulk d + 1
  | .map entries => uptoBulkEntries entries + 1
  | .held _ => 1
def uptoBulkAll {H : Type} : List (DataW H) → Nat
  | [] => 0
  | d :: r => uptoBulk d + uptoBulkAll r
def uptoBulkEntries {H : Type} : List (Lit × DataW H) → Nat
  | [] => 0
  | x :: r => uptoBulkEntry x + uptoBulkEntries r
def uptoBulkEntry {H : Type} : Lit × DataW H → Nat
  | (.string bytes, d) => bytes.length + uptoBulk d + 1
  | (_, d) => uptoBulk d + 1
 end
def uptoSmall : (H : Type) → List (DataW H) → Bool := fun _ ds => decide (uptoBulkAll ds ≤ 1048576)
def OpenSpec.upto (s : _root_.Go.ChangeSpec) : _root_.Go.OpenSpec := { _root_.Go.OpenSpec.ofChange s with cond := some uptoSmall }

/-- 'caulkerlaw08.LabelPacks', WHERE WHAT IT READS IS OF BULK AT MOST 1048576: true; the input reads as it did. -/
def labelPacksUptoRow : OpenClaim := { program := "ytdlegbcdmlmbpaa", sum := "9996c6bbe8f54adda18ddb10fc14d64059c0c0a2e2fd54f5b2dda72b1edfa08f", func := "caulker/caulkerlaw08.LabelPacks", spec := "labelPacks", unfollowed := true, recurses := true, plainKeys := false, apart := false, narrowed := true }
def LabelPacksUptoSaid : Prop := labelPacksUptoRow.holds Try.pinned (OpenSpec.upto labelPacksSpec)

/-- 'caulkerlaw08.LabelReads', WHERE WHAT IT READS IS OF BULK AT MOST 1048576: true; the input reads as it did. -/
def labelReadsUptoRow : OpenClaim := { program := "ytdlegbcdmlmbpaa", sum := "9996c6bbe8f54adda18ddb10fc14d64059c0c0a2e2fd54f5b2dda72b1edfa08f", func := "caulker/caulkerlaw08.LabelReads", spec := "labelReads", unfollowed := true, recurses := true, plainKeys := false, apart := false, narrowed := true }
def LabelReadsUptoSaid : Prop := labelReadsUptoRow.holds Try.pinned (OpenSpec.upto labelReadsSpec)

/-- 'caulkerlaw08.LabelTurned', WHERE WHAT IT READS IS OF BULK AT MOST 1048576: true; the input reads as it did. -/
def labelTurnedUptoRow : OpenClaim := { program := "ytdlegbcdmlmbpaa", sum := "9996c6bbe8f54adda18ddb10fc14d64059c0c0a2e2fd54f5b2dda72b1edfa08f", func := "caulker/caulkerlaw08.LabelTurned", spec := "labelTurned", unfollowed := true, recurses := true, plainKeys := false, apart := false, narrowed := true }
def LabelTurnedUptoSaid : Prop := labelTurnedUptoRow.holds Try.pinned (OpenSpec.upto labelTurnedSpec)

/-- 'caulkerlaw08.LabelPools', WHERE WHAT IT READS IS OF BULK AT MOST 1048576: true; the input reads as it did. -/
def labelPoolsUptoRow : OpenClaim := { program := "ytdlegbcdmlmbpaa", sum := "9996c6bbe8f54adda18ddb10fc14d64059c0c0a2e2fd54f5b2dda72b1edfa08f", func := "caulker/caulkerlaw08.LabelPools", spec := "labelPools", inPlace := ["internal/bytealg.Compare"], unfollowed := true, recurses := true, plainKeys := false, apart := false, narrowed := true }
def LabelPoolsUptoSaid : Prop := labelPoolsUptoRow.holds Try.pinned (OpenSpec.upto labelPoolsSpec)

/-- 'caulkerlaw08.LabelKnown', WHERE WHAT IT READS IS OF BULK AT MOST 1048576: true; the input reads as it did. -/
def labelKnownUptoRow : OpenClaim := { program := "ytdlegbcdmlmbpaa", sum := "9996c6bbe8f54adda18ddb10fc14d64059c0c0a2e2fd54f5b2dda72b1edfa08f", func := "caulker/caulkerlaw08.LabelKnown", spec := "labelKnown", inPlace := ["internal/bytealg.Compare"], unfollowed := true, recurses := true, plainKeys := false, apart := false, narrowed := true }
def LabelKnownUptoSaid : Prop := labelKnownUptoRow.holds Try.pinned (OpenSpec.upto labelKnownSpec)

/-- 'caulkerlaw08.LabelBack', WHERE WHAT IT READS IS OF BULK AT MOST 1048576: true; the input reads as it did. -/
def labelBackUptoRow : OpenClaim := { program := "ytdlegbcdmlmbpaa", sum := "9996c6bbe8f54adda18ddb10fc14d64059c0c0a2e2fd54f5b2dda72b1edfa08f", func := "caulker/caulkerlaw08.LabelBack", spec := "labelBack", inPlace := ["internal/bytealg.Compare"], unfollowed := true, recurses := true, plainKeys := false, apart := false, narrowed := true }
def LabelBackUptoSaid : Prop := labelBackUptoRow.holds Try.pinned (OpenSpec.upto labelBackSpec)

/-- 'caulkerlaw08.LabelMost', WHERE WHAT IT READS IS OF BULK AT MOST 1048576: true; the input reads as it did. -/
def labelMostUptoRow : OpenClaim := { program := "ytdlegbcdmlmbpaa", sum := "9996c6bbe8f54adda18ddb10fc14d64059c0c0a2e2fd54f5b2dda72b1edfa08f", func := "caulker/caulkerlaw08.LabelMost", spec := "labelMost", inPlace := ["internal/bytealg.Compare"], unfollowed := true, recurses := true, plainKeys := false, apart := false, narrowed := true }
def LabelMostUptoSaid : Prop := labelMostUptoRow.holds Try.pinned (OpenSpec.upto labelMostSpec)

end Rows
end Go.Proofs.Ytdlegbcdmlmbpaa
