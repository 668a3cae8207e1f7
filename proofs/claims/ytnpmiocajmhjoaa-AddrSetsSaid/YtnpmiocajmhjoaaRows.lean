/-
  No cell of these rows narrows 'for every input' (looked for: loops, veiled, ifaces, maps, wideKeys, modest, calm, conditions, laid).
  DERIVED. THE GIVEN ROWS OF THIS SEAT. 6 by the template 'for every input the law returns true; each argument reads behind the call as it read before'; 0 by the template 'total and deterministic' (their statements: YtnpmiocajmhjoaaTotals.lean).
  GIVEN WITH THE SEED: the statements are not yours to turn. If you find one false, say at which input.
  Laid BY PROGRAM, IN A SANDBOX (cutbox-rows.mjs): the forced cells as the released guide's own fill.sh prints them over the translation cf93f9f7eb322294… (all of the seat's roots in one cut). By AI agents, Wed Nov 11 2026. No macro, syntax, notation, axiom, sorry.
-/
import Derived.Test.YtnpmiocajmhjoaaChecked
import GoSem.Claim
import GoSem.ClaimJoined
import GoSem.ClaimMapViews
import Derived.JoinedTies
import Derived.KernelRfl
namespace Go.Proofs.Ytnpmiocajmhjoaa
/- THE CELL 'sum', in the pinned program and in every row, IS THE sha256 OF THE DUMP (.gsa) THAT YtnpmiocajmhjoaaProg.lean LOADS. Nothing in Lean hashes anything: it is a label: what it is worth is what the hold of that sum in a sandbox is worth. -/
noncomputable def Try.pinned : Pinned := { name := "ytnpmiocajmhjoaa", sum := "cf93f9f7eb32229464704d93b6769e6d7e54cd97f7b5e787b17ea204cb8375e8", checked := Try.checked }
namespace Rows
def none {H : Type} : Left H := { results := [], args := [] }

/-- 'caulkerlaw03.AddrMay': WHATEVER THE INPUT: true; the input reads as it did. -/
def addrMaySpec : ChangeSpec := { name := "addrMay", fn := fun _ => fun
  | [d1, d2, d3, d4] => { results := [.lit (.bool true)], args := [d1, d2, d3, d4] }
  | _ => none }
def addrMayRow : OpenClaim := { program := "ytnpmiocajmhjoaa", sum := "cf93f9f7eb32229464704d93b6769e6d7e54cd97f7b5e787b17ea204cb8375e8", func := "caulker/caulkerlaw03.AddrMay", spec := "addrMay", unfollowed := true, recurses := true, plainKeys := false, apart := false }
def AddrMaySaid : Prop := addrMayRow.holds Try.pinned (OpenSpec.ofChange addrMaySpec)

/-- ITS FALSE NEIGHBOUR: 'it returns false'. Refute it at one input. -/
def addrMayWrong : ChangeSpec := { name := "addrMay", fn := fun _ => fun
  | [d1, d2, d3, d4] => { results := [.lit (.bool false)], args := [d1, d2, d3, d4] }
  | _ => none }
def AddrMayWrongFalsely : Prop := addrMayRow.holds Try.pinned (OpenSpec.ofChange addrMayWrong)

/-- 'caulkerlaw03.AddrOrder': WHATEVER THE INPUT: true; the input reads as it did. -/
def addrOrderSpec : ChangeSpec := { name := "addrOrder", fn := fun _ => fun
  | [d1, d2, d3] => { results := [.lit (.bool true)], args := [d1, d2, d3] }
  | _ => none }
def addrOrderRow : OpenClaim := { program := "ytnpmiocajmhjoaa", sum := "cf93f9f7eb32229464704d93b6769e6d7e54cd97f7b5e787b17ea204cb8375e8", func := "caulker/caulkerlaw03.AddrOrder", spec := "addrOrder", unfollowed := true, recurses := true, plainKeys := false, apart := false }
def AddrOrderSaid : Prop := addrOrderRow.holds Try.pinned (OpenSpec.ofChange addrOrderSpec)

/-- ITS FALSE NEIGHBOUR: 'it returns false'. Refute it at one input. -/
def addrOrderWrong : ChangeSpec := { name := "addrOrder", fn := fun _ => fun
  | [d1, d2, d3] => { results := [.lit (.bool false)], args := [d1, d2, d3] }
  | _ => none }
def AddrOrderWrongFalsely : Prop := addrOrderRow.holds Try.pinned (OpenSpec.ofChange addrOrderWrong)

/-- 'caulkerlaw03.AddrApart': WHATEVER THE INPUT: true; the input reads as it did. -/
def addrApartSpec : ChangeSpec := { name := "addrApart", fn := fun _ => fun
  | [d1, d2] => { results := [.lit (.bool true)], args := [d1, d2] }
  | _ => none }
def addrApartRow : OpenClaim := { program := "ytnpmiocajmhjoaa", sum := "cf93f9f7eb32229464704d93b6769e6d7e54cd97f7b5e787b17ea204cb8375e8", func := "caulker/caulkerlaw03.AddrApart", spec := "addrApart", unfollowed := true, recurses := true, plainKeys := false, apart := false }
def AddrApartSaid : Prop := addrApartRow.holds Try.pinned (OpenSpec.ofChange addrApartSpec)

/-- ITS FALSE NEIGHBOUR: 'it returns false'. Refute it at one input. -/
def addrApartWrong : ChangeSpec := { name := "addrApart", fn := fun _ => fun
  | [d1, d2] => { results := [.lit (.bool false)], args := [d1, d2] }
  | _ => none }
def AddrApartWrongFalsely : Prop := addrApartRow.holds Try.pinned (OpenSpec.ofChange addrApartWrong)

/-- 'caulkerlaw03.AddrSets': WHATEVER THE INPUT: true; the input reads as it did. -/
def addrSetsSpec : ChangeSpec := { name := "addrSets", fn := fun _ => fun
  | [d1, d2, d3] => { results := [.lit (.bool true)], args := [d1, d2, d3] }
  | _ => none }
def addrSetsRow : OpenClaim := { program := "ytnpmiocajmhjoaa", sum := "cf93f9f7eb32229464704d93b6769e6d7e54cd97f7b5e787b17ea204cb8375e8", func := "caulker/caulkerlaw03.AddrSets", spec := "addrSets", unfollowed := true, recurses := true, plainKeys := false, apart := false }
def AddrSetsSaid : Prop := addrSetsRow.holds Try.pinned (OpenSpec.ofChange addrSetsSpec)

/-- ITS FALSE NEIGHBOUR: 'it returns false'. Refute it at one input. -/
def addrSetsWrong : ChangeSpec := { name := "addrSets", fn := fun _ => fun
  | [d1, d2, d3] => { results := [.lit (.bool false)], args := [d1, d2, d3] }
  | _ => none }
def AddrSetsWrongFalsely : Prop := addrSetsRow.holds Try.pinned (OpenSpec.ofChange addrSetsWrong)

/-- 'caulkerlaw03.AddrKnown': WHATEVER THE INPUT: true; the input reads as it did. -/
def addrKnownSpec : ChangeSpec := { name := "addrKnown", fn := fun _ => fun
  | [] => { results := [.lit (.bool true)], args := [] }
  | _ => none }
def addrKnownRow : OpenClaim := { program := "ytnpmiocajmhjoaa", sum := "cf93f9f7eb32229464704d93b6769e6d7e54cd97f7b5e787b17ea204cb8375e8", func := "caulker/caulkerlaw03.AddrKnown", spec := "addrKnown", unfollowed := true, recurses := true, plainKeys := false, apart := false }
def AddrKnownSaid : Prop := addrKnownRow.holds Try.pinned (OpenSpec.ofChange addrKnownSpec)

/-- ITS FALSE NEIGHBOUR: 'it returns false'. Refute it at one input. -/
def addrKnownWrong : ChangeSpec := { name := "addrKnown", fn := fun _ => fun
  | [] => { results := [.lit (.bool false)], args := [] }
  | _ => none }
def AddrKnownWrongFalsely : Prop := addrKnownRow.holds Try.pinned (OpenSpec.ofChange addrKnownWrong)

/-- 'caulkerlaw03.AddrParts': WHATEVER THE INPUT: true; the input reads as it did. -/
def addrPartsSpec : ChangeSpec := { name := "addrParts", fn := fun _ => fun
  | [d1, d2] => { results := [.lit (.bool true)], args := [d1, d2] }
  | _ => none }
def addrPartsRow : OpenClaim := { program := "ytnpmiocajmhjoaa", sum := "cf93f9f7eb32229464704d93b6769e6d7e54cd97f7b5e787b17ea204cb8375e8", func := "caulker/caulkerlaw03.AddrParts", spec := "addrParts", unfollowed := true, recurses := true, plainKeys := false, apart := false }
def AddrPartsSaid : Prop := addrPartsRow.holds Try.pinned (OpenSpec.ofChange addrPartsSpec)

/-- ITS FALSE NEIGHBOUR: 'it returns false'. Refute it at one input. -/
def addrPartsWrong : ChangeSpec := { name := "addrParts", fn := fun _ => fun
  | [d1, d2] => { results := [.lit (.bool false)], args := [d1, d2] }
  | _ => none }
def AddrPartsWrongFalsely : Prop := addrPartsRow.holds Try.pinned (OpenSpec.ofChange addrPartsWrong)

/- THE SECOND FORM. 'bulk': how many values and letters a reading holds, each counted each time it is reached (what is shared counts as often as it is met; a slice's spare places count too). A statement '..UptoSaid' is the law's where the arguments, and the package variables that the reading takes, are together of bulk at most 1048576: NARROWER than '..Said'. Prove '..Said' where nothing that the law and all that it calls make is longer than what came in: it says more and counts as full. Else prove '..UptoSaid'. A law counts once. -/
mutual
def uptoBulk {H : Type} : DataW H → Nat
  | .lit (.string bytes) => bytes.length + 1
  | .lit _ => 1
  | .nil => 1
  | .ptr d => uptoBulk d + 1
  | .slice elems spare => uptoBulkAll elems + uptoBulkAll spare + 1
  | .agg parts => uptoBulkAll parts + 1
  | .iface _ d => uptoBulk d + 1
  | .map entries => uptoBulkEntries entries + 1
  | .held _ => 1
def uptoBulkAll {H : Type} : List (DataW H) → Nat
  | [] => 0
  | d :: r => uptoBulk d + uptoBulkAll r
def uptoBulkEntries {H : Type} : List (Lit × DataW H) → Nat
  | [] => 0
  | x :: r => uptoBulkEntry x + uptoBulkEntries r
def uptoBulkEntry {H : Type} : Lit × DataW H → Nat
  | (.string bytes, d) => bytes.length + uptoBulk d + 1
  | (_, d) => uptoBulk d + 1
 end
def uptoSmall : (H : Type) → List (DataW H) → Bool := fun _ ds => decide (uptoBulkAll ds ≤ 1048576)
def OpenSpec.upto (s : _root_.Go.ChangeSpec) : _root_.Go.OpenSpec := { _root_.Go.OpenSpec.ofChange s with cond := some uptoSmall }

/-- 'caulkerlaw03.AddrMay', WHERE WHAT IT READS IS OF BULK AT MOST 1048576: true; the input reads as it did. -/
def addrMayUptoRow : OpenClaim := { program := "ytnpmiocajmhjoaa", sum := "cf93f9f7eb32229464704d93b6769e6d7e54cd97f7b5e787b17ea204cb8375e8", func := "caulker/caulkerlaw03.AddrMay", spec := "addrMay", unfollowed := true, recurses := true, plainKeys := false, apart := false, narrowed := true }
def AddrMayUptoSaid : Prop := addrMayUptoRow.holds Try.pinned (OpenSpec.upto addrMaySpec)

/-- 'caulkerlaw03.AddrOrder', WHERE WHAT IT READS IS OF BULK AT MOST 1048576: true; the input reads as it did. -/
def addrOrderUptoRow : OpenClaim := { program := "ytnpmiocajmhjoaa", sum := "cf93f9f7eb32229464704d93b6769e6d7e54cd97f7b5e787b17ea204cb8375e8", func := "caulker/caulkerlaw03.AddrOrder", spec := "addrOrder", unfollowed := true, recurses := true, plainKeys := false, apart := false, narrowed := true }
def AddrOrderUptoSaid : Prop := addrOrderUptoRow.holds Try.pinned (OpenSpec.upto addrOrderSpec)

/-- 'caulkerlaw03.AddrApart', WHERE WHAT IT READS IS OF BULK AT MOST 1048576: true; the input reads as it did. -/
def addrApartUptoRow : OpenClaim := { program := "ytnpmiocajmhjoaa", sum := "cf93f9f7eb32229464704d93b6769e6d7e54cd97f7b5e787b17ea204cb8375e8", func := "caulker/caulkerlaw03.AddrApart", spec := "addrApart", unfollowed := true, recurses := true, plainKeys := false, apart := false, narrowed := true }
def AddrApartUptoSaid : Prop := addrApartUptoRow.holds Try.pinned (OpenSpec.upto addrApartSpec)

/-- 'caulkerlaw03.AddrSets', WHERE WHAT IT READS IS OF BULK AT MOST 1048576: true; the input reads as it did. -/
def addrSetsUptoRow : OpenClaim := { program := "ytnpmiocajmhjoaa", sum := "cf93f9f7eb32229464704d93b6769e6d7e54cd97f7b5e787b17ea204cb8375e8", func := "caulker/caulkerlaw03.AddrSets", spec := "addrSets", unfollowed := true, recurses := true, plainKeys := false, apart := false, narrowed := true }
def AddrSetsUptoSaid : Prop := addrSetsUptoRow.holds Try.pinned (OpenSpec.upto addrSetsSpec)

/-- 'caulkerlaw03.AddrKnown', WHERE WHAT IT READS IS OF BULK AT MOST 1048576: true; the input reads as it did. -/
def addrKnownUptoRow : OpenClaim := { program := "ytnpmiocajmhjoaa", sum := "cf93f9f7eb32229464704d93b6769e6d7e54cd97f7b5e787b17ea204cb8375e8", func := "caulker/caulkerlaw03.AddrKnown", spec := "addrKnown", unfollowed := true, recurses := true, plainKeys := false, apart := false, narrowed := true }
def AddrKnownUptoSaid : Prop := addrKnownUptoRow.holds Try.pinned (OpenSpec.upto addrKnownSpec)

/-- 'caulkerlaw03.AddrParts', WHERE WHAT IT READS IS OF BULK AT MOST 1048576: true; the input reads as it did. -/
def addrPartsUptoRow : OpenClaim := { program := "ytnpmiocajmhjoaa", sum := "cf93f9f7eb32229464704d93b6769e6d7e54cd97f7b5e787b17ea204cb8375e8", func := "caulker/caulkerlaw03.AddrParts", spec := "addrParts", unfollowed := true, recurses := true, plainKeys := false, apart := false, narrowed := true }
def AddrPartsUptoSaid : Prop := addrPartsUptoRow.holds Try.pinned (OpenSpec.upto addrPartsSpec)

end Rows
end Go.Proofs.Ytnpmiocajmhjoaa
