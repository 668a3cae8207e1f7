/-
  DERIVED. GIVEN WITH THE SEED: THE CARDS: each row of YthihofpfonfjfaaGreatDoorRows.lean that lists a variable, with what it lists TIED to the program's text (the seventh form; the later family's looks); each row that meets fmt, with fmt's text TOLD by the authors' own Lean function (tested against real Go, not proved from fmt's source: count such statements apart). THE CARD IS WHAT COUNTS. Prove the row's statement (the work); the ties are given (YthihofpfonfjfaaGreatDoorTie.lean); close each card by the builder's one call (the guide's Derived/Test/ToyasCard.lean, 'card_holds'). Laid BY PROGRAM, IN A SANDBOX (cutbox-door.mjs). By AI agents, Wed Nov 11 2026. No macro, syntax, notation, axiom, sorry.
-/
import Derived.Test.YthihofpfonfjfaaGreatDoorRows
import GoSem.ClaimSeven
namespace Go.Proofs.YthihofpfonfjfaaGreatDoor
namespace Rows

/-- THE TIED CARD OF 'caulkerlaw21.MetaBack'. -/
def metaBackCard : Claim7 := { stood := { row := metaBackRow, standIns := [], harness := (true, "9b796d6ad888a54649a0f6f8400fd58b3708fabee7c3d3002b864f9677d4395e"), looks := true }, kinds := [], alts := [], laidByText := true, laidKinds := [.data, .pinned], laidTests := true, laidLooks := .later }
def MetaBackCardSaid : Prop := Claim7.holds Tryz.pinned (.plain (OpenSpec.ofChange metaBackSpec)) metaBackCard

/-- THE SECOND FORM's CARD OF 'caulkerlaw21.MetaBack'. -/
def metaBackUptoCard : Claim7 := { stood := { row := metaBackUptoRow, standIns := [], harness := (true, "9b796d6ad888a54649a0f6f8400fd58b3708fabee7c3d3002b864f9677d4395e"), looks := true }, kinds := [], alts := [], laidByText := true, laidKinds := [.data, .pinned], laidTests := true, laidLooks := .later }
def MetaBackUptoCardSaid : Prop := Claim7.holds Tryz.pinned (.plain (OpenSpec.upto metaBackSpec)) metaBackUptoCard
end Rows
end Go.Proofs.YthihofpfonfjfaaGreatDoor
