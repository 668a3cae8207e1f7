/-
  DERIVED. GIVEN WITH THE SEED: THE CARDS: each row of YtjkbekifgobeaaaGreatDoorRows.lean that lists a variable, with what it lists TIED to the program's text (the seventh form; the later family's looks); each row that meets fmt, with fmt's text TOLD by the authors' own Lean function (tested against real Go, not proved from fmt's source: count such statements apart). THE CARD IS WHAT COUNTS. Prove the row's statement (the work); the ties are given (YtjkbekifgobeaaaGreatDoorTie.lean); close each card by the builder's one call (the guide's Derived/Test/ToyasCard.lean, 'card_holds'). Laid BY PROGRAM, IN A SANDBOX (cutbox-door.mjs). By AI agents, Wed Nov 11 2026. No macro, syntax, notation, axiom, sorry.
-/
import Derived.Test.YtjkbekifgobeaaaGreatDoorRows
import GoSem.ClaimSeven
namespace Go.Proofs.YtjkbekifgobeaaaGreatDoor
namespace Rows

/-- THE TIED CARD OF 'caulkerlaw21.MetaNone'. -/
def metaNoneCard : Claim7 := { stood := { row := metaNoneRow, standIns := [], harness := (true, "cbe1002f3191bf97d774e81da37088e810bb562a8e3e20dd9b2bb33b29d78d35"), looks := true }, kinds := [], alts := [], laidByText := true, laidKinds := [.data, .pinned], laidTests := true, laidLooks := .later }
def MetaNoneCardSaid : Prop := Claim7.holds Tryz.pinned (.plain (OpenSpec.ofChange metaNoneSpec)) metaNoneCard

/-- THE TIED CARD OF 'caulkerlaw21.MetaKnown'. -/
def metaKnownCard : Claim7 := { stood := { row := metaKnownRow, standIns := [], harness := (true, "cbe1002f3191bf97d774e81da37088e810bb562a8e3e20dd9b2bb33b29d78d35"), looks := true }, kinds := [], alts := [], laidByText := true, laidKinds := [.data, .pinned], laidTests := true, laidLooks := .later }
def MetaKnownCardSaid : Prop := Claim7.holds Tryz.pinned (.plain (OpenSpec.ofChange metaKnownSpec)) metaKnownCard

/-- THE TIED CARD OF 'caulkerlaw21.MetaBack'. -/
def metaBackCard : Claim7 := { stood := { row := metaBackRow, standIns := [], harness := (true, "cbe1002f3191bf97d774e81da37088e810bb562a8e3e20dd9b2bb33b29d78d35"), looks := true }, kinds := [], alts := [], laidByText := true, laidKinds := [.data, .pinned], laidTests := true, laidLooks := .later }
def MetaBackCardSaid : Prop := Claim7.holds Tryz.pinned (.plain (OpenSpec.ofChange metaBackSpec)) metaBackCard

/-- THE TIED CARD OF 'caulkerlaw21.MetaBlocks'. -/
def metaBlocksCard : Claim7 := { stood := { row := metaBlocksRow, standIns := [], harness := (true, "cbe1002f3191bf97d774e81da37088e810bb562a8e3e20dd9b2bb33b29d78d35"), looks := true }, kinds := [], alts := [], laidByText := true, laidKinds := [.data, .pinned], laidTests := true, laidLooks := .later }
def MetaBlocksCardSaid : Prop := Claim7.holds Tryz.pinned (.plain (OpenSpec.ofChange metaBlocksSpec)) metaBlocksCard

/-- THE SECOND FORM's CARD OF 'caulkerlaw21.MetaNone'. -/
def metaNoneUptoCard : Claim7 := { stood := { row := metaNoneUptoRow, standIns := [], harness := (true, "cbe1002f3191bf97d774e81da37088e810bb562a8e3e20dd9b2bb33b29d78d35"), looks := true }, kinds := [], alts := [], laidByText := true, laidKinds := [.data, .pinned], laidTests := true, laidLooks := .later }
def MetaNoneUptoCardSaid : Prop := Claim7.holds Tryz.pinned (.plain (OpenSpec.upto metaNoneSpec)) metaNoneUptoCard

/-- THE SECOND FORM's CARD OF 'caulkerlaw21.MetaKnown'. -/
def metaKnownUptoCard : Claim7 := { stood := { row := metaKnownUptoRow, standIns := [], harness := (true, "cbe1002f3191bf97d774e81da37088e810bb562a8e3e20dd9b2bb33b29d78d35"), looks := true }, kinds := [], alts := [], laidByText := true, laidKinds := [.data, .pinned], laidTests := true, laidLooks := .later }
def MetaKnownUptoCardSaid : Prop := Claim7.holds Tryz.pinned (.plain (OpenSpec.upto metaKnownSpec)) metaKnownUptoCard

/-- THE SECOND FORM's CARD OF 'caulkerlaw21.MetaBack'. -/
def metaBackUptoCard : Claim7 := { stood := { row := metaBackUptoRow, standIns := [], harness := (true, "cbe1002f3191bf97d774e81da37088e810bb562a8e3e20dd9b2bb33b29d78d35"), looks := true }, kinds := [], alts := [], laidByText := true, laidKinds := [.data, .pinned], laidTests := true, laidLooks := .later }
def MetaBackUptoCardSaid : Prop := Claim7.holds Tryz.pinned (.plain (OpenSpec.upto metaBackSpec)) metaBackUptoCard

/-- THE SECOND FORM's CARD OF 'caulkerlaw21.MetaBlocks'. -/
def metaBlocksUptoCard : Claim7 := { stood := { row := metaBlocksUptoRow, standIns := [], harness := (true, "cbe1002f3191bf97d774e81da37088e810bb562a8e3e20dd9b2bb33b29d78d35"), looks := true }, kinds := [], alts := [], laidByText := true, laidKinds := [.data, .pinned], laidTests := true, laidLooks := .later }
def MetaBlocksUptoCardSaid : Prop := Claim7.holds Tryz.pinned (.plain (OpenSpec.upto metaBlocksSpec)) metaBlocksUptoCard
end Rows
end Go.Proofs.YtjkbekifgobeaaaGreatDoor
