/-
  DERIVED. GIVEN WITH THE SEED: THE CARDS: each row of YtoeinblfcbpcmaaGreatDoorRows.lean that lists a variable, with what it lists TIED to the program's text (the seventh form; the later family's looks); each row that meets fmt, with fmt's text TOLD by the authors' own Lean function (tested against real Go, not proved from fmt's source: count such statements apart). THE CARD IS WHAT COUNTS. Prove the row's statement (the work); the ties are given (YtoeinblfcbpcmaaGreatDoorTie.lean); close each card by the builder's one call (the guide's Derived/Test/ToyasCard.lean, 'card_holds'). Laid BY PROGRAM, IN A SANDBOX (cutbox-door.mjs). By AI agents, Wed Nov 11 2026. No macro, syntax, notation, axiom, sorry.
-/
import Derived.Test.YtoeinblfcbpcmaaGreatDoorRows
import GoSem.ClaimSeven
namespace Go.Proofs.YtoeinblfcbpcmaaGreatDoor
namespace Rows

/-- THE TIED CARD OF 'caulkerlaw18.CoreRoom'. -/
def coreRoomCard : Claim7 := { stood := { row := coreRoomRow, standIns := [], harness := (true, "4795b45920a6dcfe536b31271714007ac862ebbbf21699db0b01ca86f9490b41"), looks := true }, kinds := [], alts := [], laidByText := true, laidKinds := [.sentinel, .sentinel], laidTests := true, laidLooks := .later }
def CoreRoomCardSaid : Prop := Claim7.holds Tryz.pinned (.plain (OpenSpec.ofChange coreRoomSpec)) coreRoomCard

/-- THE TIED CARD OF 'caulkerlaw18.CoreKnown'. -/
def coreKnownCard : Claim7 := { stood := { row := coreKnownRow, standIns := [], harness := (true, "4795b45920a6dcfe536b31271714007ac862ebbbf21699db0b01ca86f9490b41"), looks := true }, kinds := [], alts := [], laidByText := true, laidKinds := [.sentinel, .sentinel], laidTests := true, laidLooks := .later }
def CoreKnownCardSaid : Prop := Claim7.holds Tryz.pinned (.plain (OpenSpec.ofChange coreKnownSpec)) coreKnownCard

/-- THE TIED CARD OF 'caulkerlaw18.CoreNone'. -/
def coreNoneCard : Claim7 := { stood := { row := coreNoneRow, standIns := [], harness := (true, "4795b45920a6dcfe536b31271714007ac862ebbbf21699db0b01ca86f9490b41"), looks := true }, kinds := [], alts := [], laidByText := true, laidKinds := [.sentinel, .sentinel], laidTests := true, laidLooks := .later }
def CoreNoneCardSaid : Prop := Claim7.holds Tryz.pinned (.plain (OpenSpec.ofChange coreNoneSpec)) coreNoneCard

/-- THE SECOND FORM's CARD OF 'caulkerlaw18.CoreRoom'. -/
def coreRoomUptoCard : Claim7 := { stood := { row := coreRoomUptoRow, standIns := [], harness := (true, "4795b45920a6dcfe536b31271714007ac862ebbbf21699db0b01ca86f9490b41"), looks := true }, kinds := [], alts := [], laidByText := true, laidKinds := [.sentinel, .sentinel], laidTests := true, laidLooks := .later }
def CoreRoomUptoCardSaid : Prop := Claim7.holds Tryz.pinned (.plain (OpenSpec.upto coreRoomSpec)) coreRoomUptoCard

/-- THE SECOND FORM's CARD OF 'caulkerlaw18.CoreKnown'. -/
def coreKnownUptoCard : Claim7 := { stood := { row := coreKnownUptoRow, standIns := [], harness := (true, "4795b45920a6dcfe536b31271714007ac862ebbbf21699db0b01ca86f9490b41"), looks := true }, kinds := [], alts := [], laidByText := true, laidKinds := [.sentinel, .sentinel], laidTests := true, laidLooks := .later }
def CoreKnownUptoCardSaid : Prop := Claim7.holds Tryz.pinned (.plain (OpenSpec.upto coreKnownSpec)) coreKnownUptoCard

/-- THE SECOND FORM's CARD OF 'caulkerlaw18.CoreNone'. -/
def coreNoneUptoCard : Claim7 := { stood := { row := coreNoneUptoRow, standIns := [], harness := (true, "4795b45920a6dcfe536b31271714007ac862ebbbf21699db0b01ca86f9490b41"), looks := true }, kinds := [], alts := [], laidByText := true, laidKinds := [.sentinel, .sentinel], laidTests := true, laidLooks := .later }
def CoreNoneUptoCardSaid : Prop := Claim7.holds Tryz.pinned (.plain (OpenSpec.upto coreNoneSpec)) coreNoneUptoCard
end Rows
end Go.Proofs.YtoeinblfcbpcmaaGreatDoor
