/-
  DERIVED. GIVEN WITH THE SEED: THE CARDS: each row of YtaiicjhnhbkgmaaGreatDoorRows.lean that lists a variable, with what it lists TIED to the program's text (the seventh form; the later family's looks); each row that meets fmt, with fmt's text TOLD by the authors' own Lean function (tested against real Go, not proved from fmt's source: count such statements apart). THE CARD IS WHAT COUNTS. Prove the row's statement (the work); the ties are given (YtaiicjhnhbkgmaaGreatDoorTie.lean); close each card by the builder's one call (the guide's Derived/Test/ToyasCard.lean, 'card_holds'). Laid BY PROGRAM, IN A SANDBOX (cutbox-door.mjs). By AI agents, Wed Nov 11 2026. No macro, syntax, notation, axiom, sorry.
-/
import Derived.Test.YtaiicjhnhbkgmaaGreatDoorRows
import GoSem.ClaimSeven
namespace Go.Proofs.YtaiicjhnhbkgmaaGreatDoor
namespace Rows

/-- THE TIED CARD OF 'caulkerlaw10.RingBest'. -/
def ringBestCard : Claim7 := { stood := { row := ringBestRow, standIns := [], harness := (true, "230129c8f713e296fe8aaf2d41265a1424594c800e97cf9961525ae71acff13b"), looks := true }, kinds := [], alts := [], laidByText := true, laidKinds := [.sentinel, .sentinel], laidTests := true, laidLooks := .later }
def RingBestCardSaid : Prop := Claim7.holds Tryz.pinned (.plain (OpenSpec.ofChange ringBestSpec)) ringBestCard

/-- THE TIED CARD OF 'caulkerlaw10.RingOrder'. -/
def ringOrderCard : Claim7 := { stood := { row := ringOrderRow, standIns := [], harness := (true, "230129c8f713e296fe8aaf2d41265a1424594c800e97cf9961525ae71acff13b"), looks := true }, kinds := [], alts := [], laidByText := true, laidKinds := [.sentinel, .sentinel], laidTests := true, laidLooks := .later }
def RingOrderCardSaid : Prop := Claim7.holds Tryz.pinned (.plain (OpenSpec.ofChange ringOrderSpec)) ringOrderCard

/-- THE TIED CARD OF 'caulkerlaw10.RingFinds'. -/
def ringFindsCard : Claim7 := { stood := { row := ringFindsRow, standIns := [], harness := (true, "230129c8f713e296fe8aaf2d41265a1424594c800e97cf9961525ae71acff13b"), looks := true }, kinds := [], alts := [], laidByText := true, laidKinds := [.sentinel, .sentinel], laidTests := true, laidLooks := .later }
def RingFindsCardSaid : Prop := Claim7.holds Tryz.pinned (.plain (OpenSpec.ofChange ringFindsSpec)) ringFindsCard

/-- THE TIED CARD OF 'caulkerlaw10.RingKnown'. -/
def ringKnownCard : Claim7 := { stood := { row := ringKnownRow, standIns := [], harness := (true, "230129c8f713e296fe8aaf2d41265a1424594c800e97cf9961525ae71acff13b"), looks := true }, kinds := [], alts := [], laidByText := true, laidKinds := [.sentinel, .sentinel], laidTests := true, laidLooks := .later }
def RingKnownCardSaid : Prop := Claim7.holds Tryz.pinned (.plain (OpenSpec.ofChange ringKnownSpec)) ringKnownCard

/-- THE TIED CARD OF 'caulkerlaw10.RingTurns'. -/
def ringTurnsCard : Claim7 := { stood := { row := ringTurnsRow, standIns := [], harness := (true, "230129c8f713e296fe8aaf2d41265a1424594c800e97cf9961525ae71acff13b"), looks := true }, kinds := [], alts := [], laidByText := true, laidKinds := [.sentinel, .sentinel], laidTests := true, laidLooks := .later }
def RingTurnsCardSaid : Prop := Claim7.holds Tryz.pinned (.plain (OpenSpec.ofChange ringTurnsSpec)) ringTurnsCard

/-- THE TIED CARD OF 'caulkerlaw10.RingLaid'. -/
def ringLaidCard : Claim7 := { stood := { row := ringLaidRow, standIns := [], harness := (true, "230129c8f713e296fe8aaf2d41265a1424594c800e97cf9961525ae71acff13b"), looks := true }, kinds := [], alts := [], laidByText := true, laidKinds := [.sentinel, .sentinel], laidTests := true, laidLooks := .later }
def RingLaidCardSaid : Prop := Claim7.holds Tryz.pinned (.plain (OpenSpec.ofChange ringLaidSpec)) ringLaidCard

/-- THE SECOND FORM's CARD OF 'caulkerlaw10.RingBest'. -/
def ringBestUptoCard : Claim7 := { stood := { row := ringBestUptoRow, standIns := [], harness := (true, "230129c8f713e296fe8aaf2d41265a1424594c800e97cf9961525ae71acff13b"), looks := true }, kinds := [], alts := [], laidByText := true, laidKinds := [.sentinel, .sentinel], laidTests := true, laidLooks := .later }
def RingBestUptoCardSaid : Prop := Claim7.holds Tryz.pinned (.plain (OpenSpec.upto ringBestSpec)) ringBestUptoCard

/-- THE SECOND FORM's CARD OF 'caulkerlaw10.RingOrder'. -/
def ringOrderUptoCard : Claim7 := { stood := { row := ringOrderUptoRow, standIns := [], harness := (true, "230129c8f713e296fe8aaf2d41265a1424594c800e97cf9961525ae71acff13b"), looks := true }, kinds := [], alts := [], laidByText := true, laidKinds := [.sentinel, .sentinel], laidTests := true, laidLooks := .later }
def RingOrderUptoCardSaid : Prop := Claim7.holds Tryz.pinned (.plain (OpenSpec.upto ringOrderSpec)) ringOrderUptoCard

/-- THE SECOND FORM's CARD OF 'caulkerlaw10.RingFinds'. -/
def ringFindsUptoCard : Claim7 := { stood := { row := ringFindsUptoRow, standIns := [], harness := (true, "230129c8f713e296fe8aaf2d41265a1424594c800e97cf9961525ae71acff13b"), looks := true }, kinds := [], alts := [], laidByText := true, laidKinds := [.sentinel, .sentinel], laidTests := true, laidLooks := .later }
def RingFindsUptoCardSaid : Prop := Claim7.holds Tryz.pinned (.plain (OpenSpec.upto ringFindsSpec)) ringFindsUptoCard

/-- THE SECOND FORM's CARD OF 'caulkerlaw10.RingKnown'. -/
def ringKnownUptoCard : Claim7 := { stood := { row := ringKnownUptoRow, standIns := [], harness := (true, "230129c8f713e296fe8aaf2d41265a1424594c800e97cf9961525ae71acff13b"), looks := true }, kinds := [], alts := [], laidByText := true, laidKinds := [.sentinel, .sentinel], laidTests := true, laidLooks := .later }
def RingKnownUptoCardSaid : Prop := Claim7.holds Tryz.pinned (.plain (OpenSpec.upto ringKnownSpec)) ringKnownUptoCard

/-- THE SECOND FORM's CARD OF 'caulkerlaw10.RingTurns'. -/
def ringTurnsUptoCard : Claim7 := { stood := { row := ringTurnsUptoRow, standIns := [], harness := (true, "230129c8f713e296fe8aaf2d41265a1424594c800e97cf9961525ae71acff13b"), looks := true }, kinds := [], alts := [], laidByText := true, laidKinds := [.sentinel, .sentinel], laidTests := true, laidLooks := .later }
def RingTurnsUptoCardSaid : Prop := Claim7.holds Tryz.pinned (.plain (OpenSpec.upto ringTurnsSpec)) ringTurnsUptoCard

/-- THE SECOND FORM's CARD OF 'caulkerlaw10.RingLaid'. -/
def ringLaidUptoCard : Claim7 := { stood := { row := ringLaidUptoRow, standIns := [], harness := (true, "230129c8f713e296fe8aaf2d41265a1424594c800e97cf9961525ae71acff13b"), looks := true }, kinds := [], alts := [], laidByText := true, laidKinds := [.sentinel, .sentinel], laidTests := true, laidLooks := .later }
def RingLaidUptoCardSaid : Prop := Claim7.holds Tryz.pinned (.plain (OpenSpec.upto ringLaidSpec)) ringLaidUptoCard
end Rows
end Go.Proofs.YtaiicjhnhbkgmaaGreatDoor
