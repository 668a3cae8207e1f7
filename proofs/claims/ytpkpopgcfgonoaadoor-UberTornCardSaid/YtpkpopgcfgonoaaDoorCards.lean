/-
  DERIVED. GIVEN WITH THE SEED: THE CARDS: each row of YtpkpopgcfgonoaaDoorRows.lean that lists a variable, with what it lists TIED to the program's text (the seventh form; the later family's looks); each row that meets fmt, with fmt's text TOLD by the authors' own Lean function (tested against real Go, not proved from fmt's source: count such statements apart). THE CARD IS WHAT COUNTS. Prove the row's statement (the work); the ties are given (YtpkpopgcfgonoaaDoorTie.lean); close each card by the builder's one call (the guide's Derived/Test/ToyasCard.lean, 'card_holds'). Laid BY PROGRAM, IN A SANDBOX (cutbox-door.mjs). By AI agents, Wed Nov 11 2026. No macro, syntax, notation, axiom, sorry.
-/
import Derived.Test.YtpkpopgcfgonoaaDoorRows
import GoSem.ClaimSeven
namespace Go.Proofs.YtpkpopgcfgonoaaDoor
namespace Rows

/-- THE TIED CARD OF 'caulkerlaw09.UberKnown'. -/
def uberKnownCard : Claim7 := { stood := { row := uberKnownRow, standIns := [], harness := (true, "fd68f0c6e721ed028e89a39271cd347da9420e6e59b0ff37afbe0c67866f43cc"), looks := true }, kinds := [], alts := [], laidByText := true, laidKinds := [.sentinel, .sentinel], laidTests := true, laidLooks := .later }
def UberKnownCardSaid : Prop := Claim7.holds Tryd.pinned (.plain (OpenSpec.ofChange uberKnownSpec)) uberKnownCard

/-- THE TIED CARD OF 'caulkerlaw09.UberBack'. -/
def uberBackCard : Claim7 := { stood := { row := uberBackRow, standIns := [], harness := (true, "fd68f0c6e721ed028e89a39271cd347da9420e6e59b0ff37afbe0c67866f43cc"), looks := true }, kinds := [], alts := [], laidByText := true, laidKinds := [.sentinel, .sentinel], laidTests := true, laidLooks := .later }
def UberBackCardSaid : Prop := Claim7.holds Tryd.pinned (.plain (OpenSpec.ofChange uberBackSpec)) uberBackCard

/-- THE TIED CARD OF 'caulkerlaw09.UberTorn'. -/
def uberTornCard : Claim7 := { stood := { row := uberTornRow, standIns := [], harness := (true, "fd68f0c6e721ed028e89a39271cd347da9420e6e59b0ff37afbe0c67866f43cc"), looks := true }, kinds := [], alts := [], laidByText := true, laidKinds := [.sentinel, .sentinel], laidTests := true, laidLooks := .later }
def UberTornCardSaid : Prop := Claim7.holds Tryd.pinned (.plain (OpenSpec.ofChange uberTornSpec)) uberTornCard

/-- THE SECOND FORM's CARD OF 'caulkerlaw09.UberKnown'. -/
def uberKnownUptoCard : Claim7 := { stood := { row := uberKnownUptoRow, standIns := [], harness := (true, "fd68f0c6e721ed028e89a39271cd347da9420e6e59b0ff37afbe0c67866f43cc"), looks := true }, kinds := [], alts := [], laidByText := true, laidKinds := [.sentinel, .sentinel], laidTests := true, laidLooks := .later }
def UberKnownUptoCardSaid : Prop := Claim7.holds Tryd.pinned (.plain (OpenSpec.upto uberKnownSpec)) uberKnownUptoCard

/-- THE SECOND FORM's CARD OF 'caulkerlaw09.UberBack'. -/
def uberBackUptoCard : Claim7 := { stood := { row := uberBackUptoRow, standIns := [], harness := (true, "fd68f0c6e721ed028e89a39271cd347da9420e6e59b0ff37afbe0c67866f43cc"), looks := true }, kinds := [], alts := [], laidByText := true, laidKinds := [.sentinel, .sentinel], laidTests := true, laidLooks := .later }
def UberBackUptoCardSaid : Prop := Claim7.holds Tryd.pinned (.plain (OpenSpec.upto uberBackSpec)) uberBackUptoCard

/-- THE SECOND FORM's CARD OF 'caulkerlaw09.UberTorn'. -/
def uberTornUptoCard : Claim7 := { stood := { row := uberTornUptoRow, standIns := [], harness := (true, "fd68f0c6e721ed028e89a39271cd347da9420e6e59b0ff37afbe0c67866f43cc"), looks := true }, kinds := [], alts := [], laidByText := true, laidKinds := [.sentinel, .sentinel], laidTests := true, laidLooks := .later }
def UberTornUptoCardSaid : Prop := Claim7.holds Tryd.pinned (.plain (OpenSpec.upto uberTornSpec)) uberTornUptoCard
end Rows
end Go.Proofs.YtpkpopgcfgonoaaDoor
