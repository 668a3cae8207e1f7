/-
  DERIVED. GIVEN WITH THE SEED: THE CARDS: each row of YtpkpopgcfgonoaaGreatDoorRows.lean that lists a variable, with what it lists TIED to the program's text (the seventh form; the later family's looks); each row that meets fmt, with fmt's text TOLD by the authors' own Lean function (tested against real Go, not proved from fmt's source: count such statements apart). THE CARD IS WHAT COUNTS. Prove the row's statement (the work); the ties are given (YtpkpopgcfgonoaaGreatDoorTie.lean); close each card by the builder's one call (the guide's Derived/Test/ToyasCard.lean, 'card_holds'). Laid BY PROGRAM, IN A SANDBOX (cutbox-door.mjs). By AI agents, Wed Nov 11 2026. No macro, syntax, notation, axiom, sorry.
-/
import Derived.Test.YtpkpopgcfgonoaaGreatDoorRows
import GoSem.ClaimSeven
namespace Go.Proofs.YtpkpopgcfgonoaaGreatDoor
namespace Rows

/-- THE TIED CARD OF 'caulkerlaw09.UberPacks'. -/
def uberPacksCard : Claim7 := { stood := { row := uberPacksRow, standIns := [], harness := (true, "391e094abcf2de75298b2ecf8ae01fcf1077c7c8997b35b8c25a4c1fc8f32ab2"), looks := true }, kinds := [], alts := [], laidByText := true, laidKinds := [.sentinel, .sentinel], laidTests := true, laidLooks := .later }
def UberPacksCardSaid : Prop := Claim7.holds Tryz.pinned (.plain (OpenSpec.ofChange uberPacksSpec)) uberPacksCard

/-- THE TIED CARD OF 'caulkerlaw09.UberReads'. -/
def uberReadsCard : Claim7 := { stood := { row := uberReadsRow, standIns := [], harness := (true, "391e094abcf2de75298b2ecf8ae01fcf1077c7c8997b35b8c25a4c1fc8f32ab2"), looks := true }, kinds := [], alts := [], laidByText := true, laidKinds := [.sentinel, .sentinel], laidTests := true, laidLooks := .later }
def UberReadsCardSaid : Prop := Claim7.holds Tryz.pinned (.plain (OpenSpec.ofChange uberReadsSpec)) uberReadsCard

/-- THE SECOND FORM's CARD OF 'caulkerlaw09.UberPacks'. -/
def uberPacksUptoCard : Claim7 := { stood := { row := uberPacksUptoRow, standIns := [], harness := (true, "391e094abcf2de75298b2ecf8ae01fcf1077c7c8997b35b8c25a4c1fc8f32ab2"), looks := true }, kinds := [], alts := [], laidByText := true, laidKinds := [.sentinel, .sentinel], laidTests := true, laidLooks := .later }
def UberPacksUptoCardSaid : Prop := Claim7.holds Tryz.pinned (.plain (OpenSpec.upto uberPacksSpec)) uberPacksUptoCard

/-- THE SECOND FORM's CARD OF 'caulkerlaw09.UberReads'. -/
def uberReadsUptoCard : Claim7 := { stood := { row := uberReadsUptoRow, standIns := [], harness := (true, "391e094abcf2de75298b2ecf8ae01fcf1077c7c8997b35b8c25a4c1fc8f32ab2"), looks := true }, kinds := [], alts := [], laidByText := true, laidKinds := [.sentinel, .sentinel], laidTests := true, laidLooks := .later }
def UberReadsUptoCardSaid : Prop := Claim7.holds Tryz.pinned (.plain (OpenSpec.upto uberReadsSpec)) uberReadsUptoCard
end Rows
end Go.Proofs.YtpkpopgcfgonoaaGreatDoor
