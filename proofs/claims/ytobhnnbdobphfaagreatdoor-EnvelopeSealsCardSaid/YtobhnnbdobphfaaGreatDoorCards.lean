/-
  DERIVED. GIVEN WITH THE SEED: THE CARDS: each row of YtobhnnbdobphfaaGreatDoorRows.lean that lists a variable, with what it lists TIED to the program's text (the seventh form; the later family's looks); each row that meets fmt, with fmt's text TOLD by the authors' own Lean function (tested against real Go, not proved from fmt's source: count such statements apart). THE CARD IS WHAT COUNTS. Prove the row's statement (the work); the ties are given (YtobhnnbdobphfaaGreatDoorTie.lean); close each card by the builder's one call (the guide's Derived/Test/ToyasCard.lean, 'card_holds'). Laid BY PROGRAM, IN A SANDBOX (cutbox-door.mjs). By AI agents, Wed Nov 11 2026. No macro, syntax, notation, axiom, sorry.
-/
import Derived.Test.YtobhnnbdobphfaaGreatDoorRows
import GoSem.ClaimSeven
namespace Go.Proofs.YtobhnnbdobphfaaGreatDoor
namespace Rows

/-- THE TIED CARD OF 'bandplanlaw42.EnvelopeOpens'. -/
def envelopeOpensCard : Claim7 := { stood := { row := envelopeOpensRow, standIns := [], harness := (true, "d347fc042601f405e21d86b9dc011d938d4b73474fb80a0e006b166a7a1a5ee7"), looks := true }, kinds := [], alts := [], laidByText := true, laidKinds := [.data, .pinned], laidTests := true, laidLooks := .later }
def EnvelopeOpensCardSaid : Prop := Claim7.holds Tryz.pinned (.plain (OpenSpec.ofChange envelopeOpensSpec)) envelopeOpensCard

/-- THE TIED CARD OF 'bandplanlaw42.EnvelopeSeals'. -/
def envelopeSealsCard : Claim7 := { stood := { row := envelopeSealsRow, standIns := [], harness := (true, "d347fc042601f405e21d86b9dc011d938d4b73474fb80a0e006b166a7a1a5ee7"), looks := true }, kinds := [], alts := [], laidByText := true, laidKinds := [.data, .pinned], laidTests := true, laidLooks := .later }
def EnvelopeSealsCardSaid : Prop := Claim7.holds Tryz.pinned (.plain (OpenSpec.ofChange envelopeSealsSpec)) envelopeSealsCard

/-- THE TIED CARD OF 'bandplanlaw42.EnvelopeDecodes'. -/
def envelopeDecodesCard : Claim7 := { stood := { row := envelopeDecodesRow, standIns := [], harness := (true, "d347fc042601f405e21d86b9dc011d938d4b73474fb80a0e006b166a7a1a5ee7"), looks := true }, kinds := [], alts := [], laidByText := true, laidKinds := [.data, .pinned], laidTests := true, laidLooks := .later }
def EnvelopeDecodesCardSaid : Prop := Claim7.holds Tryz.pinned (.plain (OpenSpec.ofChange envelopeDecodesSpec)) envelopeDecodesCard

/-- THE TIED CARD OF 'bandplanlaw42.EnvelopeHides'. -/
def envelopeHidesCard : Claim7 := { stood := { row := envelopeHidesRow, standIns := [], harness := (true, "d347fc042601f405e21d86b9dc011d938d4b73474fb80a0e006b166a7a1a5ee7"), looks := true }, kinds := [], alts := [], laidByText := true, laidKinds := [.data, .pinned], laidTests := true, laidLooks := .later }
def EnvelopeHidesCardSaid : Prop := Claim7.holds Tryz.pinned (.plain (OpenSpec.ofChange envelopeHidesSpec)) envelopeHidesCard

/-- THE SECOND FORM's CARD OF 'bandplanlaw42.EnvelopeOpens'. -/
def envelopeOpensUptoCard : Claim7 := { stood := { row := envelopeOpensUptoRow, standIns := [], harness := (true, "d347fc042601f405e21d86b9dc011d938d4b73474fb80a0e006b166a7a1a5ee7"), looks := true }, kinds := [], alts := [], laidByText := true, laidKinds := [.data, .pinned], laidTests := true, laidLooks := .later }
def EnvelopeOpensUptoCardSaid : Prop := Claim7.holds Tryz.pinned (.plain (OpenSpec.upto envelopeOpensSpec)) envelopeOpensUptoCard

/-- THE SECOND FORM's CARD OF 'bandplanlaw42.EnvelopeSeals'. -/
def envelopeSealsUptoCard : Claim7 := { stood := { row := envelopeSealsUptoRow, standIns := [], harness := (true, "d347fc042601f405e21d86b9dc011d938d4b73474fb80a0e006b166a7a1a5ee7"), looks := true }, kinds := [], alts := [], laidByText := true, laidKinds := [.data, .pinned], laidTests := true, laidLooks := .later }
def EnvelopeSealsUptoCardSaid : Prop := Claim7.holds Tryz.pinned (.plain (OpenSpec.upto envelopeSealsSpec)) envelopeSealsUptoCard

/-- THE SECOND FORM's CARD OF 'bandplanlaw42.EnvelopeDecodes'. -/
def envelopeDecodesUptoCard : Claim7 := { stood := { row := envelopeDecodesUptoRow, standIns := [], harness := (true, "d347fc042601f405e21d86b9dc011d938d4b73474fb80a0e006b166a7a1a5ee7"), looks := true }, kinds := [], alts := [], laidByText := true, laidKinds := [.data, .pinned], laidTests := true, laidLooks := .later }
def EnvelopeDecodesUptoCardSaid : Prop := Claim7.holds Tryz.pinned (.plain (OpenSpec.upto envelopeDecodesSpec)) envelopeDecodesUptoCard

/-- THE SECOND FORM's CARD OF 'bandplanlaw42.EnvelopeHides'. -/
def envelopeHidesUptoCard : Claim7 := { stood := { row := envelopeHidesUptoRow, standIns := [], harness := (true, "d347fc042601f405e21d86b9dc011d938d4b73474fb80a0e006b166a7a1a5ee7"), looks := true }, kinds := [], alts := [], laidByText := true, laidKinds := [.data, .pinned], laidTests := true, laidLooks := .later }
def EnvelopeHidesUptoCardSaid : Prop := Claim7.holds Tryz.pinned (.plain (OpenSpec.upto envelopeHidesSpec)) envelopeHidesUptoCard
end Rows
end Go.Proofs.YtobhnnbdobphfaaGreatDoor
