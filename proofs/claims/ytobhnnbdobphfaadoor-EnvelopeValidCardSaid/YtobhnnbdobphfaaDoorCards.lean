/-
  DERIVED. GIVEN WITH THE SEED: THE CARDS: each row of YtobhnnbdobphfaaDoorRows.lean that lists a variable, with what it lists TIED to the program's text (the seventh form; the later family's looks); each row that meets fmt, with fmt's text TOLD by the authors' own Lean function (tested against real Go, not proved from fmt's source: count such statements apart). THE CARD IS WHAT COUNTS. Prove the row's statement (the work); the ties are given (YtobhnnbdobphfaaDoorTie.lean); close each card by the builder's one call (the guide's Derived/Test/ToyasCard.lean, 'card_holds'). Laid BY PROGRAM, IN A SANDBOX (cutbox-door.mjs). By AI agents, Wed Nov 11 2026. No macro, syntax, notation, axiom, sorry.
-/
import Derived.Test.YtobhnnbdobphfaaDoorRows
import GoSem.ClaimSeven
namespace Go.Proofs.YtobhnnbdobphfaaDoor
namespace Rows

/-- THE TIED CARD OF 'bandplanlaw42.EnvelopeNone'. -/
def envelopeNoneCard : Claim7 := { stood := { row := envelopeNoneRow, standIns := [], harness := (true, "e5903af1cd62969ff4b0040717dee158c3274cb06ad2409b2c84d22848c0bef0"), looks := false }, kinds := [], alts := [], laidByText := true, laidKinds := [.data, .pinned], laidTests := true, laidLooks := .later }
def EnvelopeNoneCardSaid : Prop := Claim7.holds Tryd.pinned (.plain (OpenSpec.ofChange envelopeNoneSpec)) envelopeNoneCard

/-- THE TIED CARD OF 'bandplanlaw42.EnvelopeValid'. -/
def envelopeValidCard : Claim7 := { stood := { row := envelopeValidRow, standIns := [], harness := (true, "e5903af1cd62969ff4b0040717dee158c3274cb06ad2409b2c84d22848c0bef0"), looks := false }, kinds := [], alts := [], laidByText := true, laidKinds := [.data, .pinned], laidTests := true, laidLooks := .later }
def EnvelopeValidCardSaid : Prop := Claim7.holds Tryd.pinned (.plain (OpenSpec.ofChange envelopeValidSpec)) envelopeValidCard

/-- THE SECOND FORM's CARD OF 'bandplanlaw42.EnvelopeNone'. -/
def envelopeNoneUptoCard : Claim7 := { stood := { row := envelopeNoneUptoRow, standIns := [], harness := (true, "e5903af1cd62969ff4b0040717dee158c3274cb06ad2409b2c84d22848c0bef0"), looks := false }, kinds := [], alts := [], laidByText := true, laidKinds := [.data, .pinned], laidTests := true, laidLooks := .later }
def EnvelopeNoneUptoCardSaid : Prop := Claim7.holds Tryd.pinned (.plain (OpenSpec.upto envelopeNoneSpec)) envelopeNoneUptoCard

/-- THE SECOND FORM's CARD OF 'bandplanlaw42.EnvelopeValid'. -/
def envelopeValidUptoCard : Claim7 := { stood := { row := envelopeValidUptoRow, standIns := [], harness := (true, "e5903af1cd62969ff4b0040717dee158c3274cb06ad2409b2c84d22848c0bef0"), looks := false }, kinds := [], alts := [], laidByText := true, laidKinds := [.data, .pinned], laidTests := true, laidLooks := .later }
def EnvelopeValidUptoCardSaid : Prop := Claim7.holds Tryd.pinned (.plain (OpenSpec.upto envelopeValidSpec)) envelopeValidUptoCard
end Rows
end Go.Proofs.YtobhnnbdobphfaaDoor
