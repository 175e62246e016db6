/-
  DERIVED. GIVEN WITH THE SEED: THE CARDS: each row of YtaoemljoiahapaaDoorRows.lean that lists a variable, with what it lists TIED to the program's text (the seventh form; the later family's looks); each row that meets fmt, with fmt's text TOLD by the authors' own Lean function (tested against real Go, not proved from fmt's source: count such statements apart). THE CARD IS WHAT COUNTS. Prove the row's statement (the work); the ties are given (YtaoemljoiahapaaDoorTie.lean); close each card by the builder's one call (the guide's Derived/Test/ToyasCard.lean, 'card_holds'). Laid BY PROGRAM, IN A SANDBOX (cutbox-door.mjs). By AI agents, Wed Nov 11 2026. No macro, syntax, notation, axiom, sorry.
-/
import Derived.Test.YtaoemljoiahapaaDoorRows
import GoSem.ClaimSeven
namespace Go.Proofs.YtaoemljoiahapaaDoor
namespace Rows

/-- THE TIED CARD OF 'plaitlaw14.WebNew'. -/
def webNewCard : Claim7 := { stood := { row := webNewRow, standIns := [], harness := (true, "a6dd1c01d4af6fbff63e23b4a09940986dad9fc9bd9cb20c75bf385468ccf6b9"), looks := true }, kinds := [], alts := [], laidByText := true, laidKinds := [.handle], laidTests := true, laidLooks := .later }
def WebNewCardSaid : Prop := Claim7.holds Tryd.pinned (.plain (OpenSpec.ofChange webNewSpec)) webNewCard

/-- THE SECOND FORM's CARD OF 'plaitlaw14.WebNew'. -/
def webNewUptoCard : Claim7 := { stood := { row := webNewUptoRow, standIns := [], harness := (true, "a6dd1c01d4af6fbff63e23b4a09940986dad9fc9bd9cb20c75bf385468ccf6b9"), looks := true }, kinds := [], alts := [], laidByText := true, laidKinds := [.handle], laidTests := true, laidLooks := .later }
def WebNewUptoCardSaid : Prop := Claim7.holds Tryd.pinned (.plain (OpenSpec.upto webNewSpec)) webNewUptoCard
end Rows
end Go.Proofs.YtaoemljoiahapaaDoor
