/-
  DERIVED. GIVEN WITH THE SEED: THE CARDS: each row of YtdamhidnlfjkdaaGreatDoorRows.lean that lists a variable, with what it lists TIED to the program's text (the seventh form; the later family's looks); each row that meets fmt, with fmt's text TOLD by the authors' own Lean function (tested against real Go, not proved from fmt's source: count such statements apart). THE CARD IS WHAT COUNTS. Prove the row's statement (the work); the ties are given (YtdamhidnlfjkdaaGreatDoorTie.lean); close each card by the builder's one call (the guide's Derived/Test/ToyasCard.lean, 'card_holds'). Laid BY PROGRAM, IN A SANDBOX (cutbox-door.mjs). By AI agents, Wed Nov 11 2026. No macro, syntax, notation, axiom, sorry.
-/
import Derived.Test.YtdamhidnlfjkdaaGreatDoorRows
import GoSem.ClaimSeven
namespace Go.Proofs.YtdamhidnlfjkdaaGreatDoor
namespace Rows

/-- THE TIED CARD OF 'plaitlaw18.LoadNew'. -/
def loadNewCard : Claim7 := { stood := { row := loadNewRow, standIns := [], harness := (true, "15d08ac959ee3fa2aade513849b2bd8401e97969227528ad46bfa5f2c367335b"), looks := true }, kinds := [], alts := [], laidByText := true, laidKinds := [.handle], laidTests := true, laidLooks := .later }
def LoadNewCardSaid : Prop := Claim7.holds Tryz.pinned (.plain (OpenSpec.ofChange loadNewSpec)) loadNewCard

/-- THE TIED CARD OF 'plaitlaw16.CoreSums'. -/
def coreSumsCard : Claim7 := { stood := { row := coreSumsRow, standIns := [], harness := (true, "15d08ac959ee3fa2aade513849b2bd8401e97969227528ad46bfa5f2c367335b"), looks := true }, kinds := [], alts := [], laidByText := true, laidKinds := [.handle], laidTests := true, laidLooks := .later }
def CoreSumsCardSaid : Prop := Claim7.holds Tryz.pinned (.plain (OpenSpec.ofChange coreSumsSpec)) coreSumsCard

/-- THE SECOND FORM's CARD OF 'plaitlaw18.LoadNew'. -/
def loadNewUptoCard : Claim7 := { stood := { row := loadNewUptoRow, standIns := [], harness := (true, "15d08ac959ee3fa2aade513849b2bd8401e97969227528ad46bfa5f2c367335b"), looks := true }, kinds := [], alts := [], laidByText := true, laidKinds := [.handle], laidTests := true, laidLooks := .later }
def LoadNewUptoCardSaid : Prop := Claim7.holds Tryz.pinned (.plain (OpenSpec.upto loadNewSpec)) loadNewUptoCard

/-- THE SECOND FORM's CARD OF 'plaitlaw16.CoreSums'. -/
def coreSumsUptoCard : Claim7 := { stood := { row := coreSumsUptoRow, standIns := [], harness := (true, "15d08ac959ee3fa2aade513849b2bd8401e97969227528ad46bfa5f2c367335b"), looks := true }, kinds := [], alts := [], laidByText := true, laidKinds := [.handle], laidTests := true, laidLooks := .later }
def CoreSumsUptoCardSaid : Prop := Claim7.holds Tryz.pinned (.plain (OpenSpec.upto coreSumsSpec)) coreSumsUptoCard
end Rows
end Go.Proofs.YtdamhidnlfjkdaaGreatDoor
