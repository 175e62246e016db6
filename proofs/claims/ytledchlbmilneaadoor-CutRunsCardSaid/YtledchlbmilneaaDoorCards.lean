/-
  DERIVED. GIVEN WITH THE SEED: THE CARDS: each row of YtledchlbmilneaaDoorRows.lean that lists a variable, with what it lists TIED to the program's text (the seventh form; the later family's looks); each row that meets fmt, with fmt's text TOLD by the authors' own Lean function (tested against real Go, not proved from fmt's source: count such statements apart). THE CARD IS WHAT COUNTS. Prove the row's statement (the work); the ties are given (YtledchlbmilneaaDoorTie.lean); close each card by the builder's one call (the guide's Derived/Test/ToyasCard.lean, 'card_holds'). Laid BY PROGRAM, IN A SANDBOX (cutbox-door.mjs). By AI agents, Wed Nov 11 2026. No macro, syntax, notation, axiom, sorry.
-/
import Derived.Test.YtledchlbmilneaaDoorRows
import GoSem.ClaimSeven
namespace Go.Proofs.YtledchlbmilneaaDoor
namespace Rows

/-- THE TIED CARD OF 'plaitlaw04.SeqRuns'. -/
def seqRunsCard : Claim7 := { stood := { row := seqRunsRow, standIns := [], harness := (true, "d4a3815d3e870462357a3b8e4bc7e46e407afa1f88faa110c1b145d344be7b1e"), looks := true }, kinds := [], alts := [], laidByText := true, laidKinds := [.handle], laidTests := true, laidLooks := .later }
def SeqRunsCardSaid : Prop := Claim7.holds Tryd.pinned (.plain (OpenSpec.ofChange seqRunsSpec)) seqRunsCard

/-- THE TIED CARD OF 'plaitlaw05.RingAparts'. -/
def ringApartsCard : Claim7 := { stood := { row := ringApartsRow, standIns := [], harness := (true, "d4a3815d3e870462357a3b8e4bc7e46e407afa1f88faa110c1b145d344be7b1e"), looks := true }, kinds := [], alts := [], laidByText := true, laidKinds := [.handle], laidTests := true, laidLooks := .later }
def RingApartsCardSaid : Prop := Claim7.holds Tryd.pinned (.plain (OpenSpec.ofChange ringApartsSpec)) ringApartsCard

/-- THE TIED CARD OF 'plaitlaw05.RingMerges'. -/
def ringMergesCard : Claim7 := { stood := { row := ringMergesRow, standIns := [], harness := (true, "d4a3815d3e870462357a3b8e4bc7e46e407afa1f88faa110c1b145d344be7b1e"), looks := true }, kinds := [], alts := [], laidByText := true, laidKinds := [.handle], laidTests := true, laidLooks := .later }
def RingMergesCardSaid : Prop := Claim7.holds Tryd.pinned (.plain (OpenSpec.ofChange ringMergesSpec)) ringMergesCard

/-- THE TIED CARD OF 'plaitlaw05.RingNew'. -/
def ringNewCard : Claim7 := { stood := { row := ringNewRow, standIns := [], harness := (true, "d4a3815d3e870462357a3b8e4bc7e46e407afa1f88faa110c1b145d344be7b1e"), looks := true }, kinds := [], alts := [], laidByText := true, laidKinds := [.handle], laidTests := true, laidLooks := .later }
def RingNewCardSaid : Prop := Claim7.holds Tryd.pinned (.plain (OpenSpec.ofChange ringNewSpec)) ringNewCard

/-- THE TIED CARD OF 'plaitlaw05.RingRuns'. -/
def ringRunsCard : Claim7 := { stood := { row := ringRunsRow, standIns := [], harness := (true, "d4a3815d3e870462357a3b8e4bc7e46e407afa1f88faa110c1b145d344be7b1e"), looks := true }, kinds := [], alts := [], laidByText := true, laidKinds := [.handle], laidTests := true, laidLooks := .later }
def RingRunsCardSaid : Prop := Claim7.holds Tryd.pinned (.plain (OpenSpec.ofChange ringRunsSpec)) ringRunsCard

/-- THE TIED CARD OF 'plaitlaw05.RingSplits'. -/
def ringSplitsCard : Claim7 := { stood := { row := ringSplitsRow, standIns := [], harness := (true, "d4a3815d3e870462357a3b8e4bc7e46e407afa1f88faa110c1b145d344be7b1e"), looks := true }, kinds := [], alts := [], laidByText := true, laidKinds := [.handle], laidTests := true, laidLooks := .later }
def RingSplitsCardSaid : Prop := Claim7.holds Tryd.pinned (.plain (OpenSpec.ofChange ringSplitsSpec)) ringSplitsCard

/-- THE TIED CARD OF 'plaitlaw06.CutBack'. -/
def cutBackCard : Claim7 := { stood := { row := cutBackRow, standIns := [], harness := (true, "d4a3815d3e870462357a3b8e4bc7e46e407afa1f88faa110c1b145d344be7b1e"), looks := true }, kinds := [], alts := [], laidByText := true, laidKinds := [.handle], laidTests := true, laidLooks := .later }
def CutBackCardSaid : Prop := Claim7.holds Tryd.pinned (.plain (OpenSpec.ofChange cutBackSpec)) cutBackCard

/-- THE TIED CARD OF 'plaitlaw06.CutCuts'. -/
def cutCutsCard : Claim7 := { stood := { row := cutCutsRow, standIns := [], harness := (true, "d4a3815d3e870462357a3b8e4bc7e46e407afa1f88faa110c1b145d344be7b1e"), looks := true }, kinds := [], alts := [], laidByText := true, laidKinds := [.handle], laidTests := true, laidLooks := .later }
def CutCutsCardSaid : Prop := Claim7.holds Tryd.pinned (.plain (OpenSpec.ofChange cutCutsSpec)) cutCutsCard

/-- THE TIED CARD OF 'plaitlaw06.CutLinks'. -/
def cutLinksCard : Claim7 := { stood := { row := cutLinksRow, standIns := [], harness := (true, "d4a3815d3e870462357a3b8e4bc7e46e407afa1f88faa110c1b145d344be7b1e"), looks := true }, kinds := [], alts := [], laidByText := true, laidKinds := [.handle], laidTests := true, laidLooks := .later }
def CutLinksCardSaid : Prop := Claim7.holds Tryd.pinned (.plain (OpenSpec.ofChange cutLinksSpec)) cutLinksCard

/-- THE TIED CARD OF 'plaitlaw06.CutNew'. -/
def cutNewCard : Claim7 := { stood := { row := cutNewRow, standIns := [], harness := (true, "d4a3815d3e870462357a3b8e4bc7e46e407afa1f88faa110c1b145d344be7b1e"), looks := true }, kinds := [], alts := [], laidByText := true, laidKinds := [.handle], laidTests := true, laidLooks := .later }
def CutNewCardSaid : Prop := Claim7.holds Tryd.pinned (.plain (OpenSpec.ofChange cutNewSpec)) cutNewCard

/-- THE TIED CARD OF 'plaitlaw06.CutRuns'. -/
def cutRunsCard : Claim7 := { stood := { row := cutRunsRow, standIns := [], harness := (true, "d4a3815d3e870462357a3b8e4bc7e46e407afa1f88faa110c1b145d344be7b1e"), looks := true }, kinds := [], alts := [], laidByText := true, laidKinds := [.handle], laidTests := true, laidLooks := .later }
def CutRunsCardSaid : Prop := Claim7.holds Tryd.pinned (.plain (OpenSpec.ofChange cutRunsSpec)) cutRunsCard

/-- THE TIED CARD OF 'plaitlaw06.CutSums'. -/
def cutSumsCard : Claim7 := { stood := { row := cutSumsRow, standIns := [], harness := (true, "d4a3815d3e870462357a3b8e4bc7e46e407afa1f88faa110c1b145d344be7b1e"), looks := true }, kinds := [], alts := [], laidByText := true, laidKinds := [.handle], laidTests := true, laidLooks := .later }
def CutSumsCardSaid : Prop := Claim7.holds Tryd.pinned (.plain (OpenSpec.ofChange cutSumsSpec)) cutSumsCard

/-- THE TIED CARD OF 'plaitlaw06.CutTurned'. -/
def cutTurnedCard : Claim7 := { stood := { row := cutTurnedRow, standIns := [], harness := (true, "d4a3815d3e870462357a3b8e4bc7e46e407afa1f88faa110c1b145d344be7b1e"), looks := true }, kinds := [], alts := [], laidByText := true, laidKinds := [.handle], laidTests := true, laidLooks := .later }
def CutTurnedCardSaid : Prop := Claim7.holds Tryd.pinned (.plain (OpenSpec.ofChange cutTurnedSpec)) cutTurnedCard

/-- THE TIED CARD OF 'plaitlaw14.WebNew'. -/
def webNewCard : Claim7 := { stood := { row := webNewRow, standIns := [], harness := (true, "d4a3815d3e870462357a3b8e4bc7e46e407afa1f88faa110c1b145d344be7b1e"), looks := true }, kinds := [], alts := [], laidByText := true, laidKinds := [.handle], laidTests := true, laidLooks := .later }
def WebNewCardSaid : Prop := Claim7.holds Tryd.pinned (.plain (OpenSpec.ofChange webNewSpec)) webNewCard

/-- THE SECOND FORM's CARD OF 'plaitlaw04.SeqRuns'. -/
def seqRunsUptoCard : Claim7 := { stood := { row := seqRunsUptoRow, standIns := [], harness := (true, "d4a3815d3e870462357a3b8e4bc7e46e407afa1f88faa110c1b145d344be7b1e"), looks := true }, kinds := [], alts := [], laidByText := true, laidKinds := [.handle], laidTests := true, laidLooks := .later }
def SeqRunsUptoCardSaid : Prop := Claim7.holds Tryd.pinned (.plain (OpenSpec.upto seqRunsSpec)) seqRunsUptoCard

/-- THE SECOND FORM's CARD OF 'plaitlaw05.RingAparts'. -/
def ringApartsUptoCard : Claim7 := { stood := { row := ringApartsUptoRow, standIns := [], harness := (true, "d4a3815d3e870462357a3b8e4bc7e46e407afa1f88faa110c1b145d344be7b1e"), looks := true }, kinds := [], alts := [], laidByText := true, laidKinds := [.handle], laidTests := true, laidLooks := .later }
def RingApartsUptoCardSaid : Prop := Claim7.holds Tryd.pinned (.plain (OpenSpec.upto ringApartsSpec)) ringApartsUptoCard

/-- THE SECOND FORM's CARD OF 'plaitlaw05.RingMerges'. -/
def ringMergesUptoCard : Claim7 := { stood := { row := ringMergesUptoRow, standIns := [], harness := (true, "d4a3815d3e870462357a3b8e4bc7e46e407afa1f88faa110c1b145d344be7b1e"), looks := true }, kinds := [], alts := [], laidByText := true, laidKinds := [.handle], laidTests := true, laidLooks := .later }
def RingMergesUptoCardSaid : Prop := Claim7.holds Tryd.pinned (.plain (OpenSpec.upto ringMergesSpec)) ringMergesUptoCard

/-- THE SECOND FORM's CARD OF 'plaitlaw05.RingNew'. -/
def ringNewUptoCard : Claim7 := { stood := { row := ringNewUptoRow, standIns := [], harness := (true, "d4a3815d3e870462357a3b8e4bc7e46e407afa1f88faa110c1b145d344be7b1e"), looks := true }, kinds := [], alts := [], laidByText := true, laidKinds := [.handle], laidTests := true, laidLooks := .later }
def RingNewUptoCardSaid : Prop := Claim7.holds Tryd.pinned (.plain (OpenSpec.upto ringNewSpec)) ringNewUptoCard

/-- THE SECOND FORM's CARD OF 'plaitlaw05.RingRuns'. -/
def ringRunsUptoCard : Claim7 := { stood := { row := ringRunsUptoRow, standIns := [], harness := (true, "d4a3815d3e870462357a3b8e4bc7e46e407afa1f88faa110c1b145d344be7b1e"), looks := true }, kinds := [], alts := [], laidByText := true, laidKinds := [.handle], laidTests := true, laidLooks := .later }
def RingRunsUptoCardSaid : Prop := Claim7.holds Tryd.pinned (.plain (OpenSpec.upto ringRunsSpec)) ringRunsUptoCard

/-- THE SECOND FORM's CARD OF 'plaitlaw05.RingSplits'. -/
def ringSplitsUptoCard : Claim7 := { stood := { row := ringSplitsUptoRow, standIns := [], harness := (true, "d4a3815d3e870462357a3b8e4bc7e46e407afa1f88faa110c1b145d344be7b1e"), looks := true }, kinds := [], alts := [], laidByText := true, laidKinds := [.handle], laidTests := true, laidLooks := .later }
def RingSplitsUptoCardSaid : Prop := Claim7.holds Tryd.pinned (.plain (OpenSpec.upto ringSplitsSpec)) ringSplitsUptoCard

/-- THE SECOND FORM's CARD OF 'plaitlaw06.CutBack'. -/
def cutBackUptoCard : Claim7 := { stood := { row := cutBackUptoRow, standIns := [], harness := (true, "d4a3815d3e870462357a3b8e4bc7e46e407afa1f88faa110c1b145d344be7b1e"), looks := true }, kinds := [], alts := [], laidByText := true, laidKinds := [.handle], laidTests := true, laidLooks := .later }
def CutBackUptoCardSaid : Prop := Claim7.holds Tryd.pinned (.plain (OpenSpec.upto cutBackSpec)) cutBackUptoCard

/-- THE SECOND FORM's CARD OF 'plaitlaw06.CutCuts'. -/
def cutCutsUptoCard : Claim7 := { stood := { row := cutCutsUptoRow, standIns := [], harness := (true, "d4a3815d3e870462357a3b8e4bc7e46e407afa1f88faa110c1b145d344be7b1e"), looks := true }, kinds := [], alts := [], laidByText := true, laidKinds := [.handle], laidTests := true, laidLooks := .later }
def CutCutsUptoCardSaid : Prop := Claim7.holds Tryd.pinned (.plain (OpenSpec.upto cutCutsSpec)) cutCutsUptoCard

/-- THE SECOND FORM's CARD OF 'plaitlaw06.CutLinks'. -/
def cutLinksUptoCard : Claim7 := { stood := { row := cutLinksUptoRow, standIns := [], harness := (true, "d4a3815d3e870462357a3b8e4bc7e46e407afa1f88faa110c1b145d344be7b1e"), looks := true }, kinds := [], alts := [], laidByText := true, laidKinds := [.handle], laidTests := true, laidLooks := .later }
def CutLinksUptoCardSaid : Prop := Claim7.holds Tryd.pinned (.plain (OpenSpec.upto cutLinksSpec)) cutLinksUptoCard

/-- THE SECOND FORM's CARD OF 'plaitlaw06.CutNew'. -/
def cutNewUptoCard : Claim7 := { stood := { row := cutNewUptoRow, standIns := [], harness := (true, "d4a3815d3e870462357a3b8e4bc7e46e407afa1f88faa110c1b145d344be7b1e"), looks := true }, kinds := [], alts := [], laidByText := true, laidKinds := [.handle], laidTests := true, laidLooks := .later }
def CutNewUptoCardSaid : Prop := Claim7.holds Tryd.pinned (.plain (OpenSpec.upto cutNewSpec)) cutNewUptoCard

/-- THE SECOND FORM's CARD OF 'plaitlaw06.CutRuns'. -/
def cutRunsUptoCard : Claim7 := { stood := { row := cutRunsUptoRow, standIns := [], harness := (true, "d4a3815d3e870462357a3b8e4bc7e46e407afa1f88faa110c1b145d344be7b1e"), looks := true }, kinds := [], alts := [], laidByText := true, laidKinds := [.handle], laidTests := true, laidLooks := .later }
def CutRunsUptoCardSaid : Prop := Claim7.holds Tryd.pinned (.plain (OpenSpec.upto cutRunsSpec)) cutRunsUptoCard

/-- THE SECOND FORM's CARD OF 'plaitlaw06.CutSums'. -/
def cutSumsUptoCard : Claim7 := { stood := { row := cutSumsUptoRow, standIns := [], harness := (true, "d4a3815d3e870462357a3b8e4bc7e46e407afa1f88faa110c1b145d344be7b1e"), looks := true }, kinds := [], alts := [], laidByText := true, laidKinds := [.handle], laidTests := true, laidLooks := .later }
def CutSumsUptoCardSaid : Prop := Claim7.holds Tryd.pinned (.plain (OpenSpec.upto cutSumsSpec)) cutSumsUptoCard

/-- THE SECOND FORM's CARD OF 'plaitlaw06.CutTurned'. -/
def cutTurnedUptoCard : Claim7 := { stood := { row := cutTurnedUptoRow, standIns := [], harness := (true, "d4a3815d3e870462357a3b8e4bc7e46e407afa1f88faa110c1b145d344be7b1e"), looks := true }, kinds := [], alts := [], laidByText := true, laidKinds := [.handle], laidTests := true, laidLooks := .later }
def CutTurnedUptoCardSaid : Prop := Claim7.holds Tryd.pinned (.plain (OpenSpec.upto cutTurnedSpec)) cutTurnedUptoCard

/-- THE SECOND FORM's CARD OF 'plaitlaw14.WebNew'. -/
def webNewUptoCard : Claim7 := { stood := { row := webNewUptoRow, standIns := [], harness := (true, "d4a3815d3e870462357a3b8e4bc7e46e407afa1f88faa110c1b145d344be7b1e"), looks := true }, kinds := [], alts := [], laidByText := true, laidKinds := [.handle], laidTests := true, laidLooks := .later }
def WebNewUptoCardSaid : Prop := Claim7.holds Tryd.pinned (.plain (OpenSpec.upto webNewSpec)) webNewUptoCard
end Rows
end Go.Proofs.YtledchlbmilneaaDoor
