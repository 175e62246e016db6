/-
  DERIVED. GIVEN WITH THE SEED: THE CARDS: each row of YtaoemljoiahapaaGreatDoorRows.lean that lists a variable, with what it lists TIED to the program's text (the seventh form; the later family's looks); each row that meets fmt, with fmt's text TOLD by the authors' own Lean function (tested against real Go, not proved from fmt's source: count such statements apart). THE CARD IS WHAT COUNTS. Prove the row's statement (the work); the ties are given (YtaoemljoiahapaaGreatDoorTie.lean); close each card by the builder's one call (the guide's Derived/Test/ToyasCard.lean, 'card_holds'). Laid BY PROGRAM, IN A SANDBOX (cutbox-door.mjs). By AI agents, Wed Nov 11 2026. No macro, syntax, notation, axiom, sorry.
-/
import Derived.Test.YtaoemljoiahapaaGreatDoorRows
import GoSem.ClaimSeven
namespace Go.Proofs.YtaoemljoiahapaaGreatDoor
namespace Rows

/-- THE TIED CARD OF 'plaitlaw14.WebTies'. -/
def webTiesCard : Claim7 := { stood := { row := webTiesRow, standIns := [], harness := (true, "e474ef85a0e0995c28d4978d8bcf7272f05a086f219ba0ced79d15980e9e8b4c"), looks := true }, kinds := [], alts := [], laidByText := true, laidKinds := [.handle], laidTests := true, laidLooks := .later }
def WebTiesCardSaid : Prop := Claim7.holds Tryz.pinned (.plain (OpenSpec.ofChange webTiesSpec)) webTiesCard

/-- THE TIED CARD OF 'plaitlaw14.WebRoads'. -/
def webRoadsCard : Claim7 := { stood := { row := webRoadsRow, standIns := [], harness := (true, "e474ef85a0e0995c28d4978d8bcf7272f05a086f219ba0ced79d15980e9e8b4c"), looks := true }, kinds := [], alts := [], laidByText := true, laidKinds := [.handle], laidTests := true, laidLooks := .later }
def WebRoadsCardSaid : Prop := Claim7.holds Tryz.pinned (.plain (OpenSpec.ofChange webRoadsSpec)) webRoadsCard

/-- THE TIED CARD OF 'plaitlaw14.WebApart'. -/
def webApartCard : Claim7 := { stood := { row := webApartRow, standIns := [], harness := (true, "e474ef85a0e0995c28d4978d8bcf7272f05a086f219ba0ced79d15980e9e8b4c"), looks := true }, kinds := [], alts := [], laidByText := true, laidKinds := [.handle], laidTests := true, laidLooks := .later }
def WebApartCardSaid : Prop := Claim7.holds Tryz.pinned (.plain (OpenSpec.ofChange webApartSpec)) webApartCard

/-- THE TIED CARD OF 'plaitlaw14.WebRuns'. -/
def webRunsCard : Claim7 := { stood := { row := webRunsRow, standIns := [], harness := (true, "e474ef85a0e0995c28d4978d8bcf7272f05a086f219ba0ced79d15980e9e8b4c"), looks := true }, kinds := [], alts := [], laidByText := true, laidKinds := [.handle], laidTests := true, laidLooks := .later }
def WebRunsCardSaid : Prop := Claim7.holds Tryz.pinned (.plain (OpenSpec.ofChange webRunsSpec)) webRunsCard

/-- THE SECOND FORM's CARD OF 'plaitlaw14.WebTies'. -/
def webTiesUptoCard : Claim7 := { stood := { row := webTiesUptoRow, standIns := [], harness := (true, "e474ef85a0e0995c28d4978d8bcf7272f05a086f219ba0ced79d15980e9e8b4c"), looks := true }, kinds := [], alts := [], laidByText := true, laidKinds := [.handle], laidTests := true, laidLooks := .later }
def WebTiesUptoCardSaid : Prop := Claim7.holds Tryz.pinned (.plain (OpenSpec.upto webTiesSpec)) webTiesUptoCard

/-- THE SECOND FORM's CARD OF 'plaitlaw14.WebRoads'. -/
def webRoadsUptoCard : Claim7 := { stood := { row := webRoadsUptoRow, standIns := [], harness := (true, "e474ef85a0e0995c28d4978d8bcf7272f05a086f219ba0ced79d15980e9e8b4c"), looks := true }, kinds := [], alts := [], laidByText := true, laidKinds := [.handle], laidTests := true, laidLooks := .later }
def WebRoadsUptoCardSaid : Prop := Claim7.holds Tryz.pinned (.plain (OpenSpec.upto webRoadsSpec)) webRoadsUptoCard

/-- THE SECOND FORM's CARD OF 'plaitlaw14.WebApart'. -/
def webApartUptoCard : Claim7 := { stood := { row := webApartUptoRow, standIns := [], harness := (true, "e474ef85a0e0995c28d4978d8bcf7272f05a086f219ba0ced79d15980e9e8b4c"), looks := true }, kinds := [], alts := [], laidByText := true, laidKinds := [.handle], laidTests := true, laidLooks := .later }
def WebApartUptoCardSaid : Prop := Claim7.holds Tryz.pinned (.plain (OpenSpec.upto webApartSpec)) webApartUptoCard

/-- THE SECOND FORM's CARD OF 'plaitlaw14.WebRuns'. -/
def webRunsUptoCard : Claim7 := { stood := { row := webRunsUptoRow, standIns := [], harness := (true, "e474ef85a0e0995c28d4978d8bcf7272f05a086f219ba0ced79d15980e9e8b4c"), looks := true }, kinds := [], alts := [], laidByText := true, laidKinds := [.handle], laidTests := true, laidLooks := .later }
def WebRunsUptoCardSaid : Prop := Claim7.holds Tryz.pinned (.plain (OpenSpec.upto webRunsSpec)) webRunsUptoCard
end Rows
end Go.Proofs.YtaoemljoiahapaaGreatDoor
