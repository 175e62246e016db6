/-
  DERIVED. GIVEN WITH THE SEED: THE CARDS: each row of YtfhdnmeciohmlaaDoorRows.lean that lists a variable, with what it lists TIED to the program's text (the seventh form; the later family's looks); each row that meets fmt, with fmt's text TOLD by the authors' own Lean function (tested against real Go, not proved from fmt's source: count such statements apart). THE CARD IS WHAT COUNTS. Prove the row's statement (the work); the ties are given (YtfhdnmeciohmlaaDoorTie.lean); close each card by the builder's one call (the guide's Derived/Test/ToyasCard.lean, 'card_holds'). Laid BY PROGRAM, IN A SANDBOX (cutbox-door.mjs). By AI agents, Wed Nov 11 2026. No macro, syntax, notation, axiom, sorry.
-/
import Derived.Test.YtfhdnmeciohmlaaDoorRows
import GoSem.ClaimSeven
namespace Go.Proofs.YtfhdnmeciohmlaaDoor
namespace Rows

/-- THE TIED CARD OF 'plaitlaw04.SeqTwice'. -/
def seqTwiceCard : Claim7 := { stood := { row := seqTwiceRow, standIns := [], harness := (true, "985064da5baaf9b2875cb0e60bb8716a46417d794251bd4d15ed40e7d6b0d3d7"), looks := true }, kinds := [], alts := [], laidByText := true, laidKinds := [.handle], laidTests := true, laidLooks := .later }
def SeqTwiceCardSaid : Prop := Claim7.holds Tryd.pinned (.plain (OpenSpec.ofChange seqTwiceSpec)) seqTwiceCard

/-- THE TIED CARD OF 'plaitlaw04.SeqJoins'. -/
def seqJoinsCard : Claim7 := { stood := { row := seqJoinsRow, standIns := [], harness := (true, "985064da5baaf9b2875cb0e60bb8716a46417d794251bd4d15ed40e7d6b0d3d7"), looks := true }, kinds := [], alts := [], laidByText := true, laidKinds := [.handle], laidTests := true, laidLooks := .later }
def SeqJoinsCardSaid : Prop := Claim7.holds Tryd.pinned (.plain (OpenSpec.ofChange seqJoinsSpec)) seqJoinsCard

/-- THE TIED CARD OF 'plaitlaw04.SeqOnce'. -/
def seqOnceCard : Claim7 := { stood := { row := seqOnceRow, standIns := [], harness := (true, "985064da5baaf9b2875cb0e60bb8716a46417d794251bd4d15ed40e7d6b0d3d7"), looks := true }, kinds := [], alts := [], laidByText := true, laidKinds := [.handle], laidTests := true, laidLooks := .later }
def SeqOnceCardSaid : Prop := Claim7.holds Tryd.pinned (.plain (OpenSpec.ofChange seqOnceSpec)) seqOnceCard

/-- THE TIED CARD OF 'plaitlaw04.SeqTurns'. -/
def seqTurnsCard : Claim7 := { stood := { row := seqTurnsRow, standIns := [], harness := (true, "985064da5baaf9b2875cb0e60bb8716a46417d794251bd4d15ed40e7d6b0d3d7"), looks := true }, kinds := [], alts := [], laidByText := true, laidKinds := [.handle], laidTests := true, laidLooks := .later }
def SeqTurnsCardSaid : Prop := Claim7.holds Tryd.pinned (.plain (OpenSpec.ofChange seqTurnsSpec)) seqTurnsCard

/-- THE TIED CARD OF 'plaitlaw04.SeqLeast'. -/
def seqLeastCard : Claim7 := { stood := { row := seqLeastRow, standIns := [], harness := (true, "985064da5baaf9b2875cb0e60bb8716a46417d794251bd4d15ed40e7d6b0d3d7"), looks := true }, kinds := [], alts := [], laidByText := true, laidKinds := [.handle], laidTests := true, laidLooks := .later }
def SeqLeastCardSaid : Prop := Claim7.holds Tryd.pinned (.plain (OpenSpec.ofChange seqLeastSpec)) seqLeastCard

/-- THE TIED CARD OF 'plaitlaw04.SeqRuns'. -/
def seqRunsCard : Claim7 := { stood := { row := seqRunsRow, standIns := [], harness := (true, "985064da5baaf9b2875cb0e60bb8716a46417d794251bd4d15ed40e7d6b0d3d7"), looks := true }, kinds := [], alts := [], laidByText := true, laidKinds := [.handle], laidTests := true, laidLooks := .later }
def SeqRunsCardSaid : Prop := Claim7.holds Tryd.pinned (.plain (OpenSpec.ofChange seqRunsSpec)) seqRunsCard

/-- THE TIED CARD OF 'plaitlaw04.SeqNew'. -/
def seqNewCard : Claim7 := { stood := { row := seqNewRow, standIns := [], harness := (true, "985064da5baaf9b2875cb0e60bb8716a46417d794251bd4d15ed40e7d6b0d3d7"), looks := true }, kinds := [], alts := [], laidByText := true, laidKinds := [.handle], laidTests := true, laidLooks := .later }
def SeqNewCardSaid : Prop := Claim7.holds Tryd.pinned (.plain (OpenSpec.ofChange seqNewSpec)) seqNewCard

/-- THE SECOND FORM's CARD OF 'plaitlaw04.SeqTwice'. -/
def seqTwiceUptoCard : Claim7 := { stood := { row := seqTwiceUptoRow, standIns := [], harness := (true, "985064da5baaf9b2875cb0e60bb8716a46417d794251bd4d15ed40e7d6b0d3d7"), looks := true }, kinds := [], alts := [], laidByText := true, laidKinds := [.handle], laidTests := true, laidLooks := .later }
def SeqTwiceUptoCardSaid : Prop := Claim7.holds Tryd.pinned (.plain (OpenSpec.upto seqTwiceSpec)) seqTwiceUptoCard

/-- THE SECOND FORM's CARD OF 'plaitlaw04.SeqJoins'. -/
def seqJoinsUptoCard : Claim7 := { stood := { row := seqJoinsUptoRow, standIns := [], harness := (true, "985064da5baaf9b2875cb0e60bb8716a46417d794251bd4d15ed40e7d6b0d3d7"), looks := true }, kinds := [], alts := [], laidByText := true, laidKinds := [.handle], laidTests := true, laidLooks := .later }
def SeqJoinsUptoCardSaid : Prop := Claim7.holds Tryd.pinned (.plain (OpenSpec.upto seqJoinsSpec)) seqJoinsUptoCard

/-- THE SECOND FORM's CARD OF 'plaitlaw04.SeqOnce'. -/
def seqOnceUptoCard : Claim7 := { stood := { row := seqOnceUptoRow, standIns := [], harness := (true, "985064da5baaf9b2875cb0e60bb8716a46417d794251bd4d15ed40e7d6b0d3d7"), looks := true }, kinds := [], alts := [], laidByText := true, laidKinds := [.handle], laidTests := true, laidLooks := .later }
def SeqOnceUptoCardSaid : Prop := Claim7.holds Tryd.pinned (.plain (OpenSpec.upto seqOnceSpec)) seqOnceUptoCard

/-- THE SECOND FORM's CARD OF 'plaitlaw04.SeqTurns'. -/
def seqTurnsUptoCard : Claim7 := { stood := { row := seqTurnsUptoRow, standIns := [], harness := (true, "985064da5baaf9b2875cb0e60bb8716a46417d794251bd4d15ed40e7d6b0d3d7"), looks := true }, kinds := [], alts := [], laidByText := true, laidKinds := [.handle], laidTests := true, laidLooks := .later }
def SeqTurnsUptoCardSaid : Prop := Claim7.holds Tryd.pinned (.plain (OpenSpec.upto seqTurnsSpec)) seqTurnsUptoCard

/-- THE SECOND FORM's CARD OF 'plaitlaw04.SeqLeast'. -/
def seqLeastUptoCard : Claim7 := { stood := { row := seqLeastUptoRow, standIns := [], harness := (true, "985064da5baaf9b2875cb0e60bb8716a46417d794251bd4d15ed40e7d6b0d3d7"), looks := true }, kinds := [], alts := [], laidByText := true, laidKinds := [.handle], laidTests := true, laidLooks := .later }
def SeqLeastUptoCardSaid : Prop := Claim7.holds Tryd.pinned (.plain (OpenSpec.upto seqLeastSpec)) seqLeastUptoCard

/-- THE SECOND FORM's CARD OF 'plaitlaw04.SeqRuns'. -/
def seqRunsUptoCard : Claim7 := { stood := { row := seqRunsUptoRow, standIns := [], harness := (true, "985064da5baaf9b2875cb0e60bb8716a46417d794251bd4d15ed40e7d6b0d3d7"), looks := true }, kinds := [], alts := [], laidByText := true, laidKinds := [.handle], laidTests := true, laidLooks := .later }
def SeqRunsUptoCardSaid : Prop := Claim7.holds Tryd.pinned (.plain (OpenSpec.upto seqRunsSpec)) seqRunsUptoCard

/-- THE SECOND FORM's CARD OF 'plaitlaw04.SeqNew'. -/
def seqNewUptoCard : Claim7 := { stood := { row := seqNewUptoRow, standIns := [], harness := (true, "985064da5baaf9b2875cb0e60bb8716a46417d794251bd4d15ed40e7d6b0d3d7"), looks := true }, kinds := [], alts := [], laidByText := true, laidKinds := [.handle], laidTests := true, laidLooks := .later }
def SeqNewUptoCardSaid : Prop := Claim7.holds Tryd.pinned (.plain (OpenSpec.upto seqNewSpec)) seqNewUptoCard
end Rows
end Go.Proofs.YtfhdnmeciohmlaaDoor
