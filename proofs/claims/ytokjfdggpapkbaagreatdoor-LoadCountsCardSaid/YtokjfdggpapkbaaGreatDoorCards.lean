/-
  DERIVED. GIVEN WITH THE SEED: THE CARDS: each row of YtokjfdggpapkbaaGreatDoorRows.lean that lists a variable, with what it lists TIED to the program's text (the seventh form; the later family's looks); each row that meets fmt, with fmt's text TOLD by the authors' own Lean function (tested against real Go, not proved from fmt's source: count such statements apart). THE CARD IS WHAT COUNTS. Prove the row's statement (the work); the ties are given (YtokjfdggpapkbaaGreatDoorTie.lean); close each card by the builder's one call (the guide's Derived/Test/ToyasCard.lean, 'card_holds'). Laid BY PROGRAM, IN A SANDBOX (cutbox-door.mjs). By AI agents, Wed Nov 11 2026. No macro, syntax, notation, axiom, sorry.
-/
import Derived.Test.YtokjfdggpapkbaaGreatDoorRows
import GoSem.ClaimSeven
namespace Go.Proofs.YtokjfdggpapkbaaGreatDoor
namespace Rows

/-- THE TIED CARD OF 'plaitlaw18.LoadOf'. -/
def loadOfCard : Claim7 := { stood := { row := loadOfRow, standIns := [], harness := (true, "22e8fa71b9ad28be87664478ab3c950e1471eff174cd5fedc10eb82961dfec73"), looks := true }, kinds := [], alts := [], laidByText := true, laidKinds := [.handle], laidTests := true, laidLooks := .later }
def LoadOfCardSaid : Prop := Claim7.holds Tryz.pinned (.plain (OpenSpec.ofChange loadOfSpec)) loadOfCard

/-- THE TIED CARD OF 'plaitlaw18.LoadCounts'. -/
def loadCountsCard : Claim7 := { stood := { row := loadCountsRow, standIns := [], harness := (true, "22e8fa71b9ad28be87664478ab3c950e1471eff174cd5fedc10eb82961dfec73"), looks := true }, kinds := [], alts := [], laidByText := true, laidKinds := [.handle], laidTests := true, laidLooks := .later }
def LoadCountsCardSaid : Prop := Claim7.holds Tryz.pinned (.plain (OpenSpec.ofChange loadCountsSpec)) loadCountsCard

/-- THE TIED CARD OF 'plaitlaw18.LoadBytes'. -/
def loadBytesCard : Claim7 := { stood := { row := loadBytesRow, standIns := [], harness := (true, "22e8fa71b9ad28be87664478ab3c950e1471eff174cd5fedc10eb82961dfec73"), looks := true }, kinds := [], alts := [], laidByText := true, laidKinds := [.handle], laidTests := true, laidLooks := .later }
def LoadBytesCardSaid : Prop := Claim7.holds Tryz.pinned (.plain (OpenSpec.ofChange loadBytesSpec)) loadBytesCard

/-- THE TIED CARD OF 'plaitlaw16.CoreOf'. -/
def coreOfCard : Claim7 := { stood := { row := coreOfRow, standIns := [], harness := (true, "22e8fa71b9ad28be87664478ab3c950e1471eff174cd5fedc10eb82961dfec73"), looks := true }, kinds := [], alts := [], laidByText := true, laidKinds := [.handle], laidTests := true, laidLooks := .later }
def CoreOfCardSaid : Prop := Claim7.holds Tryz.pinned (.plain (OpenSpec.ofChange coreOfSpec)) coreOfCard

/-- THE TIED CARD OF 'plaitlaw18.LoadBack'. -/
def loadBackCard : Claim7 := { stood := { row := loadBackRow, standIns := [], harness := (true, "22e8fa71b9ad28be87664478ab3c950e1471eff174cd5fedc10eb82961dfec73"), looks := true }, kinds := [], alts := [], laidByText := true, laidKinds := [.data, .handle], laidTests := true, laidLooks := .later }
def LoadBackCardSaid : Prop := Claim7.holds Tryz.pinned (.plain (OpenSpec.ofChange loadBackSpec)) loadBackCard

/-- THE TIED CARD OF 'plaitlaw21.ServeNew'. -/
def serveNewCard : Claim7 := { stood := { row := serveNewRow, standIns := [], harness := (true, "22e8fa71b9ad28be87664478ab3c950e1471eff174cd5fedc10eb82961dfec73"), looks := true }, kinds := [], alts := [], laidByText := true, laidKinds := [.data, .handle, .data], laidTests := true, laidLooks := .later }
def ServeNewCardSaid : Prop := Claim7.holds Tryz.pinned (.plain (OpenSpec.ofChange serveNewSpec)) serveNewCard

/-- THE TIED CARD OF 'plaitlaw22.RunSplits'. -/
def runSplitsCard : Claim7 := { stood := { row := runSplitsRow, standIns := [], harness := (true, "22e8fa71b9ad28be87664478ab3c950e1471eff174cd5fedc10eb82961dfec73"), looks := true }, kinds := [], alts := [], laidByText := true, laidKinds := [.data, .handle, .data], laidTests := true, laidLooks := .later }
def RunSplitsCardSaid : Prop := Claim7.holds Tryz.pinned (.plain (OpenSpec.ofChange runSplitsSpec)) runSplitsCard

/-- THE SECOND FORM's CARD OF 'plaitlaw18.LoadOf'. -/
def loadOfUptoCard : Claim7 := { stood := { row := loadOfUptoRow, standIns := [], harness := (true, "22e8fa71b9ad28be87664478ab3c950e1471eff174cd5fedc10eb82961dfec73"), looks := true }, kinds := [], alts := [], laidByText := true, laidKinds := [.handle], laidTests := true, laidLooks := .later }
def LoadOfUptoCardSaid : Prop := Claim7.holds Tryz.pinned (.plain (OpenSpec.upto loadOfSpec)) loadOfUptoCard

/-- THE SECOND FORM's CARD OF 'plaitlaw18.LoadCounts'. -/
def loadCountsUptoCard : Claim7 := { stood := { row := loadCountsUptoRow, standIns := [], harness := (true, "22e8fa71b9ad28be87664478ab3c950e1471eff174cd5fedc10eb82961dfec73"), looks := true }, kinds := [], alts := [], laidByText := true, laidKinds := [.handle], laidTests := true, laidLooks := .later }
def LoadCountsUptoCardSaid : Prop := Claim7.holds Tryz.pinned (.plain (OpenSpec.upto loadCountsSpec)) loadCountsUptoCard

/-- THE SECOND FORM's CARD OF 'plaitlaw18.LoadBytes'. -/
def loadBytesUptoCard : Claim7 := { stood := { row := loadBytesUptoRow, standIns := [], harness := (true, "22e8fa71b9ad28be87664478ab3c950e1471eff174cd5fedc10eb82961dfec73"), looks := true }, kinds := [], alts := [], laidByText := true, laidKinds := [.handle], laidTests := true, laidLooks := .later }
def LoadBytesUptoCardSaid : Prop := Claim7.holds Tryz.pinned (.plain (OpenSpec.upto loadBytesSpec)) loadBytesUptoCard

/-- THE SECOND FORM's CARD OF 'plaitlaw16.CoreOf'. -/
def coreOfUptoCard : Claim7 := { stood := { row := coreOfUptoRow, standIns := [], harness := (true, "22e8fa71b9ad28be87664478ab3c950e1471eff174cd5fedc10eb82961dfec73"), looks := true }, kinds := [], alts := [], laidByText := true, laidKinds := [.handle], laidTests := true, laidLooks := .later }
def CoreOfUptoCardSaid : Prop := Claim7.holds Tryz.pinned (.plain (OpenSpec.upto coreOfSpec)) coreOfUptoCard

/-- THE SECOND FORM's CARD OF 'plaitlaw18.LoadBack'. -/
def loadBackUptoCard : Claim7 := { stood := { row := loadBackUptoRow, standIns := [], harness := (true, "22e8fa71b9ad28be87664478ab3c950e1471eff174cd5fedc10eb82961dfec73"), looks := true }, kinds := [], alts := [], laidByText := true, laidKinds := [.data, .handle], laidTests := true, laidLooks := .later }
def LoadBackUptoCardSaid : Prop := Claim7.holds Tryz.pinned (.plain (OpenSpec.upto loadBackSpec)) loadBackUptoCard

/-- THE SECOND FORM's CARD OF 'plaitlaw21.ServeNew'. -/
def serveNewUptoCard : Claim7 := { stood := { row := serveNewUptoRow, standIns := [], harness := (true, "22e8fa71b9ad28be87664478ab3c950e1471eff174cd5fedc10eb82961dfec73"), looks := true }, kinds := [], alts := [], laidByText := true, laidKinds := [.data, .handle, .data], laidTests := true, laidLooks := .later }
def ServeNewUptoCardSaid : Prop := Claim7.holds Tryz.pinned (.plain (OpenSpec.upto serveNewSpec)) serveNewUptoCard

/-- THE SECOND FORM's CARD OF 'plaitlaw22.RunSplits'. -/
def runSplitsUptoCard : Claim7 := { stood := { row := runSplitsUptoRow, standIns := [], harness := (true, "22e8fa71b9ad28be87664478ab3c950e1471eff174cd5fedc10eb82961dfec73"), looks := true }, kinds := [], alts := [], laidByText := true, laidKinds := [.data, .handle, .data], laidTests := true, laidLooks := .later }
def RunSplitsUptoCardSaid : Prop := Claim7.holds Tryz.pinned (.plain (OpenSpec.upto runSplitsSpec)) runSplitsUptoCard
end Rows
end Go.Proofs.YtokjfdggpapkbaaGreatDoor
