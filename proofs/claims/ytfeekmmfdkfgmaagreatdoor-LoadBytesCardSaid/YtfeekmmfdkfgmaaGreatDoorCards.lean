/-
  DERIVED. GIVEN WITH THE SEED: THE CARDS: each row of YtfeekmmfdkfgmaaGreatDoorRows.lean that lists a variable, with what it lists TIED to the program's text (the seventh form; the later family's looks); each row that meets fmt, with fmt's text TOLD by the authors' own Lean function (tested against real Go, not proved from fmt's source: count such statements apart). THE CARD IS WHAT COUNTS. Prove the row's statement (the work); the ties are given (YtfeekmmfdkfgmaaGreatDoorTie.lean); close each card by the builder's one call (the guide's Derived/Test/ToyasCard.lean, 'card_holds'). Laid BY PROGRAM, IN A SANDBOX (cutbox-door.mjs). By AI agents, Wed Nov 11 2026. No macro, syntax, notation, axiom, sorry.
-/
import Derived.Test.YtfeekmmfdkfgmaaGreatDoorRows
import GoSem.ClaimSeven
namespace Go.Proofs.YtfeekmmfdkfgmaaGreatDoor
namespace Rows

/-- THE TIED CARD OF 'plaitlaw18.LoadOf'. -/
def loadOfCard : Claim7 := { stood := { row := loadOfRow, standIns := [], harness := (true, "0235205d3b8335dceb1457eb7fe9e97fd8de0cfab8bb2beddc4a8f20d7c2fa4c"), looks := true }, kinds := [], alts := [], laidByText := true, laidKinds := [.handle], laidTests := true, laidLooks := .later }
def LoadOfCardSaid : Prop := Claim7.holds Tryz.pinned (.plain (OpenSpec.ofChange loadOfSpec)) loadOfCard

/-- THE TIED CARD OF 'plaitlaw18.LoadBytes'. -/
def loadBytesCard : Claim7 := { stood := { row := loadBytesRow, standIns := [], harness := (true, "0235205d3b8335dceb1457eb7fe9e97fd8de0cfab8bb2beddc4a8f20d7c2fa4c"), looks := true }, kinds := [], alts := [], laidByText := true, laidKinds := [.handle], laidTests := true, laidLooks := .later }
def LoadBytesCardSaid : Prop := Claim7.holds Tryz.pinned (.plain (OpenSpec.ofChange loadBytesSpec)) loadBytesCard

/-- THE TIED CARD OF 'plaitlaw16.CoreOf'. -/
def coreOfCard : Claim7 := { stood := { row := coreOfRow, standIns := [], harness := (true, "0235205d3b8335dceb1457eb7fe9e97fd8de0cfab8bb2beddc4a8f20d7c2fa4c"), looks := true }, kinds := [], alts := [], laidByText := true, laidKinds := [.handle], laidTests := true, laidLooks := .later }
def CoreOfCardSaid : Prop := Claim7.holds Tryz.pinned (.plain (OpenSpec.ofChange coreOfSpec)) coreOfCard

/-- THE TIED CARD OF 'plaitlaw18.LoadBack'. -/
def loadBackCard : Claim7 := { stood := { row := loadBackRow, standIns := [], harness := (true, "0235205d3b8335dceb1457eb7fe9e97fd8de0cfab8bb2beddc4a8f20d7c2fa4c"), looks := true }, kinds := [], alts := [], laidByText := true, laidKinds := [.data, .handle], laidTests := true, laidLooks := .later }
def LoadBackCardSaid : Prop := Claim7.holds Tryz.pinned (.plain (OpenSpec.ofChange loadBackSpec)) loadBackCard

/-- THE SECOND FORM's CARD OF 'plaitlaw18.LoadOf'. -/
def loadOfUptoCard : Claim7 := { stood := { row := loadOfUptoRow, standIns := [], harness := (true, "0235205d3b8335dceb1457eb7fe9e97fd8de0cfab8bb2beddc4a8f20d7c2fa4c"), looks := true }, kinds := [], alts := [], laidByText := true, laidKinds := [.handle], laidTests := true, laidLooks := .later }
def LoadOfUptoCardSaid : Prop := Claim7.holds Tryz.pinned (.plain (OpenSpec.upto loadOfSpec)) loadOfUptoCard

/-- THE SECOND FORM's CARD OF 'plaitlaw18.LoadBytes'. -/
def loadBytesUptoCard : Claim7 := { stood := { row := loadBytesUptoRow, standIns := [], harness := (true, "0235205d3b8335dceb1457eb7fe9e97fd8de0cfab8bb2beddc4a8f20d7c2fa4c"), looks := true }, kinds := [], alts := [], laidByText := true, laidKinds := [.handle], laidTests := true, laidLooks := .later }
def LoadBytesUptoCardSaid : Prop := Claim7.holds Tryz.pinned (.plain (OpenSpec.upto loadBytesSpec)) loadBytesUptoCard

/-- THE SECOND FORM's CARD OF 'plaitlaw16.CoreOf'. -/
def coreOfUptoCard : Claim7 := { stood := { row := coreOfUptoRow, standIns := [], harness := (true, "0235205d3b8335dceb1457eb7fe9e97fd8de0cfab8bb2beddc4a8f20d7c2fa4c"), looks := true }, kinds := [], alts := [], laidByText := true, laidKinds := [.handle], laidTests := true, laidLooks := .later }
def CoreOfUptoCardSaid : Prop := Claim7.holds Tryz.pinned (.plain (OpenSpec.upto coreOfSpec)) coreOfUptoCard

/-- THE SECOND FORM's CARD OF 'plaitlaw18.LoadBack'. -/
def loadBackUptoCard : Claim7 := { stood := { row := loadBackUptoRow, standIns := [], harness := (true, "0235205d3b8335dceb1457eb7fe9e97fd8de0cfab8bb2beddc4a8f20d7c2fa4c"), looks := true }, kinds := [], alts := [], laidByText := true, laidKinds := [.data, .handle], laidTests := true, laidLooks := .later }
def LoadBackUptoCardSaid : Prop := Claim7.holds Tryz.pinned (.plain (OpenSpec.upto loadBackSpec)) loadBackUptoCard
end Rows
end Go.Proofs.YtfeekmmfdkfgmaaGreatDoor
