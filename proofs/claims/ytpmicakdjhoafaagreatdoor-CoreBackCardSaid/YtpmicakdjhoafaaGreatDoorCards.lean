/-
  DERIVED. GIVEN WITH THE SEED: THE CARDS: each row of YtpmicakdjhoafaaGreatDoorRows.lean that lists a variable, with what it lists TIED to the program's text (the seventh form; the later family's looks); each row that meets fmt, with fmt's text TOLD by the authors' own Lean function (tested against real Go, not proved from fmt's source: count such statements apart). THE CARD IS WHAT COUNTS. Prove the row's statement (the work); the ties are given (YtpmicakdjhoafaaGreatDoorTie.lean); close each card by the builder's one call (the guide's Derived/Test/ToyasCard.lean, 'card_holds'). Laid BY PROGRAM, IN A SANDBOX (cutbox-door.mjs). By AI agents, Wed Nov 11 2026. No macro, syntax, notation, axiom, sorry.
-/
import Derived.Test.YtpmicakdjhoafaaGreatDoorRows
import GoSem.ClaimSeven
namespace Go.Proofs.YtpmicakdjhoafaaGreatDoor
namespace Rows

/-- THE TIED CARD OF 'plaitlaw16.CoreTrees'. -/
def coreTreesCard : Claim7 := { stood := { row := coreTreesRow, standIns := [], harness := (true, "f3973ac449b337f88256588e87f72bc8445d5d7cb0c5454f448fc093680c6339"), looks := true }, kinds := [], alts := [], laidByText := true, laidKinds := [.handle], laidTests := true, laidLooks := .later }
def CoreTreesCardSaid : Prop := Claim7.holds Tryz.pinned (.plain (OpenSpec.ofChange coreTreesSpec)) coreTreesCard

/-- THE TIED CARD OF 'plaitlaw16.CoreBridges'. -/
def coreBridgesCard : Claim7 := { stood := { row := coreBridgesRow, standIns := [], harness := (true, "f3973ac449b337f88256588e87f72bc8445d5d7cb0c5454f448fc093680c6339"), looks := true }, kinds := [], alts := [], laidByText := true, laidKinds := [.handle], laidTests := true, laidLooks := .later }
def CoreBridgesCardSaid : Prop := Claim7.holds Tryz.pinned (.plain (OpenSpec.ofChange coreBridgesSpec)) coreBridgesCard

/-- THE TIED CARD OF 'plaitlaw16.CoreWeighs'. -/
def coreWeighsCard : Claim7 := { stood := { row := coreWeighsRow, standIns := [], harness := (true, "f3973ac449b337f88256588e87f72bc8445d5d7cb0c5454f448fc093680c6339"), looks := true }, kinds := [], alts := [], laidByText := true, laidKinds := [.handle], laidTests := true, laidLooks := .later }
def CoreWeighsCardSaid : Prop := Claim7.holds Tryz.pinned (.plain (OpenSpec.ofChange coreWeighsSpec)) coreWeighsCard

/-- THE TIED CARD OF 'plaitlaw16.CoreBack'. -/
def coreBackCard : Claim7 := { stood := { row := coreBackRow, standIns := [], harness := (true, "f3973ac449b337f88256588e87f72bc8445d5d7cb0c5454f448fc093680c6339"), looks := true }, kinds := [], alts := [], laidByText := true, laidKinds := [.handle], laidTests := true, laidLooks := .later }
def CoreBackCardSaid : Prop := Claim7.holds Tryz.pinned (.plain (OpenSpec.ofChange coreBackSpec)) coreBackCard

/-- THE TIED CARD OF 'plaitlaw16.CoreFaces'. -/
def coreFacesCard : Claim7 := { stood := { row := coreFacesRow, standIns := [], harness := (true, "f3973ac449b337f88256588e87f72bc8445d5d7cb0c5454f448fc093680c6339"), looks := true }, kinds := [], alts := [], laidByText := true, laidKinds := [.handle], laidTests := true, laidLooks := .later }
def CoreFacesCardSaid : Prop := Claim7.holds Tryz.pinned (.plain (OpenSpec.ofChange coreFacesSpec)) coreFacesCard

/-- THE TIED CARD OF 'plaitlaw16.CoreChecks'. -/
def coreChecksCard : Claim7 := { stood := { row := coreChecksRow, standIns := [], harness := (true, "f3973ac449b337f88256588e87f72bc8445d5d7cb0c5454f448fc093680c6339"), looks := true }, kinds := [], alts := [], laidByText := true, laidKinds := [.handle], laidTests := true, laidLooks := .later }
def CoreChecksCardSaid : Prop := Claim7.holds Tryz.pinned (.plain (OpenSpec.ofChange coreChecksSpec)) coreChecksCard

/-- THE SECOND FORM's CARD OF 'plaitlaw16.CoreTrees'. -/
def coreTreesUptoCard : Claim7 := { stood := { row := coreTreesUptoRow, standIns := [], harness := (true, "f3973ac449b337f88256588e87f72bc8445d5d7cb0c5454f448fc093680c6339"), looks := true }, kinds := [], alts := [], laidByText := true, laidKinds := [.handle], laidTests := true, laidLooks := .later }
def CoreTreesUptoCardSaid : Prop := Claim7.holds Tryz.pinned (.plain (OpenSpec.upto coreTreesSpec)) coreTreesUptoCard

/-- THE SECOND FORM's CARD OF 'plaitlaw16.CoreBridges'. -/
def coreBridgesUptoCard : Claim7 := { stood := { row := coreBridgesUptoRow, standIns := [], harness := (true, "f3973ac449b337f88256588e87f72bc8445d5d7cb0c5454f448fc093680c6339"), looks := true }, kinds := [], alts := [], laidByText := true, laidKinds := [.handle], laidTests := true, laidLooks := .later }
def CoreBridgesUptoCardSaid : Prop := Claim7.holds Tryz.pinned (.plain (OpenSpec.upto coreBridgesSpec)) coreBridgesUptoCard

/-- THE SECOND FORM's CARD OF 'plaitlaw16.CoreWeighs'. -/
def coreWeighsUptoCard : Claim7 := { stood := { row := coreWeighsUptoRow, standIns := [], harness := (true, "f3973ac449b337f88256588e87f72bc8445d5d7cb0c5454f448fc093680c6339"), looks := true }, kinds := [], alts := [], laidByText := true, laidKinds := [.handle], laidTests := true, laidLooks := .later }
def CoreWeighsUptoCardSaid : Prop := Claim7.holds Tryz.pinned (.plain (OpenSpec.upto coreWeighsSpec)) coreWeighsUptoCard

/-- THE SECOND FORM's CARD OF 'plaitlaw16.CoreBack'. -/
def coreBackUptoCard : Claim7 := { stood := { row := coreBackUptoRow, standIns := [], harness := (true, "f3973ac449b337f88256588e87f72bc8445d5d7cb0c5454f448fc093680c6339"), looks := true }, kinds := [], alts := [], laidByText := true, laidKinds := [.handle], laidTests := true, laidLooks := .later }
def CoreBackUptoCardSaid : Prop := Claim7.holds Tryz.pinned (.plain (OpenSpec.upto coreBackSpec)) coreBackUptoCard

/-- THE SECOND FORM's CARD OF 'plaitlaw16.CoreFaces'. -/
def coreFacesUptoCard : Claim7 := { stood := { row := coreFacesUptoRow, standIns := [], harness := (true, "f3973ac449b337f88256588e87f72bc8445d5d7cb0c5454f448fc093680c6339"), looks := true }, kinds := [], alts := [], laidByText := true, laidKinds := [.handle], laidTests := true, laidLooks := .later }
def CoreFacesUptoCardSaid : Prop := Claim7.holds Tryz.pinned (.plain (OpenSpec.upto coreFacesSpec)) coreFacesUptoCard

/-- THE SECOND FORM's CARD OF 'plaitlaw16.CoreChecks'. -/
def coreChecksUptoCard : Claim7 := { stood := { row := coreChecksUptoRow, standIns := [], harness := (true, "f3973ac449b337f88256588e87f72bc8445d5d7cb0c5454f448fc093680c6339"), looks := true }, kinds := [], alts := [], laidByText := true, laidKinds := [.handle], laidTests := true, laidLooks := .later }
def CoreChecksUptoCardSaid : Prop := Claim7.holds Tryz.pinned (.plain (OpenSpec.upto coreChecksSpec)) coreChecksUptoCard
end Rows
end Go.Proofs.YtpmicakdjhoafaaGreatDoor
