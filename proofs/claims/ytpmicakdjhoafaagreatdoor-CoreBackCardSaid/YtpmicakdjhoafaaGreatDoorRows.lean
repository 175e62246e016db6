/-
  NARROWER THAN 'FOR EVERY INPUT', by the rows' own cells (each row's printed sentence says how): CoreTrees: laid · CoreBridges: laid · CoreWeighs: laid · CoreBack: laid · CoreFaces: laid · CoreChecks: laid.
  DERIVED. THE GIVEN ROWS OF THIS SEAT. 6 by the template 'for every input the law returns true; each argument reads behind the call as it read before'; 0 by the template 'total and deterministic' (their statements: YtpmicakdjhoafaaGreatDoorTotals.lean).
  GIVEN WITH THE SEED: the statements are not yours to turn. If you find one false, say at which input.
  Laid BY PROGRAM, IN A SANDBOX (cutbox-rows.mjs): the forced cells as the released guide's own fill.sh prints them over the translation 73a79cf4aaa42923… (all of the seat's roots in one cut). By AI agents, Wed Nov 11 2026. No macro, syntax, notation, axiom, sorry.
-/
import Derived.Test.YtpmicakdjhoafaaGreatDoorChecked
import GoSem.Claim
import GoSem.ClaimJoined
import GoSem.ClaimMapViews
import Derived.JoinedTies
import Derived.KernelRfl
namespace Go.Proofs.YtpmicakdjhoafaaGreatDoor
/- THE CELL 'sum', in the pinned program and in every row, IS THE sha256 OF THE DUMP (.gsa) THAT YtpmicakdjhoafaaGreatDoorProg.lean LOADS. Nothing in Lean hashes anything: it is a label: what it is worth is what the hold of that sum in a sandbox is worth. -/
noncomputable def Tryz.pinned : Pinned := { name := "ytpmicakdjhoafaagreatdoor", sum := "73a79cf4aaa429231bd61d4951300a65f66a04f8e77d3915fedf9c06f385384e", checked := Tryz.checked }
namespace Rows
def none {H : Type} : Left H := { results := [], args := [] }

/- WHAT THE LISTED PACKAGE-LEVEL VARIABLES READ AS WHEN THE CALL BEGINS. Each datum BY PROGRAM (the guide's laid-datum.mjs) off the statement by which the dump's own 'gosem.cut.vars' lays the variable. In a bare row this is a premise. The card (YtpmicakdjhoafaaGreatDoorCards.lean) ties it to the program's text. -/
def laid_errors_errorType {H : Type} : DataW H := .iface "internal/reflectlite.rtype" (.agg [.ptr (.lit (.string [101, 114, 114, 111, 114]))])

/-- 'plaitlaw16.CoreTrees': WHATEVER THE INPUT: true; the input reads as it did. -/
def coreTreesSpec : ChangeSpec := { name := "coreTrees", fn := fun _ => fun
  | [d1, d2] => { results := [.lit (.bool true)], args := [d1, d2] }
  | _ => none }
def coreTreesRow : OpenClaim := { program := "ytpmicakdjhoafaagreatdoor", sum := "73a79cf4aaa429231bd61d4951300a65f66a04f8e77d3915fedf9c06f385384e", func := "plait/plaitlaw16.CoreTrees", spec := "coreTrees", inPlace := ["internal/reflectlite.ValueOf", "(internal/reflectlite.Value).Type", "(internal/reflectlite.Value).IsNil", "internal/reflectlite.TypeOf", "(internal/reflectlite.Value).Elem", "(internal/reflectlite.Value).Set"], unfollowed := true, recurses := true, named := ["errors.errorType"], apart := false, laid := [("errors.errorType", laid_errors_errorType)] }
def CoreTreesSaid : Prop := coreTreesRow.holds Tryz.pinned (OpenSpec.ofChange coreTreesSpec)

/-- ITS FALSE NEIGHBOUR: 'it returns false'. Refute it at one input. -/
def coreTreesWrong : ChangeSpec := { name := "coreTrees", fn := fun _ => fun
  | [d1, d2] => { results := [.lit (.bool false)], args := [d1, d2] }
  | _ => none }
def CoreTreesWrongFalsely : Prop := coreTreesRow.holds Tryz.pinned (OpenSpec.ofChange coreTreesWrong)

/-- 'plaitlaw16.CoreBridges': WHATEVER THE INPUT: true; the input reads as it did. -/
def coreBridgesSpec : ChangeSpec := { name := "coreBridges", fn := fun _ => fun
  | [d1, d2] => { results := [.lit (.bool true)], args := [d1, d2] }
  | _ => none }
def coreBridgesRow : OpenClaim := { program := "ytpmicakdjhoafaagreatdoor", sum := "73a79cf4aaa429231bd61d4951300a65f66a04f8e77d3915fedf9c06f385384e", func := "plait/plaitlaw16.CoreBridges", spec := "coreBridges", inPlace := ["internal/reflectlite.ValueOf", "(internal/reflectlite.Value).Type", "(internal/reflectlite.Value).IsNil", "internal/reflectlite.TypeOf", "(internal/reflectlite.Value).Elem", "(internal/reflectlite.Value).Set"], unfollowed := true, recurses := true, named := ["errors.errorType"], apart := false, laid := [("errors.errorType", laid_errors_errorType)] }
def CoreBridgesSaid : Prop := coreBridgesRow.holds Tryz.pinned (OpenSpec.ofChange coreBridgesSpec)

/-- ITS FALSE NEIGHBOUR: 'it returns false'. Refute it at one input. -/
def coreBridgesWrong : ChangeSpec := { name := "coreBridges", fn := fun _ => fun
  | [d1, d2] => { results := [.lit (.bool false)], args := [d1, d2] }
  | _ => none }
def CoreBridgesWrongFalsely : Prop := coreBridgesRow.holds Tryz.pinned (OpenSpec.ofChange coreBridgesWrong)

/-- 'plaitlaw16.CoreWeighs': WHATEVER THE INPUT: true; the input reads as it did. -/
def coreWeighsSpec : ChangeSpec := { name := "coreWeighs", fn := fun _ => fun
  | [d1, d2] => { results := [.lit (.bool true)], args := [d1, d2] }
  | _ => none }
def coreWeighsRow : OpenClaim := { program := "ytpmicakdjhoafaagreatdoor", sum := "73a79cf4aaa429231bd61d4951300a65f66a04f8e77d3915fedf9c06f385384e", func := "plait/plaitlaw16.CoreWeighs", spec := "coreWeighs", inPlace := ["internal/reflectlite.ValueOf", "(internal/reflectlite.Value).Type", "(internal/reflectlite.Value).IsNil", "internal/reflectlite.TypeOf", "(internal/reflectlite.Value).Elem", "(internal/reflectlite.Value).Set"], unfollowed := true, recurses := true, named := ["errors.errorType"], apart := false, laid := [("errors.errorType", laid_errors_errorType)] }
def CoreWeighsSaid : Prop := coreWeighsRow.holds Tryz.pinned (OpenSpec.ofChange coreWeighsSpec)

/-- ITS FALSE NEIGHBOUR: 'it returns false'. Refute it at one input. -/
def coreWeighsWrong : ChangeSpec := { name := "coreWeighs", fn := fun _ => fun
  | [d1, d2] => { results := [.lit (.bool false)], args := [d1, d2] }
  | _ => none }
def CoreWeighsWrongFalsely : Prop := coreWeighsRow.holds Tryz.pinned (OpenSpec.ofChange coreWeighsWrong)

/-- 'plaitlaw16.CoreBack': WHATEVER THE INPUT: true; the input reads as it did. -/
def coreBackSpec : ChangeSpec := { name := "coreBack", fn := fun _ => fun
  | [d1, d2, d3] => { results := [.lit (.bool true)], args := [d1, d2, d3] }
  | _ => none }
def coreBackRow : OpenClaim := { program := "ytpmicakdjhoafaagreatdoor", sum := "73a79cf4aaa429231bd61d4951300a65f66a04f8e77d3915fedf9c06f385384e", func := "plait/plaitlaw16.CoreBack", spec := "coreBack", inPlace := ["internal/reflectlite.ValueOf", "(internal/reflectlite.Value).Type", "(internal/reflectlite.Value).IsNil", "internal/reflectlite.TypeOf", "(internal/reflectlite.Value).Elem", "(internal/reflectlite.Value).Set"], unfollowed := true, recurses := true, named := ["errors.errorType"], apart := false, laid := [("errors.errorType", laid_errors_errorType)] }
def CoreBackSaid : Prop := coreBackRow.holds Tryz.pinned (OpenSpec.ofChange coreBackSpec)

/-- ITS FALSE NEIGHBOUR: 'it returns false'. Refute it at one input. -/
def coreBackWrong : ChangeSpec := { name := "coreBack", fn := fun _ => fun
  | [d1, d2, d3] => { results := [.lit (.bool false)], args := [d1, d2, d3] }
  | _ => none }
def CoreBackWrongFalsely : Prop := coreBackRow.holds Tryz.pinned (OpenSpec.ofChange coreBackWrong)

/-- 'plaitlaw16.CoreFaces': WHATEVER THE INPUT: true; the input reads as it did. -/
def coreFacesSpec : ChangeSpec := { name := "coreFaces", fn := fun _ => fun
  | [d1, d2] => { results := [.lit (.bool true)], args := [d1, d2] }
  | _ => none }
def coreFacesRow : OpenClaim := { program := "ytpmicakdjhoafaagreatdoor", sum := "73a79cf4aaa429231bd61d4951300a65f66a04f8e77d3915fedf9c06f385384e", func := "plait/plaitlaw16.CoreFaces", spec := "coreFaces", inPlace := ["internal/reflectlite.ValueOf", "(internal/reflectlite.Value).Type", "(internal/reflectlite.Value).IsNil", "internal/reflectlite.TypeOf", "(internal/reflectlite.Value).Elem", "(internal/reflectlite.Value).Set"], unfollowed := true, recurses := true, named := ["errors.errorType"], apart := false, laid := [("errors.errorType", laid_errors_errorType)] }
def CoreFacesSaid : Prop := coreFacesRow.holds Tryz.pinned (OpenSpec.ofChange coreFacesSpec)

/-- ITS FALSE NEIGHBOUR: 'it returns false'. Refute it at one input. -/
def coreFacesWrong : ChangeSpec := { name := "coreFaces", fn := fun _ => fun
  | [d1, d2] => { results := [.lit (.bool false)], args := [d1, d2] }
  | _ => none }
def CoreFacesWrongFalsely : Prop := coreFacesRow.holds Tryz.pinned (OpenSpec.ofChange coreFacesWrong)

/-- 'plaitlaw16.CoreChecks': WHATEVER THE INPUT: true; the input reads as it did. -/
def coreChecksSpec : ChangeSpec := { name := "coreChecks", fn := fun _ => fun
  | [d1, d2, d3] => { results := [.lit (.bool true)], args := [d1, d2, d3] }
  | _ => none }
def coreChecksRow : OpenClaim := { program := "ytpmicakdjhoafaagreatdoor", sum := "73a79cf4aaa429231bd61d4951300a65f66a04f8e77d3915fedf9c06f385384e", func := "plait/plaitlaw16.CoreChecks", spec := "coreChecks", inPlace := ["internal/reflectlite.ValueOf", "(internal/reflectlite.Value).Type", "(internal/reflectlite.Value).IsNil", "internal/reflectlite.TypeOf", "(internal/reflectlite.Value).Elem", "(internal/reflectlite.Value).Set"], unfollowed := true, recurses := true, named := ["errors.errorType"], apart := false, laid := [("errors.errorType", laid_errors_errorType)] }
def CoreChecksSaid : Prop := coreChecksRow.holds Tryz.pinned (OpenSpec.ofChange coreChecksSpec)

/-- ITS FALSE NEIGHBOUR: 'it returns false'. Refute it at one input. -/
def coreChecksWrong : ChangeSpec := { name := "coreChecks", fn := fun _ => fun
  | [d1, d2, d3] => { results := [.lit (.bool false)], args := [d1, d2, d3] }
  | _ => none }
def CoreChecksWrongFalsely : Prop := coreChecksRow.holds Tryz.pinned (OpenSpec.ofChange coreChecksWrong)

/- THE SECOND FORM. 'bulk': how many values and letters a reading holds, each counted each time it is reached (what is shared counts as often as it is met; a slice's spare places count too). A statement '..UptoSaid' is the law's where the arguments, and the package variables that the reading takes, are together of bulk at most 1048576: NARROWER than '..Said'. Prove '..Said' where nothing that the law and all that it calls make is longer than what came in: it says more and counts as full. Else prove '..UptoSaid'. A law counts once. -/
mutual
def uptoBulk {H : Type} : DataW H → Nat
  | .lit (.string bytes) => bytes.length + 1
  | .lit _ => 1
  | .nil => 1
  | .ptr d => uptoBulk d + 1
  | .slice elems spare => uptoBulkAll elems + uptoBulkAll spare + 1
  | .agg parts => uptoBulkAll parts + 1
  | .iface _ d => uptoBulk d + 1
  | .map entries => uptoBulkEntries entries + 1
  | .held _ => 1
def uptoBulkAll {H : Type} : List (DataW H) → Nat
  | [] => 0
  | d :: r => uptoBulk d + uptoBulkAll r
def uptoBulkEntries {H : Type} : List (Lit × DataW H) → Nat
  | [] => 0
  | x :: r => uptoBulkEntry x + uptoBulkEntries r
def uptoBulkEntry {H : Type} : Lit × DataW H → Nat
  | (.string bytes, d) => bytes.length + uptoBulk d + 1
  | (_, d) => uptoBulk d + 1
 end
def uptoSmall : (H : Type) → List (DataW H) → Bool := fun _ ds => decide (uptoBulkAll ds ≤ 1048576)
def OpenSpec.upto (s : _root_.Go.ChangeSpec) : _root_.Go.OpenSpec := { _root_.Go.OpenSpec.ofChange s with cond := some uptoSmall }

/-- 'plaitlaw16.CoreTrees', WHERE WHAT IT READS IS OF BULK AT MOST 1048576: true; the input reads as it did. -/
def coreTreesUptoRow : OpenClaim := { program := "ytpmicakdjhoafaagreatdoor", sum := "73a79cf4aaa429231bd61d4951300a65f66a04f8e77d3915fedf9c06f385384e", func := "plait/plaitlaw16.CoreTrees", spec := "coreTrees", inPlace := ["internal/reflectlite.ValueOf", "(internal/reflectlite.Value).Type", "(internal/reflectlite.Value).IsNil", "internal/reflectlite.TypeOf", "(internal/reflectlite.Value).Elem", "(internal/reflectlite.Value).Set"], unfollowed := true, recurses := true, named := ["errors.errorType"], apart := false, laid := [("errors.errorType", laid_errors_errorType)], narrowed := true }
def CoreTreesUptoSaid : Prop := coreTreesUptoRow.holds Tryz.pinned (OpenSpec.upto coreTreesSpec)

/-- 'plaitlaw16.CoreBridges', WHERE WHAT IT READS IS OF BULK AT MOST 1048576: true; the input reads as it did. -/
def coreBridgesUptoRow : OpenClaim := { program := "ytpmicakdjhoafaagreatdoor", sum := "73a79cf4aaa429231bd61d4951300a65f66a04f8e77d3915fedf9c06f385384e", func := "plait/plaitlaw16.CoreBridges", spec := "coreBridges", inPlace := ["internal/reflectlite.ValueOf", "(internal/reflectlite.Value).Type", "(internal/reflectlite.Value).IsNil", "internal/reflectlite.TypeOf", "(internal/reflectlite.Value).Elem", "(internal/reflectlite.Value).Set"], unfollowed := true, recurses := true, named := ["errors.errorType"], apart := false, laid := [("errors.errorType", laid_errors_errorType)], narrowed := true }
def CoreBridgesUptoSaid : Prop := coreBridgesUptoRow.holds Tryz.pinned (OpenSpec.upto coreBridgesSpec)

/-- 'plaitlaw16.CoreWeighs', WHERE WHAT IT READS IS OF BULK AT MOST 1048576: true; the input reads as it did. -/
def coreWeighsUptoRow : OpenClaim := { program := "ytpmicakdjhoafaagreatdoor", sum := "73a79cf4aaa429231bd61d4951300a65f66a04f8e77d3915fedf9c06f385384e", func := "plait/plaitlaw16.CoreWeighs", spec := "coreWeighs", inPlace := ["internal/reflectlite.ValueOf", "(internal/reflectlite.Value).Type", "(internal/reflectlite.Value).IsNil", "internal/reflectlite.TypeOf", "(internal/reflectlite.Value).Elem", "(internal/reflectlite.Value).Set"], unfollowed := true, recurses := true, named := ["errors.errorType"], apart := false, laid := [("errors.errorType", laid_errors_errorType)], narrowed := true }
def CoreWeighsUptoSaid : Prop := coreWeighsUptoRow.holds Tryz.pinned (OpenSpec.upto coreWeighsSpec)

/-- 'plaitlaw16.CoreBack', WHERE WHAT IT READS IS OF BULK AT MOST 1048576: true; the input reads as it did. -/
def coreBackUptoRow : OpenClaim := { program := "ytpmicakdjhoafaagreatdoor", sum := "73a79cf4aaa429231bd61d4951300a65f66a04f8e77d3915fedf9c06f385384e", func := "plait/plaitlaw16.CoreBack", spec := "coreBack", inPlace := ["internal/reflectlite.ValueOf", "(internal/reflectlite.Value).Type", "(internal/reflectlite.Value).IsNil", "internal/reflectlite.TypeOf", "(internal/reflectlite.Value).Elem", "(internal/reflectlite.Value).Set"], unfollowed := true, recurses := true, named := ["errors.errorType"], apart := false, laid := [("errors.errorType", laid_errors_errorType)], narrowed := true }
def CoreBackUptoSaid : Prop := coreBackUptoRow.holds Tryz.pinned (OpenSpec.upto coreBackSpec)

/-- 'plaitlaw16.CoreFaces', WHERE WHAT IT READS IS OF BULK AT MOST 1048576: true; the input reads as it did. -/
def coreFacesUptoRow : OpenClaim := { program := "ytpmicakdjhoafaagreatdoor", sum := "73a79cf4aaa429231bd61d4951300a65f66a04f8e77d3915fedf9c06f385384e", func := "plait/plaitlaw16.CoreFaces", spec := "coreFaces", inPlace := ["internal/reflectlite.ValueOf", "(internal/reflectlite.Value).Type", "(internal/reflectlite.Value).IsNil", "internal/reflectlite.TypeOf", "(internal/reflectlite.Value).Elem", "(internal/reflectlite.Value).Set"], unfollowed := true, recurses := true, named := ["errors.errorType"], apart := false, laid := [("errors.errorType", laid_errors_errorType)], narrowed := true }
def CoreFacesUptoSaid : Prop := coreFacesUptoRow.holds Tryz.pinned (OpenSpec.upto coreFacesSpec)

/-- 'plaitlaw16.CoreChecks', WHERE WHAT IT READS IS OF BULK AT MOST 1048576: true; the input reads as it did. -/
def coreChecksUptoRow : OpenClaim := { program := "ytpmicakdjhoafaagreatdoor", sum := "73a79cf4aaa429231bd61d4951300a65f66a04f8e77d3915fedf9c06f385384e", func := "plait/plaitlaw16.CoreChecks", spec := "coreChecks", inPlace := ["internal/reflectlite.ValueOf", "(internal/reflectlite.Value).Type", "(internal/reflectlite.Value).IsNil", "internal/reflectlite.TypeOf", "(internal/reflectlite.Value).Elem", "(internal/reflectlite.Value).Set"], unfollowed := true, recurses := true, named := ["errors.errorType"], apart := false, laid := [("errors.errorType", laid_errors_errorType)], narrowed := true }
def CoreChecksUptoSaid : Prop := coreChecksUptoRow.holds Tryz.pinned (OpenSpec.upto coreChecksSpec)

end Rows
end Go.Proofs.YtpmicakdjhoafaaGreatDoor
