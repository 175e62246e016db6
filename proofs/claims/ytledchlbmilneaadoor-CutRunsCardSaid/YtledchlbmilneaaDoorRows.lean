/-
  NARROWER THAN 'FOR EVERY INPUT', by the rows' own cells (each row's printed sentence says how): SeqRuns: laid · RingAparts: laid · RingMerges: laid · RingNew: laid · RingRuns: laid · RingSplits: laid · CutBack: laid · CutCuts: laid · CutLinks: laid · CutNew: laid · CutRuns: laid · CutSums: laid · CutTurned: laid · WebNew: laid.
  DERIVED. THE GIVEN ROWS OF THIS SEAT. 14 by the template 'for every input the law returns true; each argument reads behind the call as it read before'; 0 by the template 'total and deterministic' (their statements: YtledchlbmilneaaDoorTotals.lean).
  GIVEN WITH THE SEED: the statements are not yours to turn. If you find one false, say at which input.
  Laid BY PROGRAM, IN A SANDBOX (cutbox-rows.mjs): the forced cells as the released guide's own fill.sh prints them over the translation 5d410564f84b2cf5… (all of the seat's roots in one cut). By AI agents, Wed Nov 11 2026. No macro, syntax, notation, axiom, sorry.
-/
import Derived.Test.YtledchlbmilneaaDoorChecked
import GoSem.Claim
import GoSem.ClaimJoined
import GoSem.ClaimMapViews
import Derived.JoinedTies
import Derived.KernelRfl
namespace Go.Proofs.YtledchlbmilneaaDoor
/- THE CELL 'sum', in the pinned program and in every row, IS THE sha256 OF THE DUMP (.gsa) THAT YtledchlbmilneaaDoorProg.lean LOADS. Nothing in Lean hashes anything: it is a label: what it is worth is what the hold of that sum in a sandbox is worth. -/
noncomputable def Tryd.pinned : Pinned := { name := "ytledchlbmilneaadoor", sum := "5d410564f84b2cf5cacd81baf048c6e18035ea7a582ddc29f6d5519082c86605", checked := Tryd.checked }
namespace Rows
def none {H : Type} : Left H := { results := [], args := [] }

/- WHAT THE LISTED PACKAGE-LEVEL VARIABLES READ AS WHEN THE CALL BEGINS. Each datum BY PROGRAM (the guide's laid-datum.mjs) off the statement by which the dump's own 'gosem.cut.vars' lays the variable. In a bare row this is a premise. The card (YtledchlbmilneaaDoorCards.lean) ties it to the program's text. -/
def laid_errors_errorType {H : Type} : DataW H := .iface "internal/reflectlite.rtype" (.agg [.ptr (.lit (.string [101, 114, 114, 111, 114]))])

/-- 'plaitlaw04.SeqRuns': WHATEVER THE INPUT: true; the input reads as it did. -/
def seqRunsSpec : ChangeSpec := { name := "seqRuns", fn := fun _ => fun
  | [d1, d2] => { results := [.lit (.bool true)], args := [d1, d2] }
  | _ => none }
def seqRunsRow : OpenClaim := { program := "ytledchlbmilneaadoor", sum := "5d410564f84b2cf5cacd81baf048c6e18035ea7a582ddc29f6d5519082c86605", func := "plait/plaitlaw04.SeqRuns", spec := "seqRuns", inPlace := ["internal/reflectlite.ValueOf", "(internal/reflectlite.Value).Type", "(internal/reflectlite.Value).IsNil", "internal/reflectlite.TypeOf", "(internal/reflectlite.Value).Elem", "(internal/reflectlite.Value).Set"], unfollowed := true, recurses := true, named := ["errors.errorType"], apart := false, laid := [("errors.errorType", laid_errors_errorType)] }
def SeqRunsSaid : Prop := seqRunsRow.holds Tryd.pinned (OpenSpec.ofChange seqRunsSpec)

/-- ITS FALSE NEIGHBOUR: 'it returns false'. Refute it at one input. -/
def seqRunsWrong : ChangeSpec := { name := "seqRuns", fn := fun _ => fun
  | [d1, d2] => { results := [.lit (.bool false)], args := [d1, d2] }
  | _ => none }
def SeqRunsWrongFalsely : Prop := seqRunsRow.holds Tryd.pinned (OpenSpec.ofChange seqRunsWrong)

/-- 'plaitlaw05.RingAparts': WHATEVER THE INPUT: true; the input reads as it did. -/
def ringApartsSpec : ChangeSpec := { name := "ringAparts", fn := fun _ => fun
  | [d1, d2, d3] => { results := [.lit (.bool true)], args := [d1, d2, d3] }
  | _ => none }
def ringApartsRow : OpenClaim := { program := "ytledchlbmilneaadoor", sum := "5d410564f84b2cf5cacd81baf048c6e18035ea7a582ddc29f6d5519082c86605", func := "plait/plaitlaw05.RingAparts", spec := "ringAparts", inPlace := ["internal/reflectlite.ValueOf", "(internal/reflectlite.Value).Type", "(internal/reflectlite.Value).IsNil", "internal/reflectlite.TypeOf", "(internal/reflectlite.Value).Elem", "(internal/reflectlite.Value).Set"], unfollowed := true, recurses := true, named := ["errors.errorType"], apart := false, laid := [("errors.errorType", laid_errors_errorType)] }
def RingApartsSaid : Prop := ringApartsRow.holds Tryd.pinned (OpenSpec.ofChange ringApartsSpec)

/-- ITS FALSE NEIGHBOUR: 'it returns false'. Refute it at one input. -/
def ringApartsWrong : ChangeSpec := { name := "ringAparts", fn := fun _ => fun
  | [d1, d2, d3] => { results := [.lit (.bool false)], args := [d1, d2, d3] }
  | _ => none }
def RingApartsWrongFalsely : Prop := ringApartsRow.holds Tryd.pinned (OpenSpec.ofChange ringApartsWrong)

/-- 'plaitlaw05.RingMerges': WHATEVER THE INPUT: true; the input reads as it did. -/
def ringMergesSpec : ChangeSpec := { name := "ringMerges", fn := fun _ => fun
  | [d1, d2, d3] => { results := [.lit (.bool true)], args := [d1, d2, d3] }
  | _ => none }
def ringMergesRow : OpenClaim := { program := "ytledchlbmilneaadoor", sum := "5d410564f84b2cf5cacd81baf048c6e18035ea7a582ddc29f6d5519082c86605", func := "plait/plaitlaw05.RingMerges", spec := "ringMerges", inPlace := ["internal/reflectlite.ValueOf", "(internal/reflectlite.Value).Type", "(internal/reflectlite.Value).IsNil", "internal/reflectlite.TypeOf", "(internal/reflectlite.Value).Elem", "(internal/reflectlite.Value).Set"], unfollowed := true, recurses := true, named := ["errors.errorType"], apart := false, laid := [("errors.errorType", laid_errors_errorType)] }
def RingMergesSaid : Prop := ringMergesRow.holds Tryd.pinned (OpenSpec.ofChange ringMergesSpec)

/-- ITS FALSE NEIGHBOUR: 'it returns false'. Refute it at one input. -/
def ringMergesWrong : ChangeSpec := { name := "ringMerges", fn := fun _ => fun
  | [d1, d2, d3] => { results := [.lit (.bool false)], args := [d1, d2, d3] }
  | _ => none }
def RingMergesWrongFalsely : Prop := ringMergesRow.holds Tryd.pinned (OpenSpec.ofChange ringMergesWrong)

/-- 'plaitlaw05.RingNew': WHATEVER THE INPUT: true; the input reads as it did. -/
def ringNewSpec : ChangeSpec := { name := "ringNew", fn := fun _ => fun
  | [d1, d2] => { results := [.lit (.bool true)], args := [d1, d2] }
  | _ => none }
def ringNewRow : OpenClaim := { program := "ytledchlbmilneaadoor", sum := "5d410564f84b2cf5cacd81baf048c6e18035ea7a582ddc29f6d5519082c86605", func := "plait/plaitlaw05.RingNew", spec := "ringNew", inPlace := ["internal/reflectlite.ValueOf", "(internal/reflectlite.Value).Type", "(internal/reflectlite.Value).IsNil", "internal/reflectlite.TypeOf", "(internal/reflectlite.Value).Elem", "(internal/reflectlite.Value).Set"], unfollowed := true, recurses := true, named := ["errors.errorType"], apart := false, laid := [("errors.errorType", laid_errors_errorType)] }
def RingNewSaid : Prop := ringNewRow.holds Tryd.pinned (OpenSpec.ofChange ringNewSpec)

/-- ITS FALSE NEIGHBOUR: 'it returns false'. Refute it at one input. -/
def ringNewWrong : ChangeSpec := { name := "ringNew", fn := fun _ => fun
  | [d1, d2] => { results := [.lit (.bool false)], args := [d1, d2] }
  | _ => none }
def RingNewWrongFalsely : Prop := ringNewRow.holds Tryd.pinned (OpenSpec.ofChange ringNewWrong)

/-- 'plaitlaw05.RingRuns': WHATEVER THE INPUT: true; the input reads as it did. -/
def ringRunsSpec : ChangeSpec := { name := "ringRuns", fn := fun _ => fun
  | [d1, d2] => { results := [.lit (.bool true)], args := [d1, d2] }
  | _ => none }
def ringRunsRow : OpenClaim := { program := "ytledchlbmilneaadoor", sum := "5d410564f84b2cf5cacd81baf048c6e18035ea7a582ddc29f6d5519082c86605", func := "plait/plaitlaw05.RingRuns", spec := "ringRuns", inPlace := ["internal/reflectlite.ValueOf", "(internal/reflectlite.Value).Type", "(internal/reflectlite.Value).IsNil", "internal/reflectlite.TypeOf", "(internal/reflectlite.Value).Elem", "(internal/reflectlite.Value).Set"], unfollowed := true, recurses := true, named := ["errors.errorType"], apart := false, laid := [("errors.errorType", laid_errors_errorType)] }
def RingRunsSaid : Prop := ringRunsRow.holds Tryd.pinned (OpenSpec.ofChange ringRunsSpec)

/-- ITS FALSE NEIGHBOUR: 'it returns false'. Refute it at one input. -/
def ringRunsWrong : ChangeSpec := { name := "ringRuns", fn := fun _ => fun
  | [d1, d2] => { results := [.lit (.bool false)], args := [d1, d2] }
  | _ => none }
def RingRunsWrongFalsely : Prop := ringRunsRow.holds Tryd.pinned (OpenSpec.ofChange ringRunsWrong)

/-- 'plaitlaw05.RingSplits': WHATEVER THE INPUT: true; the input reads as it did. -/
def ringSplitsSpec : ChangeSpec := { name := "ringSplits", fn := fun _ => fun
  | [d1, d2, d3] => { results := [.lit (.bool true)], args := [d1, d2, d3] }
  | _ => none }
def ringSplitsRow : OpenClaim := { program := "ytledchlbmilneaadoor", sum := "5d410564f84b2cf5cacd81baf048c6e18035ea7a582ddc29f6d5519082c86605", func := "plait/plaitlaw05.RingSplits", spec := "ringSplits", inPlace := ["internal/reflectlite.ValueOf", "(internal/reflectlite.Value).Type", "(internal/reflectlite.Value).IsNil", "internal/reflectlite.TypeOf", "(internal/reflectlite.Value).Elem", "(internal/reflectlite.Value).Set"], unfollowed := true, recurses := true, named := ["errors.errorType"], apart := false, laid := [("errors.errorType", laid_errors_errorType)] }
def RingSplitsSaid : Prop := ringSplitsRow.holds Tryd.pinned (OpenSpec.ofChange ringSplitsSpec)

/-- ITS FALSE NEIGHBOUR: 'it returns false'. Refute it at one input. -/
def ringSplitsWrong : ChangeSpec := { name := "ringSplits", fn := fun _ => fun
  | [d1, d2, d3] => { results := [.lit (.bool false)], args := [d1, d2, d3] }
  | _ => none }
def RingSplitsWrongFalsely : Prop := ringSplitsRow.holds Tryd.pinned (OpenSpec.ofChange ringSplitsWrong)

/-- 'plaitlaw06.CutBack': WHATEVER THE INPUT: true; the input reads as it did. -/
def cutBackSpec : ChangeSpec := { name := "cutBack", fn := fun _ => fun
  | [d1, d2, d3] => { results := [.lit (.bool true)], args := [d1, d2, d3] }
  | _ => none }
def cutBackRow : OpenClaim := { program := "ytledchlbmilneaadoor", sum := "5d410564f84b2cf5cacd81baf048c6e18035ea7a582ddc29f6d5519082c86605", func := "plait/plaitlaw06.CutBack", spec := "cutBack", inPlace := ["internal/reflectlite.ValueOf", "(internal/reflectlite.Value).Type", "(internal/reflectlite.Value).IsNil", "internal/reflectlite.TypeOf", "(internal/reflectlite.Value).Elem", "(internal/reflectlite.Value).Set"], unfollowed := true, recurses := true, named := ["errors.errorType"], apart := false, laid := [("errors.errorType", laid_errors_errorType)] }
def CutBackSaid : Prop := cutBackRow.holds Tryd.pinned (OpenSpec.ofChange cutBackSpec)

/-- ITS FALSE NEIGHBOUR: 'it returns false'. Refute it at one input. -/
def cutBackWrong : ChangeSpec := { name := "cutBack", fn := fun _ => fun
  | [d1, d2, d3] => { results := [.lit (.bool false)], args := [d1, d2, d3] }
  | _ => none }
def CutBackWrongFalsely : Prop := cutBackRow.holds Tryd.pinned (OpenSpec.ofChange cutBackWrong)

/-- 'plaitlaw06.CutCuts': WHATEVER THE INPUT: true; the input reads as it did. -/
def cutCutsSpec : ChangeSpec := { name := "cutCuts", fn := fun _ => fun
  | [d1, d2, d3] => { results := [.lit (.bool true)], args := [d1, d2, d3] }
  | _ => none }
def cutCutsRow : OpenClaim := { program := "ytledchlbmilneaadoor", sum := "5d410564f84b2cf5cacd81baf048c6e18035ea7a582ddc29f6d5519082c86605", func := "plait/plaitlaw06.CutCuts", spec := "cutCuts", inPlace := ["internal/reflectlite.ValueOf", "(internal/reflectlite.Value).Type", "(internal/reflectlite.Value).IsNil", "internal/reflectlite.TypeOf", "(internal/reflectlite.Value).Elem", "(internal/reflectlite.Value).Set"], unfollowed := true, recurses := true, named := ["errors.errorType"], apart := false, laid := [("errors.errorType", laid_errors_errorType)] }
def CutCutsSaid : Prop := cutCutsRow.holds Tryd.pinned (OpenSpec.ofChange cutCutsSpec)

/-- ITS FALSE NEIGHBOUR: 'it returns false'. Refute it at one input. -/
def cutCutsWrong : ChangeSpec := { name := "cutCuts", fn := fun _ => fun
  | [d1, d2, d3] => { results := [.lit (.bool false)], args := [d1, d2, d3] }
  | _ => none }
def CutCutsWrongFalsely : Prop := cutCutsRow.holds Tryd.pinned (OpenSpec.ofChange cutCutsWrong)

/-- 'plaitlaw06.CutLinks': WHATEVER THE INPUT: true; the input reads as it did. -/
def cutLinksSpec : ChangeSpec := { name := "cutLinks", fn := fun _ => fun
  | [d1, d2, d3] => { results := [.lit (.bool true)], args := [d1, d2, d3] }
  | _ => none }
def cutLinksRow : OpenClaim := { program := "ytledchlbmilneaadoor", sum := "5d410564f84b2cf5cacd81baf048c6e18035ea7a582ddc29f6d5519082c86605", func := "plait/plaitlaw06.CutLinks", spec := "cutLinks", inPlace := ["internal/reflectlite.ValueOf", "(internal/reflectlite.Value).Type", "(internal/reflectlite.Value).IsNil", "internal/reflectlite.TypeOf", "(internal/reflectlite.Value).Elem", "(internal/reflectlite.Value).Set"], unfollowed := true, recurses := true, named := ["errors.errorType"], apart := false, laid := [("errors.errorType", laid_errors_errorType)] }
def CutLinksSaid : Prop := cutLinksRow.holds Tryd.pinned (OpenSpec.ofChange cutLinksSpec)

/-- ITS FALSE NEIGHBOUR: 'it returns false'. Refute it at one input. -/
def cutLinksWrong : ChangeSpec := { name := "cutLinks", fn := fun _ => fun
  | [d1, d2, d3] => { results := [.lit (.bool false)], args := [d1, d2, d3] }
  | _ => none }
def CutLinksWrongFalsely : Prop := cutLinksRow.holds Tryd.pinned (OpenSpec.ofChange cutLinksWrong)

/-- 'plaitlaw06.CutNew': WHATEVER THE INPUT: true; the input reads as it did. -/
def cutNewSpec : ChangeSpec := { name := "cutNew", fn := fun _ => fun
  | [d1, d2] => { results := [.lit (.bool true)], args := [d1, d2] }
  | _ => none }
def cutNewRow : OpenClaim := { program := "ytledchlbmilneaadoor", sum := "5d410564f84b2cf5cacd81baf048c6e18035ea7a582ddc29f6d5519082c86605", func := "plait/plaitlaw06.CutNew", spec := "cutNew", inPlace := ["internal/reflectlite.ValueOf", "(internal/reflectlite.Value).Type", "(internal/reflectlite.Value).IsNil", "internal/reflectlite.TypeOf", "(internal/reflectlite.Value).Elem", "(internal/reflectlite.Value).Set"], unfollowed := true, recurses := true, named := ["errors.errorType"], apart := false, laid := [("errors.errorType", laid_errors_errorType)] }
def CutNewSaid : Prop := cutNewRow.holds Tryd.pinned (OpenSpec.ofChange cutNewSpec)

/-- ITS FALSE NEIGHBOUR: 'it returns false'. Refute it at one input. -/
def cutNewWrong : ChangeSpec := { name := "cutNew", fn := fun _ => fun
  | [d1, d2] => { results := [.lit (.bool false)], args := [d1, d2] }
  | _ => none }
def CutNewWrongFalsely : Prop := cutNewRow.holds Tryd.pinned (OpenSpec.ofChange cutNewWrong)

/-- 'plaitlaw06.CutRuns': WHATEVER THE INPUT: true; the input reads as it did. -/
def cutRunsSpec : ChangeSpec := { name := "cutRuns", fn := fun _ => fun
  | [d1, d2] => { results := [.lit (.bool true)], args := [d1, d2] }
  | _ => none }
def cutRunsRow : OpenClaim := { program := "ytledchlbmilneaadoor", sum := "5d410564f84b2cf5cacd81baf048c6e18035ea7a582ddc29f6d5519082c86605", func := "plait/plaitlaw06.CutRuns", spec := "cutRuns", inPlace := ["internal/reflectlite.ValueOf", "(internal/reflectlite.Value).Type", "(internal/reflectlite.Value).IsNil", "internal/reflectlite.TypeOf", "(internal/reflectlite.Value).Elem", "(internal/reflectlite.Value).Set"], unfollowed := true, recurses := true, named := ["errors.errorType"], apart := false, laid := [("errors.errorType", laid_errors_errorType)] }
def CutRunsSaid : Prop := cutRunsRow.holds Tryd.pinned (OpenSpec.ofChange cutRunsSpec)

/-- ITS FALSE NEIGHBOUR: 'it returns false'. Refute it at one input. -/
def cutRunsWrong : ChangeSpec := { name := "cutRuns", fn := fun _ => fun
  | [d1, d2] => { results := [.lit (.bool false)], args := [d1, d2] }
  | _ => none }
def CutRunsWrongFalsely : Prop := cutRunsRow.holds Tryd.pinned (OpenSpec.ofChange cutRunsWrong)

/-- 'plaitlaw06.CutSums': WHATEVER THE INPUT: true; the input reads as it did. -/
def cutSumsSpec : ChangeSpec := { name := "cutSums", fn := fun _ => fun
  | [d1, d2, d3] => { results := [.lit (.bool true)], args := [d1, d2, d3] }
  | _ => none }
def cutSumsRow : OpenClaim := { program := "ytledchlbmilneaadoor", sum := "5d410564f84b2cf5cacd81baf048c6e18035ea7a582ddc29f6d5519082c86605", func := "plait/plaitlaw06.CutSums", spec := "cutSums", inPlace := ["internal/reflectlite.ValueOf", "(internal/reflectlite.Value).Type", "(internal/reflectlite.Value).IsNil", "internal/reflectlite.TypeOf", "(internal/reflectlite.Value).Elem", "(internal/reflectlite.Value).Set"], unfollowed := true, recurses := true, named := ["errors.errorType"], apart := false, laid := [("errors.errorType", laid_errors_errorType)] }
def CutSumsSaid : Prop := cutSumsRow.holds Tryd.pinned (OpenSpec.ofChange cutSumsSpec)

/-- ITS FALSE NEIGHBOUR: 'it returns false'. Refute it at one input. -/
def cutSumsWrong : ChangeSpec := { name := "cutSums", fn := fun _ => fun
  | [d1, d2, d3] => { results := [.lit (.bool false)], args := [d1, d2, d3] }
  | _ => none }
def CutSumsWrongFalsely : Prop := cutSumsRow.holds Tryd.pinned (OpenSpec.ofChange cutSumsWrong)

/-- 'plaitlaw06.CutTurned': WHATEVER THE INPUT: true; the input reads as it did. -/
def cutTurnedSpec : ChangeSpec := { name := "cutTurned", fn := fun _ => fun
  | [d1, d2, d3] => { results := [.lit (.bool true)], args := [d1, d2, d3] }
  | _ => none }
def cutTurnedRow : OpenClaim := { program := "ytledchlbmilneaadoor", sum := "5d410564f84b2cf5cacd81baf048c6e18035ea7a582ddc29f6d5519082c86605", func := "plait/plaitlaw06.CutTurned", spec := "cutTurned", inPlace := ["internal/reflectlite.ValueOf", "(internal/reflectlite.Value).Type", "(internal/reflectlite.Value).IsNil", "internal/reflectlite.TypeOf", "(internal/reflectlite.Value).Elem", "(internal/reflectlite.Value).Set"], unfollowed := true, recurses := true, named := ["errors.errorType"], apart := false, laid := [("errors.errorType", laid_errors_errorType)] }
def CutTurnedSaid : Prop := cutTurnedRow.holds Tryd.pinned (OpenSpec.ofChange cutTurnedSpec)

/-- ITS FALSE NEIGHBOUR: 'it returns false'. Refute it at one input. -/
def cutTurnedWrong : ChangeSpec := { name := "cutTurned", fn := fun _ => fun
  | [d1, d2, d3] => { results := [.lit (.bool false)], args := [d1, d2, d3] }
  | _ => none }
def CutTurnedWrongFalsely : Prop := cutTurnedRow.holds Tryd.pinned (OpenSpec.ofChange cutTurnedWrong)

/-- 'plaitlaw14.WebNew': WHATEVER THE INPUT: true; the input reads as it did. -/
def webNewSpec : ChangeSpec := { name := "webNew", fn := fun _ => fun
  | [d1, d2] => { results := [.lit (.bool true)], args := [d1, d2] }
  | _ => none }
def webNewRow : OpenClaim := { program := "ytledchlbmilneaadoor", sum := "5d410564f84b2cf5cacd81baf048c6e18035ea7a582ddc29f6d5519082c86605", func := "plait/plaitlaw14.WebNew", spec := "webNew", inPlace := ["internal/reflectlite.ValueOf", "(internal/reflectlite.Value).Type", "(internal/reflectlite.Value).IsNil", "internal/reflectlite.TypeOf", "(internal/reflectlite.Value).Elem", "(internal/reflectlite.Value).Set"], unfollowed := true, recurses := true, named := ["errors.errorType"], apart := false, laid := [("errors.errorType", laid_errors_errorType)] }
def WebNewSaid : Prop := webNewRow.holds Tryd.pinned (OpenSpec.ofChange webNewSpec)

/-- ITS FALSE NEIGHBOUR: 'it returns false'. Refute it at one input. -/
def webNewWrong : ChangeSpec := { name := "webNew", fn := fun _ => fun
  | [d1, d2] => { results := [.lit (.bool false)], args := [d1, d2] }
  | _ => none }
def WebNewWrongFalsely : Prop := webNewRow.holds Tryd.pinned (OpenSpec.ofChange webNewWrong)

/- THE SECOND FORM. 'bulk': how many values and letters a reading holds, each counted each time it is reached (what is shared counts as often as it is met; a slice's spare places count too). A statement '..UptoSaid' is the law's where the arguments, and the package variables that the reading takes, are together of bulk at most 1048576: NARROWER than '..Said'. Prove '..Said' where nothing that the law and all that it calls make is longer than what came in: it says more and counts as full. Else prove '..UptoSaid'. A law counts once. -/
mutual
def uptoBulk {H : Type} : DataW H → Nat
  | .lit (.string bytes) => bytes.length + 1
  | .lit _ => 1
  | .nil => 1
  | .ptr d => uptoBulk d + 1
  | .slice elems spare => uptoBulkAll elems + uptoBulkAll spare + 1
  | .agg parts => uptoBulkAll parts + 1
  | .iface _ d => uptoBulk d + 1
  | .map entries => uptoBulkEntries entries + 1
  | .held _ => 1
def uptoBulkAll {H : Type} : List (DataW H) → Nat
  | [] => 0
  | d :: r => uptoBulk d + uptoBulkAll r
def uptoBulkEntries {H : Type} : List (Lit × DataW H) → Nat
  | [] => 0
  | x :: r => uptoBulkEntry x + uptoBulkEntries r
def uptoBulkEntry {H : Type} : Lit × DataW H → Nat
  | (.string bytes, d) => bytes.length + uptoBulk d + 1
  | (_, d) => uptoBulk d + 1
 end
def uptoSmall : (H : Type) → List (DataW H) → Bool := fun _ ds => decide (uptoBulkAll ds ≤ 1048576)
def OpenSpec.upto (s : _root_.Go.ChangeSpec) : _root_.Go.OpenSpec := { _root_.Go.OpenSpec.ofChange s with cond := some uptoSmall }

/-- 'plaitlaw04.SeqRuns', WHERE WHAT IT READS IS OF BULK AT MOST 1048576: true; the input reads as it did. -/
def seqRunsUptoRow : OpenClaim := { program := "ytledchlbmilneaadoor", sum := "5d410564f84b2cf5cacd81baf048c6e18035ea7a582ddc29f6d5519082c86605", func := "plait/plaitlaw04.SeqRuns", spec := "seqRuns", inPlace := ["internal/reflectlite.ValueOf", "(internal/reflectlite.Value).Type", "(internal/reflectlite.Value).IsNil", "internal/reflectlite.TypeOf", "(internal/reflectlite.Value).Elem", "(internal/reflectlite.Value).Set"], unfollowed := true, recurses := true, named := ["errors.errorType"], apart := false, laid := [("errors.errorType", laid_errors_errorType)], narrowed := true }
def SeqRunsUptoSaid : Prop := seqRunsUptoRow.holds Tryd.pinned (OpenSpec.upto seqRunsSpec)

/-- 'plaitlaw05.RingAparts', WHERE WHAT IT READS IS OF BULK AT MOST 1048576: true; the input reads as it did. -/
def ringApartsUptoRow : OpenClaim := { program := "ytledchlbmilneaadoor", sum := "5d410564f84b2cf5cacd81baf048c6e18035ea7a582ddc29f6d5519082c86605", func := "plait/plaitlaw05.RingAparts", spec := "ringAparts", inPlace := ["internal/reflectlite.ValueOf", "(internal/reflectlite.Value).Type", "(internal/reflectlite.Value).IsNil", "internal/reflectlite.TypeOf", "(internal/reflectlite.Value).Elem", "(internal/reflectlite.Value).Set"], unfollowed := true, recurses := true, named := ["errors.errorType"], apart := false, laid := [("errors.errorType", laid_errors_errorType)], narrowed := true }
def RingApartsUptoSaid : Prop := ringApartsUptoRow.holds Tryd.pinned (OpenSpec.upto ringApartsSpec)

/-- 'plaitlaw05.RingMerges', WHERE WHAT IT READS IS OF BULK AT MOST 1048576: true; the input reads as it did. -/
def ringMergesUptoRow : OpenClaim := { program := "ytledchlbmilneaadoor", sum := "5d410564f84b2cf5cacd81baf048c6e18035ea7a582ddc29f6d5519082c86605", func := "plait/plaitlaw05.RingMerges", spec := "ringMerges", inPlace := ["internal/reflectlite.ValueOf", "(internal/reflectlite.Value).Type", "(internal/reflectlite.Value).IsNil", "internal/reflectlite.TypeOf", "(internal/reflectlite.Value).Elem", "(internal/reflectlite.Value).Set"], unfollowed := true, recurses := true, named := ["errors.errorType"], apart := false, laid := [("errors.errorType", laid_errors_errorType)], narrowed := true }
def RingMergesUptoSaid : Prop := ringMergesUptoRow.holds Tryd.pinned (OpenSpec.upto ringMergesSpec)

/-- 'plaitlaw05.RingNew', WHERE WHAT IT READS IS OF BULK AT MOST 1048576: true; the input reads as it did. -/
def ringNewUptoRow : OpenClaim := { program := "ytledchlbmilneaadoor", sum := "5d410564f84b2cf5cacd81baf048c6e18035ea7a582ddc29f6d5519082c86605", func := "plait/plaitlaw05.RingNew", spec := "ringNew", inPlace := ["internal/reflectlite.ValueOf", "(internal/reflectlite.Value).Type", "(internal/reflectlite.Value).IsNil", "internal/reflectlite.TypeOf", "(internal/reflectlite.Value).Elem", "(internal/reflectlite.Value).Set"], unfollowed := true, recurses := true, named := ["errors.errorType"], apart := false, laid := [("errors.errorType", laid_errors_errorType)], narrowed := true }
def RingNewUptoSaid : Prop := ringNewUptoRow.holds Tryd.pinned (OpenSpec.upto ringNewSpec)

/-- 'plaitlaw05.RingRuns', WHERE WHAT IT READS IS OF BULK AT MOST 1048576: true; the input reads as it did. -/
def ringRunsUptoRow : OpenClaim := { program := "ytledchlbmilneaadoor", sum := "5d410564f84b2cf5cacd81baf048c6e18035ea7a582ddc29f6d5519082c86605", func := "plait/plaitlaw05.RingRuns", spec := "ringRuns", inPlace := ["internal/reflectlite.ValueOf", "(internal/reflectlite.Value).Type", "(internal/reflectlite.Value).IsNil", "internal/reflectlite.TypeOf", "(internal/reflectlite.Value).Elem", "(internal/reflectlite.Value).Set"], unfollowed := true, recurses := true, named := ["errors.errorType"], apart := false, laid := [("errors.errorType", laid_errors_errorType)], narrowed := true }
def RingRunsUptoSaid : Prop := ringRunsUptoRow.holds Tryd.pinned (OpenSpec.upto ringRunsSpec)

/-- 'plaitlaw05.RingSplits', WHERE WHAT IT READS IS OF BULK AT MOST 1048576: true; the input reads as it did. -/
def ringSplitsUptoRow : OpenClaim := { program := "ytledchlbmilneaadoor", sum := "5d410564f84b2cf5cacd81baf048c6e18035ea7a582ddc29f6d5519082c86605", func := "plait/plaitlaw05.RingSplits", spec := "ringSplits", inPlace := ["internal/reflectlite.ValueOf", "(internal/reflectlite.Value).Type", "(internal/reflectlite.Value).IsNil", "internal/reflectlite.TypeOf", "(internal/reflectlite.Value).Elem", "(internal/reflectlite.Value).Set"], unfollowed := true, recurses := true, named := ["errors.errorType"], apart := false, laid := [("errors.errorType", laid_errors_errorType)], narrowed := true }
def RingSplitsUptoSaid : Prop := ringSplitsUptoRow.holds Tryd.pinned (OpenSpec.upto ringSplitsSpec)

/-- 'plaitlaw06.CutBack', WHERE WHAT IT READS IS OF BULK AT MOST 1048576: true; the input reads as it did. -/
def cutBackUptoRow : OpenClaim := { program := "ytledchlbmilneaadoor", sum := "5d410564f84b2cf5cacd81baf048c6e18035ea7a582ddc29f6d5519082c86605", func := "plait/plaitlaw06.CutBack", spec := "cutBack", inPlace := ["internal/reflectlite.ValueOf", "(internal/reflectlite.Value).Type", "(internal/reflectlite.Value).IsNil", "internal/reflectlite.TypeOf", "(internal/reflectlite.Value).Elem", "(internal/reflectlite.Value).Set"], unfollowed := true, recurses := true, named := ["errors.errorType"], apart := false, laid := [("errors.errorType", laid_errors_errorType)], narrowed := true }
def CutBackUptoSaid : Prop := cutBackUptoRow.holds Tryd.pinned (OpenSpec.upto cutBackSpec)

/-- 'plaitlaw06.CutCuts', WHERE WHAT IT READS IS OF BULK AT MOST 1048576: true; the input reads as it did. -/
def cutCutsUptoRow : OpenClaim := { program := "ytledchlbmilneaadoor", sum := "5d410564f84b2cf5cacd81baf048c6e18035ea7a582ddc29f6d5519082c86605", func := "plait/plaitlaw06.CutCuts", spec := "cutCuts", inPlace := ["internal/reflectlite.ValueOf", "(internal/reflectlite.Value).Type", "(internal/reflectlite.Value).IsNil", "internal/reflectlite.TypeOf", "(internal/reflectlite.Value).Elem", "(internal/reflectlite.Value).Set"], unfollowed := true, recurses := true, named := ["errors.errorType"], apart := false, laid := [("errors.errorType", laid_errors_errorType)], narrowed := true }
def CutCutsUptoSaid : Prop := cutCutsUptoRow.holds Tryd.pinned (OpenSpec.upto cutCutsSpec)

/-- 'plaitlaw06.CutLinks', WHERE WHAT IT READS IS OF BULK AT MOST 1048576: true; the input reads as it did. -/
def cutLinksUptoRow : OpenClaim := { program := "ytledchlbmilneaadoor", sum := "5d410564f84b2cf5cacd81baf048c6e18035ea7a582ddc29f6d5519082c86605", func := "plait/plaitlaw06.CutLinks", spec := "cutLinks", inPlace := ["internal/reflectlite.ValueOf", "(internal/reflectlite.Value).Type", "(internal/reflectlite.Value).IsNil", "internal/reflectlite.TypeOf", "(internal/reflectlite.Value).Elem", "(internal/reflectlite.Value).Set"], unfollowed := true, recurses := true, named := ["errors.errorType"], apart := false, laid := [("errors.errorType", laid_errors_errorType)], narrowed := true }
def CutLinksUptoSaid : Prop := cutLinksUptoRow.holds Tryd.pinned (OpenSpec.upto cutLinksSpec)

/-- 'plaitlaw06.CutNew', WHERE WHAT IT READS IS OF BULK AT MOST 1048576: true; the input reads as it did. -/
def cutNewUptoRow : OpenClaim := { program := "ytledchlbmilneaadoor", sum := "5d410564f84b2cf5cacd81baf048c6e18035ea7a582ddc29f6d5519082c86605", func := "plait/plaitlaw06.CutNew", spec := "cutNew", inPlace := ["internal/reflectlite.ValueOf", "(internal/reflectlite.Value).Type", "(internal/reflectlite.Value).IsNil", "internal/reflectlite.TypeOf", "(internal/reflectlite.Value).Elem", "(internal/reflectlite.Value).Set"], unfollowed := true, recurses := true, named := ["errors.errorType"], apart := false, laid := [("errors.errorType", laid_errors_errorType)], narrowed := true }
def CutNewUptoSaid : Prop := cutNewUptoRow.holds Tryd.pinned (OpenSpec.upto cutNewSpec)

/-- 'plaitlaw06.CutRuns', WHERE WHAT IT READS IS OF BULK AT MOST 1048576: true; the input reads as it did. -/
def cutRunsUptoRow : OpenClaim := { program := "ytledchlbmilneaadoor", sum := "5d410564f84b2cf5cacd81baf048c6e18035ea7a582ddc29f6d5519082c86605", func := "plait/plaitlaw06.CutRuns", spec := "cutRuns", inPlace := ["internal/reflectlite.ValueOf", "(internal/reflectlite.Value).Type", "(internal/reflectlite.Value).IsNil", "internal/reflectlite.TypeOf", "(internal/reflectlite.Value).Elem", "(internal/reflectlite.Value).Set"], unfollowed := true, recurses := true, named := ["errors.errorType"], apart := false, laid := [("errors.errorType", laid_errors_errorType)], narrowed := true }
def CutRunsUptoSaid : Prop := cutRunsUptoRow.holds Tryd.pinned (OpenSpec.upto cutRunsSpec)

/-- 'plaitlaw06.CutSums', WHERE WHAT IT READS IS OF BULK AT MOST 1048576: true; the input reads as it did. -/
def cutSumsUptoRow : OpenClaim := { program := "ytledchlbmilneaadoor", sum := "5d410564f84b2cf5cacd81baf048c6e18035ea7a582ddc29f6d5519082c86605", func := "plait/plaitlaw06.CutSums", spec := "cutSums", inPlace := ["internal/reflectlite.ValueOf", "(internal/reflectlite.Value).Type", "(internal/reflectlite.Value).IsNil", "internal/reflectlite.TypeOf", "(internal/reflectlite.Value).Elem", "(internal/reflectlite.Value).Set"], unfollowed := true, recurses := true, named := ["errors.errorType"], apart := false, laid := [("errors.errorType", laid_errors_errorType)], narrowed := true }
def CutSumsUptoSaid : Prop := cutSumsUptoRow.holds Tryd.pinned (OpenSpec.upto cutSumsSpec)

/-- 'plaitlaw06.CutTurned', WHERE WHAT IT READS IS OF BULK AT MOST 1048576: true; the input reads as it did. -/
def cutTurnedUptoRow : OpenClaim := { program := "ytledchlbmilneaadoor", sum := "5d410564f84b2cf5cacd81baf048c6e18035ea7a582ddc29f6d5519082c86605", func := "plait/plaitlaw06.CutTurned", spec := "cutTurned", inPlace := ["internal/reflectlite.ValueOf", "(internal/reflectlite.Value).Type", "(internal/reflectlite.Value).IsNil", "internal/reflectlite.TypeOf", "(internal/reflectlite.Value).Elem", "(internal/reflectlite.Value).Set"], unfollowed := true, recurses := true, named := ["errors.errorType"], apart := false, laid := [("errors.errorType", laid_errors_errorType)], narrowed := true }
def CutTurnedUptoSaid : Prop := cutTurnedUptoRow.holds Tryd.pinned (OpenSpec.upto cutTurnedSpec)

/-- 'plaitlaw14.WebNew', WHERE WHAT IT READS IS OF BULK AT MOST 1048576: true; the input reads as it did. -/
def webNewUptoRow : OpenClaim := { program := "ytledchlbmilneaadoor", sum := "5d410564f84b2cf5cacd81baf048c6e18035ea7a582ddc29f6d5519082c86605", func := "plait/plaitlaw14.WebNew", spec := "webNew", inPlace := ["internal/reflectlite.ValueOf", "(internal/reflectlite.Value).Type", "(internal/reflectlite.Value).IsNil", "internal/reflectlite.TypeOf", "(internal/reflectlite.Value).Elem", "(internal/reflectlite.Value).Set"], unfollowed := true, recurses := true, named := ["errors.errorType"], apart := false, laid := [("errors.errorType", laid_errors_errorType)], narrowed := true }
def WebNewUptoSaid : Prop := webNewUptoRow.holds Tryd.pinned (OpenSpec.upto webNewSpec)

end Rows
end Go.Proofs.YtledchlbmilneaaDoor
