/-
  NARROWER THAN 'FOR EVERY INPUT', by the rows' own cells (each row's printed sentence says how): WebTies: laid · WebRoads: laid · WebApart: laid · WebRuns: laid.
  DERIVED. THE GIVEN ROWS OF THIS SEAT. 4 by the template 'for every input the law returns true; each argument reads behind the call as it read before'; 0 by the template 'total and deterministic' (their statements: YtaoemljoiahapaaGreatDoorTotals.lean).
  GIVEN WITH THE SEED: the statements are not yours to turn. If you find one false, say at which input.
  Laid BY PROGRAM, IN A SANDBOX (cutbox-rows.mjs): the forced cells as the released guide's own fill.sh prints them over the translation cdba3ec209bdfc60… (all of the seat's roots in one cut). By AI agents, Wed Nov 11 2026. No macro, syntax, notation, axiom, sorry.
-/
import Derived.Test.YtaoemljoiahapaaGreatDoorChecked
import GoSem.Claim
import GoSem.ClaimJoined
import GoSem.ClaimMapViews
import Derived.JoinedTies
import Derived.KernelRfl
namespace Go.Proofs.YtaoemljoiahapaaGreatDoor
/- THE CELL 'sum', in the pinned program and in every row, IS THE sha256 OF THE DUMP (.gsa) THAT YtaoemljoiahapaaGreatDoorProg.lean LOADS. Nothing in Lean hashes anything: it is a label: what it is worth is what the hold of that sum in a sandbox is worth. -/
noncomputable def Tryz.pinned : Pinned := { name := "ytaoemljoiahapaagreatdoor", sum := "cdba3ec209bdfc6069abf9d7ffa424dbdbc1ca284737e6ca44e753ebba788e94", checked := Tryz.checked }
namespace Rows
def none {H : Type} : Left H := { results := [], args := [] }

/- WHAT THE LISTED PACKAGE-LEVEL VARIABLES READ AS WHEN THE CALL BEGINS. Each datum BY PROGRAM (the guide's laid-datum.mjs) off the statement by which the dump's own 'gosem.cut.vars' lays the variable. In a bare row this is a premise. The card (YtaoemljoiahapaaGreatDoorCards.lean) ties it to the program's text. -/
def laid_errors_errorType {H : Type} : DataW H := .iface "internal/reflectlite.rtype" (.agg [.ptr (.lit (.string [101, 114, 114, 111, 114]))])

/-- 'plaitlaw14.WebTies': WHATEVER THE INPUT: true; the input reads as it did. -/
def webTiesSpec : ChangeSpec := { name := "webTies", fn := fun _ => fun
  | [d1, d2, d3] => { results := [.lit (.bool true)], args := [d1, d2, d3] }
  | _ => none }
def webTiesRow : OpenClaim := { program := "ytaoemljoiahapaagreatdoor", sum := "cdba3ec209bdfc6069abf9d7ffa424dbdbc1ca284737e6ca44e753ebba788e94", func := "plait/plaitlaw14.WebTies", spec := "webTies", inPlace := ["internal/reflectlite.ValueOf", "(internal/reflectlite.Value).Type", "(internal/reflectlite.Value).IsNil", "internal/reflectlite.TypeOf", "(internal/reflectlite.Value).Elem", "(internal/reflectlite.Value).Set"], unfollowed := true, recurses := true, named := ["errors.errorType"], apart := false, laid := [("errors.errorType", laid_errors_errorType)] }
def WebTiesSaid : Prop := webTiesRow.holds Tryz.pinned (OpenSpec.ofChange webTiesSpec)

/-- ITS FALSE NEIGHBOUR: 'it returns false'. Refute it at one input. -/
def webTiesWrong : ChangeSpec := { name := "webTies", fn := fun _ => fun
  | [d1, d2, d3] => { results := [.lit (.bool false)], args := [d1, d2, d3] }
  | _ => none }
def WebTiesWrongFalsely : Prop := webTiesRow.holds Tryz.pinned (OpenSpec.ofChange webTiesWrong)

/-- 'plaitlaw14.WebRoads': WHATEVER THE INPUT: true; the input reads as it did. -/
def webRoadsSpec : ChangeSpec := { name := "webRoads", fn := fun _ => fun
  | [d1, d2, d3] => { results := [.lit (.bool true)], args := [d1, d2, d3] }
  | _ => none }
def webRoadsRow : OpenClaim := { program := "ytaoemljoiahapaagreatdoor", sum := "cdba3ec209bdfc6069abf9d7ffa424dbdbc1ca284737e6ca44e753ebba788e94", func := "plait/plaitlaw14.WebRoads", spec := "webRoads", inPlace := ["internal/reflectlite.ValueOf", "(internal/reflectlite.Value).Type", "(internal/reflectlite.Value).IsNil", "internal/reflectlite.TypeOf", "(internal/reflectlite.Value).Elem", "(internal/reflectlite.Value).Set"], unfollowed := true, recurses := true, named := ["errors.errorType"], apart := false, laid := [("errors.errorType", laid_errors_errorType)] }
def WebRoadsSaid : Prop := webRoadsRow.holds Tryz.pinned (OpenSpec.ofChange webRoadsSpec)

/-- ITS FALSE NEIGHBOUR: 'it returns false'. Refute it at one input. -/
def webRoadsWrong : ChangeSpec := { name := "webRoads", fn := fun _ => fun
  | [d1, d2, d3] => { results := [.lit (.bool false)], args := [d1, d2, d3] }
  | _ => none }
def WebRoadsWrongFalsely : Prop := webRoadsRow.holds Tryz.pinned (OpenSpec.ofChange webRoadsWrong)

/-- 'plaitlaw14.WebApart': WHATEVER THE INPUT: true; the input reads as it did. -/
def webApartSpec : ChangeSpec := { name := "webApart", fn := fun _ => fun
  | [d1, d2, d3] => { results := [.lit (.bool true)], args := [d1, d2, d3] }
  | _ => none }
def webApartRow : OpenClaim := { program := "ytaoemljoiahapaagreatdoor", sum := "cdba3ec209bdfc6069abf9d7ffa424dbdbc1ca284737e6ca44e753ebba788e94", func := "plait/plaitlaw14.WebApart", spec := "webApart", inPlace := ["internal/reflectlite.ValueOf", "(internal/reflectlite.Value).Type", "(internal/reflectlite.Value).IsNil", "internal/reflectlite.TypeOf", "(internal/reflectlite.Value).Elem", "(internal/reflectlite.Value).Set"], unfollowed := true, recurses := true, named := ["errors.errorType"], apart := false, laid := [("errors.errorType", laid_errors_errorType)] }
def WebApartSaid : Prop := webApartRow.holds Tryz.pinned (OpenSpec.ofChange webApartSpec)

/-- ITS FALSE NEIGHBOUR: 'it returns false'. Refute it at one input. -/
def webApartWrong : ChangeSpec := { name := "webApart", fn := fun _ => fun
  | [d1, d2, d3] => { results := [.lit (.bool false)], args := [d1, d2, d3] }
  | _ => none }
def WebApartWrongFalsely : Prop := webApartRow.holds Tryz.pinned (OpenSpec.ofChange webApartWrong)

/-- 'plaitlaw14.WebRuns': WHATEVER THE INPUT: true; the input reads as it did. -/
def webRunsSpec : ChangeSpec := { name := "webRuns", fn := fun _ => fun
  | [d1, d2] => { results := [.lit (.bool true)], args := [d1, d2] }
  | _ => none }
def webRunsRow : OpenClaim := { program := "ytaoemljoiahapaagreatdoor", sum := "cdba3ec209bdfc6069abf9d7ffa424dbdbc1ca284737e6ca44e753ebba788e94", func := "plait/plaitlaw14.WebRuns", spec := "webRuns", inPlace := ["internal/reflectlite.ValueOf", "(internal/reflectlite.Value).Type", "(internal/reflectlite.Value).IsNil", "internal/reflectlite.TypeOf", "(internal/reflectlite.Value).Elem", "(internal/reflectlite.Value).Set"], unfollowed := true, recurses := true, named := ["errors.errorType"], apart := false, laid := [("errors.errorType", laid_errors_errorType)] }
def WebRunsSaid : Prop := webRunsRow.holds Tryz.pinned (OpenSpec.ofChange webRunsSpec)

/-- ITS FALSE NEIGHBOUR: 'it returns false'. Refute it at one input. -/
def webRunsWrong : ChangeSpec := { name := "webRuns", fn := fun _ => fun
  | [d1, d2] => { results := [.lit (.bool false)], args := [d1, d2] }
  | _ => none }
def WebRunsWrongFalsely : Prop := webRunsRow.holds Tryz.pinned (OpenSpec.ofChange webRunsWrong)

/- THE SECOND FORM. 'bulk': how many values and letters a reading holds, each counted each time it is reached (what is shared counts as often as it is met; a slice's spare places count too). A statement '..UptoSaid' is the law's where the arguments, and the package variables that the reading takes, are together of bulk at most 1048576: NARROWER than '..Said'. Prove '..Said' where nothing that the law and all that it calls make is longer than what came in: it says more and counts as full. Else prove '..UptoSaid'. A law counts once. -/
mutual
def uptoBulk {H : Type} : DataW H → Nat
  | .lit (.string bytes) => bytes.length + 1
  | .lit _ => 1
  | .nil => 1
  | .ptr d => uptoBulk d + 1
  | .slice elems spare => uptoBulkAll elems + uptoBulkAll spare + 1
  | .agg parts => uptoBulkAll parts + 1
  | .iface _ d => uptoBulk d + 1
  | .map entries => uptoBulkEntries entries + 1
  | .held _ => 1
def uptoBulkAll {H : Type} : List (DataW H) → Nat
  | [] => 0
  | d :: r => uptoBulk d + uptoBulkAll r
def uptoBulkEntries {H : Type} : List (Lit × DataW H) → Nat
  | [] => 0
  | x :: r => uptoBulkEntry x + uptoBulkEntries r
def uptoBulkEntry {H : Type} : Lit × DataW H → Nat
  | (.string bytes, d) => bytes.length + uptoBulk d + 1
  | (_, d) => uptoBulk d + 1
 end
def uptoSmall : (H : Type) → List (DataW H) → Bool := fun _ ds => decide (uptoBulkAll ds ≤ 1048576)
def OpenSpec.upto (s : _root_.Go.ChangeSpec) : _root_.Go.OpenSpec := { _root_.Go.OpenSpec.ofChange s with cond := some uptoSmall }

/-- 'plaitlaw14.WebTies', WHERE WHAT IT READS IS OF BULK AT MOST 1048576: true; the input reads as it did. -/
def webTiesUptoRow : OpenClaim := { program := "ytaoemljoiahapaagreatdoor", sum := "cdba3ec209bdfc6069abf9d7ffa424dbdbc1ca284737e6ca44e753ebba788e94", func := "plait/plaitlaw14.WebTies", spec := "webTies", inPlace := ["internal/reflectlite.ValueOf", "(internal/reflectlite.Value).Type", "(internal/reflectlite.Value).IsNil", "internal/reflectlite.TypeOf", "(internal/reflectlite.Value).Elem", "(internal/reflectlite.Value).Set"], unfollowed := true, recurses := true, named := ["errors.errorType"], apart := false, laid := [("errors.errorType", laid_errors_errorType)], narrowed := true }
def WebTiesUptoSaid : Prop := webTiesUptoRow.holds Tryz.pinned (OpenSpec.upto webTiesSpec)

/-- 'plaitlaw14.WebRoads', WHERE WHAT IT READS IS OF BULK AT MOST 1048576: true; the input reads as it did. -/
def webRoadsUptoRow : OpenClaim := { program := "ytaoemljoiahapaagreatdoor", sum := "cdba3ec209bdfc6069abf9d7ffa424dbdbc1ca284737e6ca44e753ebba788e94", func := "plait/plaitlaw14.WebRoads", spec := "webRoads", inPlace := ["internal/reflectlite.ValueOf", "(internal/reflectlite.Value).Type", "(internal/reflectlite.Value).IsNil", "internal/reflectlite.TypeOf", "(internal/reflectlite.Value).Elem", "(internal/reflectlite.Value).Set"], unfollowed := true, recurses := true, named := ["errors.errorType"], apart := false, laid := [("errors.errorType", laid_errors_errorType)], narrowed := true }
def WebRoadsUptoSaid : Prop := webRoadsUptoRow.holds Tryz.pinned (OpenSpec.upto webRoadsSpec)

/-- 'plaitlaw14.WebApart', WHERE WHAT IT READS IS OF BULK AT MOST 1048576: true; the input reads as it did. -/
def webApartUptoRow : OpenClaim := { program := "ytaoemljoiahapaagreatdoor", sum := "cdba3ec209bdfc6069abf9d7ffa424dbdbc1ca284737e6ca44e753ebba788e94", func := "plait/plaitlaw14.WebApart", spec := "webApart", inPlace := ["internal/reflectlite.ValueOf", "(internal/reflectlite.Value).Type", "(internal/reflectlite.Value).IsNil", "internal/reflectlite.TypeOf", "(internal/reflectlite.Value).Elem", "(internal/reflectlite.Value).Set"], unfollowed := true, recurses := true, named := ["errors.errorType"], apart := false, laid := [("errors.errorType", laid_errors_errorType)], narrowed := true }
def WebApartUptoSaid : Prop := webApartUptoRow.holds Tryz.pinned (OpenSpec.upto webApartSpec)

/-- 'plaitlaw14.WebRuns', WHERE WHAT IT READS IS OF BULK AT MOST 1048576: true; the input reads as it did. -/
def webRunsUptoRow : OpenClaim := { program := "ytaoemljoiahapaagreatdoor", sum := "cdba3ec209bdfc6069abf9d7ffa424dbdbc1ca284737e6ca44e753ebba788e94", func := "plait/plaitlaw14.WebRuns", spec := "webRuns", inPlace := ["internal/reflectlite.ValueOf", "(internal/reflectlite.Value).Type", "(internal/reflectlite.Value).IsNil", "internal/reflectlite.TypeOf", "(internal/reflectlite.Value).Elem", "(internal/reflectlite.Value).Set"], unfollowed := true, recurses := true, named := ["errors.errorType"], apart := false, laid := [("errors.errorType", laid_errors_errorType)], narrowed := true }
def WebRunsUptoSaid : Prop := webRunsUptoRow.holds Tryz.pinned (OpenSpec.upto webRunsSpec)

end Rows
end Go.Proofs.YtaoemljoiahapaaGreatDoor
