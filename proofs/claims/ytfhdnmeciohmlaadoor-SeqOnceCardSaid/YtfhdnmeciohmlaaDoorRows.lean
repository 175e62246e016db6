/-
  NARROWER THAN 'FOR EVERY INPUT', by the rows' own cells (each row's printed sentence says how): SeqTwice: laid · SeqJoins: laid · SeqOnce: laid · SeqTurns: laid · SeqLeast: laid · SeqRuns: laid · SeqNew: laid.
  DERIVED. THE GIVEN ROWS OF THIS SEAT. 7 by the template 'for every input the law returns true; each argument reads behind the call as it read before'; 0 by the template 'total and deterministic' (their statements: YtfhdnmeciohmlaaDoorTotals.lean).
  GIVEN WITH THE SEED: the statements are not yours to turn. If you find one false, say at which input.
  Laid BY PROGRAM, IN A SANDBOX (cutbox-rows.mjs): the forced cells as the released guide's own fill.sh prints them over the translation 7b1ad2ede9cfb0c4… (all of the seat's roots in one cut). By AI agents, Wed Nov 11 2026. No macro, syntax, notation, axiom, sorry.
-/
import Derived.Test.YtfhdnmeciohmlaaDoorChecked
import GoSem.Claim
import GoSem.ClaimJoined
import GoSem.ClaimMapViews
import Derived.JoinedTies
import Derived.KernelRfl
namespace Go.Proofs.YtfhdnmeciohmlaaDoor
/- THE CELL 'sum', in the pinned program and in every row, IS THE sha256 OF THE DUMP (.gsa) THAT YtfhdnmeciohmlaaDoorProg.lean LOADS. Nothing in Lean hashes anything: it is a label: what it is worth is what the hold of that sum in a sandbox is worth. -/
noncomputable def Tryd.pinned : Pinned := { name := "ytfhdnmeciohmlaadoor", sum := "7b1ad2ede9cfb0c4b190eff5d8928f09d978dec409b3841b144af7c3f06510cb", checked := Tryd.checked }
namespace Rows
def none {H : Type} : Left H := { results := [], args := [] }

/- WHAT THE LISTED PACKAGE-LEVEL VARIABLES READ AS WHEN THE CALL BEGINS. Each datum BY PROGRAM (the guide's laid-datum.mjs) off the statement by which the dump's own 'gosem.cut.vars' lays the variable. In a bare row this is a premise. The card (YtfhdnmeciohmlaaDoorCards.lean) ties it to the program's text. -/
def laid_errors_errorType {H : Type} : DataW H := .iface "internal/reflectlite.rtype" (.agg [.ptr (.lit (.string [101, 114, 114, 111, 114]))])

/-- 'plaitlaw04.SeqTwice': WHATEVER THE INPUT: true; the input reads as it did. -/
def seqTwiceSpec : ChangeSpec := { name := "seqTwice", fn := fun _ => fun
  | [d1, d2, d3] => { results := [.lit (.bool true)], args := [d1, d2, d3] }
  | _ => none }
def seqTwiceRow : OpenClaim := { program := "ytfhdnmeciohmlaadoor", sum := "7b1ad2ede9cfb0c4b190eff5d8928f09d978dec409b3841b144af7c3f06510cb", func := "plait/plaitlaw04.SeqTwice", spec := "seqTwice", inPlace := ["internal/reflectlite.ValueOf", "(internal/reflectlite.Value).Type", "(internal/reflectlite.Value).IsNil", "internal/reflectlite.TypeOf", "(internal/reflectlite.Value).Elem", "(internal/reflectlite.Value).Set"], unfollowed := true, recurses := true, named := ["errors.errorType"], apart := false, laid := [("errors.errorType", laid_errors_errorType)] }
def SeqTwiceSaid : Prop := seqTwiceRow.holds Tryd.pinned (OpenSpec.ofChange seqTwiceSpec)

/-- ITS FALSE NEIGHBOUR: 'it returns false'. Refute it at one input. -/
def seqTwiceWrong : ChangeSpec := { name := "seqTwice", fn := fun _ => fun
  | [d1, d2, d3] => { results := [.lit (.bool false)], args := [d1, d2, d3] }
  | _ => none }
def SeqTwiceWrongFalsely : Prop := seqTwiceRow.holds Tryd.pinned (OpenSpec.ofChange seqTwiceWrong)

/-- 'plaitlaw04.SeqJoins': WHATEVER THE INPUT: true; the input reads as it did. -/
def seqJoinsSpec : ChangeSpec := { name := "seqJoins", fn := fun _ => fun
  | [d1, d2, d3] => { results := [.lit (.bool true)], args := [d1, d2, d3] }
  | _ => none }
def seqJoinsRow : OpenClaim := { program := "ytfhdnmeciohmlaadoor", sum := "7b1ad2ede9cfb0c4b190eff5d8928f09d978dec409b3841b144af7c3f06510cb", func := "plait/plaitlaw04.SeqJoins", spec := "seqJoins", inPlace := ["internal/reflectlite.ValueOf", "(internal/reflectlite.Value).Type", "(internal/reflectlite.Value).IsNil", "internal/reflectlite.TypeOf", "(internal/reflectlite.Value).Elem", "(internal/reflectlite.Value).Set"], unfollowed := true, recurses := true, named := ["errors.errorType"], apart := false, laid := [("errors.errorType", laid_errors_errorType)] }
def SeqJoinsSaid : Prop := seqJoinsRow.holds Tryd.pinned (OpenSpec.ofChange seqJoinsSpec)

/-- ITS FALSE NEIGHBOUR: 'it returns false'. Refute it at one input. -/
def seqJoinsWrong : ChangeSpec := { name := "seqJoins", fn := fun _ => fun
  | [d1, d2, d3] => { results := [.lit (.bool false)], args := [d1, d2, d3] }
  | _ => none }
def SeqJoinsWrongFalsely : Prop := seqJoinsRow.holds Tryd.pinned (OpenSpec.ofChange seqJoinsWrong)

/-- 'plaitlaw04.SeqOnce': WHATEVER THE INPUT: true; the input reads as it did. -/
def seqOnceSpec : ChangeSpec := { name := "seqOnce", fn := fun _ => fun
  | [d1, d2] => { results := [.lit (.bool true)], args := [d1, d2] }
  | _ => none }
def seqOnceRow : OpenClaim := { program := "ytfhdnmeciohmlaadoor", sum := "7b1ad2ede9cfb0c4b190eff5d8928f09d978dec409b3841b144af7c3f06510cb", func := "plait/plaitlaw04.SeqOnce", spec := "seqOnce", inPlace := ["internal/reflectlite.ValueOf", "(internal/reflectlite.Value).Type", "(internal/reflectlite.Value).IsNil", "internal/reflectlite.TypeOf", "(internal/reflectlite.Value).Elem", "(internal/reflectlite.Value).Set"], unfollowed := true, recurses := true, named := ["errors.errorType"], apart := false, laid := [("errors.errorType", laid_errors_errorType)] }
def SeqOnceSaid : Prop := seqOnceRow.holds Tryd.pinned (OpenSpec.ofChange seqOnceSpec)

/-- ITS FALSE NEIGHBOUR: 'it returns false'. Refute it at one input. -/
def seqOnceWrong : ChangeSpec := { name := "seqOnce", fn := fun _ => fun
  | [d1, d2] => { results := [.lit (.bool false)], args := [d1, d2] }
  | _ => none }
def SeqOnceWrongFalsely : Prop := seqOnceRow.holds Tryd.pinned (OpenSpec.ofChange seqOnceWrong)

/-- 'plaitlaw04.SeqTurns': WHATEVER THE INPUT: true; the input reads as it did. -/
def seqTurnsSpec : ChangeSpec := { name := "seqTurns", fn := fun _ => fun
  | [d1, d2, d3] => { results := [.lit (.bool true)], args := [d1, d2, d3] }
  | _ => none }
def seqTurnsRow : OpenClaim := { program := "ytfhdnmeciohmlaadoor", sum := "7b1ad2ede9cfb0c4b190eff5d8928f09d978dec409b3841b144af7c3f06510cb", func := "plait/plaitlaw04.SeqTurns", spec := "seqTurns", inPlace := ["internal/reflectlite.ValueOf", "(internal/reflectlite.Value).Type", "(internal/reflectlite.Value).IsNil", "internal/reflectlite.TypeOf", "(internal/reflectlite.Value).Elem", "(internal/reflectlite.Value).Set"], unfollowed := true, recurses := true, named := ["errors.errorType"], apart := false, laid := [("errors.errorType", laid_errors_errorType)] }
def SeqTurnsSaid : Prop := seqTurnsRow.holds Tryd.pinned (OpenSpec.ofChange seqTurnsSpec)

/-- ITS FALSE NEIGHBOUR: 'it returns false'. Refute it at one input. -/
def seqTurnsWrong : ChangeSpec := { name := "seqTurns", fn := fun _ => fun
  | [d1, d2, d3] => { results := [.lit (.bool false)], args := [d1, d2, d3] }
  | _ => none }
def SeqTurnsWrongFalsely : Prop := seqTurnsRow.holds Tryd.pinned (OpenSpec.ofChange seqTurnsWrong)

/-- 'plaitlaw04.SeqLeast': WHATEVER THE INPUT: true; the input reads as it did. -/
def seqLeastSpec : ChangeSpec := { name := "seqLeast", fn := fun _ => fun
  | [d1, d2, d3] => { results := [.lit (.bool true)], args := [d1, d2, d3] }
  | _ => none }
def seqLeastRow : OpenClaim := { program := "ytfhdnmeciohmlaadoor", sum := "7b1ad2ede9cfb0c4b190eff5d8928f09d978dec409b3841b144af7c3f06510cb", func := "plait/plaitlaw04.SeqLeast", spec := "seqLeast", inPlace := ["internal/reflectlite.ValueOf", "(internal/reflectlite.Value).Type", "(internal/reflectlite.Value).IsNil", "internal/reflectlite.TypeOf", "(internal/reflectlite.Value).Elem", "(internal/reflectlite.Value).Set"], unfollowed := true, recurses := true, named := ["errors.errorType"], apart := false, laid := [("errors.errorType", laid_errors_errorType)] }
def SeqLeastSaid : Prop := seqLeastRow.holds Tryd.pinned (OpenSpec.ofChange seqLeastSpec)

/-- ITS FALSE NEIGHBOUR: 'it returns false'. Refute it at one input. -/
def seqLeastWrong : ChangeSpec := { name := "seqLeast", fn := fun _ => fun
  | [d1, d2, d3] => { results := [.lit (.bool false)], args := [d1, d2, d3] }
  | _ => none }
def SeqLeastWrongFalsely : Prop := seqLeastRow.holds Tryd.pinned (OpenSpec.ofChange seqLeastWrong)

/-- 'plaitlaw04.SeqRuns': WHATEVER THE INPUT: true; the input reads as it did. -/
def seqRunsSpec : ChangeSpec := { name := "seqRuns", fn := fun _ => fun
  | [d1, d2] => { results := [.lit (.bool true)], args := [d1, d2] }
  | _ => none }
def seqRunsRow : OpenClaim := { program := "ytfhdnmeciohmlaadoor", sum := "7b1ad2ede9cfb0c4b190eff5d8928f09d978dec409b3841b144af7c3f06510cb", func := "plait/plaitlaw04.SeqRuns", spec := "seqRuns", inPlace := ["internal/reflectlite.ValueOf", "(internal/reflectlite.Value).Type", "(internal/reflectlite.Value).IsNil", "internal/reflectlite.TypeOf", "(internal/reflectlite.Value).Elem", "(internal/reflectlite.Value).Set"], unfollowed := true, recurses := true, named := ["errors.errorType"], apart := false, laid := [("errors.errorType", laid_errors_errorType)] }
def SeqRunsSaid : Prop := seqRunsRow.holds Tryd.pinned (OpenSpec.ofChange seqRunsSpec)

/-- ITS FALSE NEIGHBOUR: 'it returns false'. Refute it at one input. -/
def seqRunsWrong : ChangeSpec := { name := "seqRuns", fn := fun _ => fun
  | [d1, d2] => { results := [.lit (.bool false)], args := [d1, d2] }
  | _ => none }
def SeqRunsWrongFalsely : Prop := seqRunsRow.holds Tryd.pinned (OpenSpec.ofChange seqRunsWrong)

/-- 'plaitlaw04.SeqNew': WHATEVER THE INPUT: true; the input reads as it did. -/
def seqNewSpec : ChangeSpec := { name := "seqNew", fn := fun _ => fun
  | [d1, d2] => { results := [.lit (.bool true)], args := [d1, d2] }
  | _ => none }
def seqNewRow : OpenClaim := { program := "ytfhdnmeciohmlaadoor", sum := "7b1ad2ede9cfb0c4b190eff5d8928f09d978dec409b3841b144af7c3f06510cb", func := "plait/plaitlaw04.SeqNew", spec := "seqNew", inPlace := ["internal/reflectlite.ValueOf", "(internal/reflectlite.Value).Type", "(internal/reflectlite.Value).IsNil", "internal/reflectlite.TypeOf", "(internal/reflectlite.Value).Elem", "(internal/reflectlite.Value).Set"], unfollowed := true, recurses := true, named := ["errors.errorType"], apart := false, laid := [("errors.errorType", laid_errors_errorType)] }
def SeqNewSaid : Prop := seqNewRow.holds Tryd.pinned (OpenSpec.ofChange seqNewSpec)

/-- ITS FALSE NEIGHBOUR: 'it returns false'. Refute it at one input. -/
def seqNewWrong : ChangeSpec := { name := "seqNew", fn := fun _ => fun
  | [d1, d2] => { results := [.lit (.bool false)], args := [d1, d2] }
  | _ => none }
def SeqNewWrongFalsely : Prop := seqNewRow.holds Tryd.pinned (OpenSpec.ofChange seqNewWrong)

/- THE SECOND FORM. 'bulk': how many values and letters a reading holds, each counted each time it is reached (what is shared counts as often as it is met; a slice's spare places count too). A statement '..UptoSaid' is the law's where the arguments, and the package variables that the reading takes, are together of bulk at most 1048576: NARROWER than '..Said'. Prove '..Said' where nothing that the law and all that it calls make is longer than what came in: it says more and counts as full. Else prove '..UptoSaid'. A law counts once. -/
mutual
def uptoBulk {H : Type} : DataW H → Nat
  | .lit (.string bytes) => bytes.length + 1
  | .lit _ => 1
  | .nil => 1
  | .ptr d => uptoBulk d + 1
  | .slice elems spare => uptoBulkAll elems + uptoBulkAll spare + 1
  | .agg parts => uptoBulkAll parts + 1
  | .iface _ d => uptoBulk d + 1
  | .map entries => uptoBulkEntries entries + 1
  | .held _ => 1
def uptoBulkAll {H : Type} : List (DataW H) → Nat
  | [] => 0
  | d :: r => uptoBulk d + uptoBulkAll r
def uptoBulkEntries {H : Type} : List (Lit × DataW H) → Nat
  | [] => 0
  | x :: r => uptoBulkEntry x + uptoBulkEntries r
def uptoBulkEntry {H : Type} : Lit × DataW H → Nat
  | (.string bytes, d) => bytes.length + uptoBulk d + 1
  | (_, d) => uptoBulk d + 1
 end
def uptoSmall : (H : Type) → List (DataW H) → Bool := fun _ ds => decide (uptoBulkAll ds ≤ 1048576)
def OpenSpec.upto (s : _root_.Go.ChangeSpec) : _root_.Go.OpenSpec := { _root_.Go.OpenSpec.ofChange s with cond := some uptoSmall }

/-- 'plaitlaw04.SeqTwice', WHERE WHAT IT READS IS OF BULK AT MOST 1048576: true; the input reads as it did. -/
def seqTwiceUptoRow : OpenClaim := { program := "ytfhdnmeciohmlaadoor", sum := "7b1ad2ede9cfb0c4b190eff5d8928f09d978dec409b3841b144af7c3f06510cb", func := "plait/plaitlaw04.SeqTwice", spec := "seqTwice", inPlace := ["internal/reflectlite.ValueOf", "(internal/reflectlite.Value).Type", "(internal/reflectlite.Value).IsNil", "internal/reflectlite.TypeOf", "(internal/reflectlite.Value).Elem", "(internal/reflectlite.Value).Set"], unfollowed := true, recurses := true, named := ["errors.errorType"], apart := false, laid := [("errors.errorType", laid_errors_errorType)], narrowed := true }
def SeqTwiceUptoSaid : Prop := seqTwiceUptoRow.holds Tryd.pinned (OpenSpec.upto seqTwiceSpec)

/-- 'plaitlaw04.SeqJoins', WHERE WHAT IT READS IS OF BULK AT MOST 1048576: true; the input reads as it did. -/
def seqJoinsUptoRow : OpenClaim := { program := "ytfhdnmeciohmlaadoor", sum := "7b1ad2ede9cfb0c4b190eff5d8928f09d978dec409b3841b144af7c3f06510cb", func := "plait/plaitlaw04.SeqJoins", spec := "seqJoins", inPlace := ["internal/reflectlite.ValueOf", "(internal/reflectlite.Value).Type", "(internal/reflectlite.Value).IsNil", "internal/reflectlite.TypeOf", "(internal/reflectlite.Value).Elem", "(internal/reflectlite.Value).Set"], unfollowed := true, recurses := true, named := ["errors.errorType"], apart := false, laid := [("errors.errorType", laid_errors_errorType)], narrowed := true }
def SeqJoinsUptoSaid : Prop := seqJoinsUptoRow.holds Tryd.pinned (OpenSpec.upto seqJoinsSpec)

/-- 'plaitlaw04.SeqOnce', WHERE WHAT IT READS IS OF BULK AT MOST 1048576: true; the input reads as it did. -/
def seqOnceUptoRow : OpenClaim := { program := "ytfhdnmeciohmlaadoor", sum := "7b1ad2ede9cfb0c4b190eff5d8928f09d978dec409b3841b144af7c3f06510cb", func := "plait/plaitlaw04.SeqOnce", spec := "seqOnce", inPlace := ["internal/reflectlite.ValueOf", "(internal/reflectlite.Value).Type", "(internal/reflectlite.Value).IsNil", "internal/reflectlite.TypeOf", "(internal/reflectlite.Value).Elem", "(internal/reflectlite.Value).Set"], unfollowed := true, recurses := true, named := ["errors.errorType"], apart := false, laid := [("errors.errorType", laid_errors_errorType)], narrowed := true }
def SeqOnceUptoSaid : Prop := seqOnceUptoRow.holds Tryd.pinned (OpenSpec.upto seqOnceSpec)

/-- 'plaitlaw04.SeqTurns', WHERE WHAT IT READS IS OF BULK AT MOST 1048576: true; the input reads as it did. -/
def seqTurnsUptoRow : OpenClaim := { program := "ytfhdnmeciohmlaadoor", sum := "7b1ad2ede9cfb0c4b190eff5d8928f09d978dec409b3841b144af7c3f06510cb", func := "plait/plaitlaw04.SeqTurns", spec := "seqTurns", inPlace := ["internal/reflectlite.ValueOf", "(internal/reflectlite.Value).Type", "(internal/reflectlite.Value).IsNil", "internal/reflectlite.TypeOf", "(internal/reflectlite.Value).Elem", "(internal/reflectlite.Value).Set"], unfollowed := true, recurses := true, named := ["errors.errorType"], apart := false, laid := [("errors.errorType", laid_errors_errorType)], narrowed := true }
def SeqTurnsUptoSaid : Prop := seqTurnsUptoRow.holds Tryd.pinned (OpenSpec.upto seqTurnsSpec)

/-- 'plaitlaw04.SeqLeast', WHERE WHAT IT READS IS OF BULK AT MOST 1048576: true; the input reads as it did. -/
def seqLeastUptoRow : OpenClaim := { program := "ytfhdnmeciohmlaadoor", sum := "7b1ad2ede9cfb0c4b190eff5d8928f09d978dec409b3841b144af7c3f06510cb", func := "plait/plaitlaw04.SeqLeast", spec := "seqLeast", inPlace := ["internal/reflectlite.ValueOf", "(internal/reflectlite.Value).Type", "(internal/reflectlite.Value).IsNil", "internal/reflectlite.TypeOf", "(internal/reflectlite.Value).Elem", "(internal/reflectlite.Value).Set"], unfollowed := true, recurses := true, named := ["errors.errorType"], apart := false, laid := [("errors.errorType", laid_errors_errorType)], narrowed := true }
def SeqLeastUptoSaid : Prop := seqLeastUptoRow.holds Tryd.pinned (OpenSpec.upto seqLeastSpec)

/-- 'plaitlaw04.SeqRuns', WHERE WHAT IT READS IS OF BULK AT MOST 1048576: true; the input reads as it did. -/
def seqRunsUptoRow : OpenClaim := { program := "ytfhdnmeciohmlaadoor", sum := "7b1ad2ede9cfb0c4b190eff5d8928f09d978dec409b3841b144af7c3f06510cb", func := "plait/plaitlaw04.SeqRuns", spec := "seqRuns", inPlace := ["internal/reflectlite.ValueOf", "(internal/reflectlite.Value).Type", "(internal/reflectlite.Value).IsNil", "internal/reflectlite.TypeOf", "(internal/reflectlite.Value).Elem", "(internal/reflectlite.Value).Set"], unfollowed := true, recurses := true, named := ["errors.errorType"], apart := false, laid := [("errors.errorType", laid_errors_errorType)], narrowed := true }
def SeqRunsUptoSaid : Prop := seqRunsUptoRow.holds Tryd.pinned (OpenSpec.upto seqRunsSpec)

/-- 'plaitlaw04.SeqNew', WHERE WHAT IT READS IS OF BULK AT MOST 1048576: true; the input reads as it did. -/
def seqNewUptoRow : OpenClaim := { program := "ytfhdnmeciohmlaadoor", sum := "7b1ad2ede9cfb0c4b190eff5d8928f09d978dec409b3841b144af7c3f06510cb", func := "plait/plaitlaw04.SeqNew", spec := "seqNew", inPlace := ["internal/reflectlite.ValueOf", "(internal/reflectlite.Value).Type", "(internal/reflectlite.Value).IsNil", "internal/reflectlite.TypeOf", "(internal/reflectlite.Value).Elem", "(internal/reflectlite.Value).Set"], unfollowed := true, recurses := true, named := ["errors.errorType"], apart := false, laid := [("errors.errorType", laid_errors_errorType)], narrowed := true }
def SeqNewUptoSaid : Prop := seqNewUptoRow.holds Tryd.pinned (OpenSpec.upto seqNewSpec)

end Rows
end Go.Proofs.YtfhdnmeciohmlaaDoor
