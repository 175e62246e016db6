/-
The law CutCuts: a tree cut between two nodes of a road falls apart there.
Conditions: the package variable of errors is laid out; the acts can be read.
-/
import Derived.Test.YtaoemljoiahapaaDoorLawCutNew
namespace Go.Proofs.YtaoemljoiahapaaDoor
open Go Go.RowKit
set_option linter.unusedVariables false
set_option linter.unusedSimpArgs false
namespace Cut
open Go.Proofs.YtaoemljoiahapaaDoor.Seq
section
variable {E E' : Nat → Nat → Prop} {a b u i k : Nat} {l : List Nat}
theorem nd_inj {j x : Nat} (h : l.Nodup) (h1 : l[i]? = some x) (h2 : l[j]? = some x) : i = j :=
  (List.getElem?_inj (List.getElem?_eq_some_iff.1 h1).1 h).1 (h1.trans h2.symm)
end
end Cut
end Go.Proofs.YtaoemljoiahapaaDoor
