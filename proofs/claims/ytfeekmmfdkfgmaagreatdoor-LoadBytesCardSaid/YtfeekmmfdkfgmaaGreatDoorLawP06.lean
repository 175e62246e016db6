/-
What the laws' own helpers of layer 06 make: an error's number, lists compared.
Conditions: the package variable of errors is laid out.
-/
import Derived.Test.YtfeekmmfdkfgmaaGreatDoorGLaw
set_option linter.unusedVariables false
set_option linter.unusedSimpArgs false
namespace Go.Proofs.YtfeekmmfdkfgmaaGreatDoor
open Go
namespace Seq
end Seq
end Go.Proofs.YtfeekmmfdkfgmaaGreatDoor
