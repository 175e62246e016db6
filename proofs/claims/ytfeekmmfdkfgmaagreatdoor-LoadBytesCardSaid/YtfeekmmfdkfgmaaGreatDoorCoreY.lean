/-
Asks of a map's faces (layer 16's program).
Conditions: those that each theorem states.
-/
import Derived.Test.YtfeekmmfdkfgmaaGreatDoorGCoreE
import Derived.Test.YtfeekmmfdkfgmaaGreatDoorGRefC
import Derived.Test.YtfeekmmfdkfgmaaGreatDoorGLawC
set_option linter.unusedVariables false
set_option linter.unusedSimpArgs false
namespace Go.Proofs.YtfeekmmfdkfgmaaGreatDoor
open Go Go.RowKit
namespace Core
set_option linter.ambiguousOpen false
open Seq Cut Web
section
variable {w₀ w w':World} {b:Bk} {N d x y:Nat} {lv:Nat→Bool} {tl:Nat→List Nat} {q:List (List Nat)} {B D:Nat→Option (Nat × Nat)} {ky:Nat→Int} {L L':List Nat}
variable {A p s:List Nat} {lim:Nat→Prop}
end
end Core
end Go.Proofs.YtfeekmmfdkfgmaaGreatDoor
