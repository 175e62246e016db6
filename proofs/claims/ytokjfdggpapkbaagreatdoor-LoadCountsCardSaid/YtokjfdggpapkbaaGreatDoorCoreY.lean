/-
Asks of a map's faces (layer 16's program).
Conditions: those that each theorem states.
-/
import Derived.Test.YtokjfdggpapkbaaGreatDoorGCoreE
import Derived.Test.YtokjfdggpapkbaaGreatDoorGRefC
import Derived.Test.YtokjfdggpapkbaaGreatDoorGLawC
set_option linter.unusedVariables false
set_option linter.unusedSimpArgs false
namespace Go.Proofs.YtokjfdggpapkbaaGreatDoor
open Go Go.RowKit
namespace Core
open Go.Proofs.YtokjfdggpapkbaaGreatDoor.Seq Go.Proofs.YtokjfdggpapkbaaGreatDoor.Cut Go.Proofs.YtokjfdggpapkbaaGreatDoor.Web
section
variable {w₀ w w':World} {b:Bk} {N d x y:Nat} {lv:Nat→Bool} {tl:Nat→List Nat} {q:List (List Nat)} {B D:Nat→Option (Nat × Nat)} {ky:Nat→Int} {L L':List Nat}
variable {A p s:List Nat} {lim:Nat→Prop}
end
end Core
end Go.Proofs.YtokjfdggpapkbaaGreatDoor
