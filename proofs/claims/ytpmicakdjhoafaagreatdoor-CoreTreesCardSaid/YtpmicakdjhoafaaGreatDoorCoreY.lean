/-
Asks of a map's faces (layer 16's program).
Conditions: those that each theorem states.
-/
import Derived.Test.YtpmicakdjhoafaaGreatDoorGCoreE
import Derived.Test.YtpmicakdjhoafaaGreatDoorGRefC
import Derived.Test.YtpmicakdjhoafaaGreatDoorGLawC
set_option linter.unusedVariables false
set_option linter.unusedSimpArgs false
namespace Go.Proofs.YtpmicakdjhoafaaGreatDoor
open Go Go.RowKit
namespace Core
open Go.Proofs.YtpmicakdjhoafaaGreatDoor.Seq Go.Proofs.YtpmicakdjhoafaaGreatDoor.Cut Go.Proofs.YtpmicakdjhoafaaGreatDoor.Web
section
variable {w₀ w w':World} {b:Bk} {N d x y:Nat} {lv:Nat→Bool} {tl:Nat→List Nat} {q:List (List Nat)} {B D:Nat→Option (Nat × Nat)} {ky:Nat→Int} {L L':List Nat}
variable {A p s:List Nat} {lim:Nat→Prop}
end
end Core
end Go.Proofs.YtpmicakdjhoafaaGreatDoor
