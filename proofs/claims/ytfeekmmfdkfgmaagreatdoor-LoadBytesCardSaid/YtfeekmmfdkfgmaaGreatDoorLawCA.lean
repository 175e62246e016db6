/-
A law's trees: by some acts; what must come whatever the input is.
Conditions: those that each theorem states.
-/
import Derived.Test.YtfeekmmfdkfgmaaGreatDoorGCutE
import Derived.Test.YtfeekmmfdkfgmaaGreatDoorLawP06
import Derived.Test.YtfeekmmfdkfgmaaGreatDoorGLaw
import Derived.Test.YtfeekmmfdkfgmaaGreatDoorGRef
set_option linter.unusedVariables false
set_option linter.unusedSimpArgs false
namespace Go.Proofs.YtfeekmmfdkfgmaaGreatDoor
open Go Go.RowKit
namespace Cut
open Go.Proofs.YtfeekmmfdkfgmaaGreatDoor.Seq
section
variable {w₀ w w':World} {F L n a b x:Nat} {v v':Nat→Int} {E E':Nat→Nat→Prop} {l:List Nat}
theorem AE.congr {h:Array Obj} (k:AE h F L n v E) (he:∀x y,E x y↔E' x y):AE h F L n v E':=by
 obtain ⟨s,pa,ps,i,j,z,e⟩:=k
 exact ⟨s,pa,ps,i,j,z,fun x y=>(e x y).trans (he x y)⟩
end
end Cut
end Go.Proofs.YtfeekmmfdkfgmaaGreatDoor
