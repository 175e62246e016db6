/-
The reference of layer 4: lists of items.
Conditions: those that each theorem states.
-/
import Derived.Test.YtfeekmmfdkfgmaaGreatDoorGLaw
set_option linter.unusedVariables false
set_option linter.unusedSimpArgs false
namespace Go.Proofs.YtfeekmmfdkfgmaaGreatDoor
open Go Go.RowKit
namespace Seq
def Okb (bad:Nat→Prop) (b:Option Addr):Prop:=∀k,bk b=some k→¬bad k
section
variable {w w':World} {bad:Nat→Prop} {b:Option Addr} {l c:Nat} {X:List (List Nat)} {A:List Nat}
end
theorem Qzi:ET Pg 38 58 1 24:=ET.of (by kernel_rfl) (by kernel_rfl)
section
variable {w w':World} {bad bad':Nat→Prop} {b b':Option Addr} {l c base:Nat} {X:List (List Nat)} {A:List Nat} {xs:List Value} {v:Value}
end
section
variable {w w':World} {bad bad':Nat→Prop} {b b':Option Addr} {l c base:Nat} {X Y:List (List Nat)} {A:List Nat} {xs vs:List Value} {v:Value}
end
end Seq
end Go.Proofs.YtfeekmmfdkfgmaaGreatDoor
