/-
A law's trees: by some acts; what must come whatever the input is.
Conditions: those that each theorem states.
-/
import Derived.Test.YtpmicakdjhoafaaGreatDoorGCutE
import Derived.Test.YtpmicakdjhoafaaGreatDoorLawP06
import Derived.Test.YtpmicakdjhoafaaGreatDoorGLaw
import Derived.Test.YtpmicakdjhoafaaGreatDoorGRef
set_option linter.unusedVariables false
set_option linter.unusedSimpArgs false
namespace Go.Proofs.YtpmicakdjhoafaaGreatDoor
open Go Go.RowKit
namespace Cut
open Go.Proofs.YtpmicakdjhoafaaGreatDoor.Seq
section
variable {w₀ w w':World} {F L n a b x:Nat} {v v':Nat→Int} {E E':Nat→Nat→Prop} {l:List Nat}
theorem lk_lt (hE:∀x y,E x y→x<n∧y<n):∀(l:List Nat) (a:Nat),l.head?=some a→a<n→Lk E l→∀x∈l,x<n:=by
 intro l
 induction l with
 | nil=>intro a h;simp at h
 | cons y l ih=>
  intro a h ha hl x hx
  simp at h
  subst h
  rcases List.mem_cons.1 hx with rfl | hx
  ·exact ha
  ·cases l with
   | nil=>cases hx
   | cons z l=>exact ih z rfl (hE y z (hl.1 z rfl)).2 hl.2 x hx
theorem AE.way {h:Array Obj} (k:AE h F L n v E) (ha:a<n) (hw:Way E a b l):(∀x∈l,x<n)∧l.length≤n∧0<l.length∧b<n:=by
 have h1:=lk_lt k.bd l a hw.hd ha hw.lk
 refine ⟨h1,Qjj hw.nd h1,?_,h1 b (List.mem_of_getLast? hw.la)⟩
 have:=hw.hd
 cases l with
 | nil=>simp at this
 | cons=>simp
theorem AE.congr {h:Array Obj} (k:AE h F L n v E) (he:∀x y,E x y↔E' x y):AE h F L n v E':=by
 obtain ⟨s,pa,ps,i,j,z,e⟩:=k
 exact ⟨s,pa,ps,i,j,z,fun x y=>(e x y).trans (he x y)⟩
end
end Cut
end Go.Proofs.YtpmicakdjhoafaaGreatDoor
