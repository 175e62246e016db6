/-
The references' faces, all of them; the laid edges as a list, and which of two is less.
Conditions: those that each theorem states.
-/
import Derived.Test.YtokjfdggpapkbaaGreatDoorCoreY
import Derived.Test.YtokjfdggpapkbaaGreatDoorGRefC
import Derived.Test.YtokjfdggpapkbaaGreatDoorHsh
set_option linter.unusedVariables false
set_option linter.unusedSimpArgs false
namespace Go.Proofs.YtokjfdggpapkbaaGreatDoor
open Go Go.RowKit
namespace Core
open Go.Proofs.YtokjfdggpapkbaaGreatDoor.Seq Go.Proofs.YtokjfdggpapkbaaGreatDoor.Cut Go.Proofs.YtokjfdggpapkbaaGreatDoor.Web
section
variable {w w':World} {bad:Nat→Prop} {b lb tb wb:Option Addr} {c lc tc wc' N d e i j u v x y:Nat} {A L:List Nat} {tl:Nat→List Nat} {lv:Nat→Bool} {W:Nat→Int} {q:List (List Nat)} {B D:Nat→Option (Nat × Nat)} {lim S:Nat→Prop} {enc:Nat→List Value} {n:Nat} {A':Nat→List Nat}
structure Fcs (tl:Nat→List Nat) (N:Nat) (l:Nat) (X:Nat→List Nat):Prop where
 o:∀j,j<l→∃d,Orb tl N d (X j)
 a:∀x,x∈dl tl N→∃j,j<l∧x∈X j
 u:∀i j x,i<l→j<l→x∈X i→x∈X j→i=j
theorem Orb.Qje (h:Orb tl N d L) (hx:x∈L):y∈L↔PF tl N x y:=by
 have hd:PF tl N d x:=h.pf.1 hx
 have key:∀{u v},u∈L→PF tl N u v→v∈L:=fun {u v} hu k=>by
  induction k with
  | refl=>exact hu
  | step _ k ih=>
   subst k
   obtain ⟨z,hz⟩:=Q1v ih
   rw [h.c _ z hz];exact hz.mem.2
 constructor
 ·intro hy
  refine RT.mono (fun u v k=>(h.c u v k).symm) (cy_rt hx hy)
 ·exact key hx
def eL (tl:Nat→List Nat) (N:Nat):List Nat:=(List.range N).filter fun e=>decide (2*e∈dl tl N)
theorem Qjl {f:Nat→List Value} {s:Nat} (hf:∀x,(f x).length=s):∀{A:List Nat} {i e j:Nat},A[i]?=some e→j<s→(A.flatMap f)[i*s+j]?=(f e)[j]?
 | [],i,e,j,h,_=>by simp at h
 | a::A,0,e,j,h,hj=>by
  obtain rfl:a=e:=by simpa using h
  rw [List.flatMap_cons,Nat.zero_mul,Nat.zero_add,List.getElem?_append_left (by rw [hf];exact hj)]
 | a::A,i+1,e,j,h,hj=>by
  rw [List.flatMap_cons,List.getElem?_append_right (by rw [hf,Nat.succ_mul];omega),hf,show (i+1)*s+j-s=i*s+j by rw [Nat.succ_mul];omega]
  exact Qjl hf (by simpa using h) hj
end
end Core
end Go.Proofs.YtokjfdggpapkbaaGreatDoor
