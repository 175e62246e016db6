/-
The reference of layer 4: lists of items.
Conditions: those that each theorem states.
-/
import Derived.Test.YtpmicakdjhoafaaGreatDoorGLaw
set_option linter.unusedVariables false
set_option linter.unusedSimpArgs false
namespace Go.Proofs.YtpmicakdjhoafaaGreatDoor
open Go Go.RowKit
namespace Seq
def Okb (bad:Nat→Prop) (b:Option Addr):Prop:=∀k,bk b=some k→¬bad k
section
variable {w w':World} {bad:Nat→Prop} {b:Option Addr} {l c:Nat} {X:List (List Nat)} {A:List Nat}
end
def wo (X:List (List Nat)) (a b:Int) (n:Nat):List (List Nat):=(List.range n).filterMap fun i:Nat=>if (i:Int)=a∨(i:Int)=b then none else X[i]?
end Seq
end Go.Proofs.YtpmicakdjhoafaaGreatDoor
namespace Go.Proofs.YtpmicakdjhoafaaGreatDoor
open Go Go.RowKit
namespace Seq
theorem Quz:ET Pg Qbp Qam 1 24:=ET.of (by kernel_rfl) (by kernel_rfl)
section
variable {w w':World} {bad bad':Nat→Prop} {b b':Option Addr} {l c base:Nat} {X:List (List Nat)} {A:List Nat} {xs:List Value} {v:Value}
end
end Seq
end Go.Proofs.YtpmicakdjhoafaaGreatDoor
namespace Go.Proofs.YtpmicakdjhoafaaGreatDoor
open Go Go.RowKit
namespace Seq
end Seq
end Go.Proofs.YtpmicakdjhoafaaGreatDoor
namespace Go.Proofs.YtpmicakdjhoafaaGreatDoor
open Go Go.RowKit
namespace Seq
section
variable {w w':World} {bad bad':Nat→Prop} {b b':Option Addr} {l c base:Nat} {X Y:List (List Nat)} {A:List Nat} {xs vs:List Value} {v:Value}
end
end Seq
end Go.Proofs.YtpmicakdjhoafaaGreatDoor
namespace Go.Proofs.YtpmicakdjhoafaaGreatDoor
open Go Go.RowKit
namespace Seq
theorem IA.pre {w:World} {b:Option Addr} {l k:Nat} {A:List Int} (h:IA w b l A) (hk:k≤l):IA w b k (A.take k):=by
 obtain ⟨h1,h2⟩:=h
 refine ⟨by simp;omega,?_⟩
 rcases h2 with h2 | ⟨g,o,e,cs,rfl,hr,hc⟩
 ·exact .inl (by omega)
 ·refine .inr ⟨g,o,e,cs,rfl,hr,fun i hi=>?_⟩
  rw [hc i (by omega),List.getElem?_take,if_pos hi]
theorem IA.post {w:World} {b:Option Addr} {l k:Nat} {A:List Int} (h:IA w b l A) (hk:k≤l):IA w (b.map fun a=>a.add (k*1)) (l-k) (A.drop k):=by
 obtain ⟨h1,h2⟩:=h
 refine ⟨by simp;omega,?_⟩
 rcases h2 with h2 | ⟨g,o,e,cs,rfl,hr,hc⟩
 ·exact .inl (by omega)
 ·refine .inr ⟨g,o+k,e,cs,by simp [Qaf],hr,fun i hi=>?_⟩
  rw [Nat.add_assoc,hc (k+i) (by omega),List.getElem?_drop]
end Seq
end Go.Proofs.YtpmicakdjhoafaaGreatDoor
namespace Go.Proofs.YtpmicakdjhoafaaGreatDoor
open Go Go.RowKit
namespace Seq
end Seq
end Go.Proofs.YtpmicakdjhoafaaGreatDoor
