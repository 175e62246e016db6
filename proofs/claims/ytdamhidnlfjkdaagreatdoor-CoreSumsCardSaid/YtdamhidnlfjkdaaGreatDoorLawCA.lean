/-
A law's trees: by some acts; what must come whatever the input is.
Conditions: those that each theorem states.
-/
import Derived.Test.YtdamhidnlfjkdaaGreatDoorGCutE
import Derived.Test.YtdamhidnlfjkdaaGreatDoorLawP06
import Derived.Test.YtdamhidnlfjkdaaGreatDoorGLaw
import Derived.Test.YtdamhidnlfjkdaaGreatDoorGRef
namespace Go.Proofs.YtdamhidnlfjkdaaGreatDoor
open Go Go.RowKit
set_option linter.unusedVariables false
set_option linter.unusedSimpArgs false
namespace Cut
open Go.Proofs.YtdamhidnlfjkdaaGreatDoor.Seq
structure LC (w₀ w:World) (F L n:Nat) (v:Nat→Int) (E:Nat→Nat→Prop):Prop where
  c:Chg Nobody w₀ w
  hF:w₀.heap.size≤F
  hL:w₀.heap.size≤L
  a:AE w.heap F L n v E
section
variable {w₀ w w':World} {F L n a b x:Nat} {v v':Nat→Int} {E E':Nat→Nat→Prop} {l:List Nat}
theorem LC.step (h:LC w₀ w F L n v E) (k:CE w w' F L n v' E'):LC w₀ w' F L n v' E':=⟨h.c.trans' k.c (fun i e=>by subst e;exact .inr h.hL),h.hF,h.hL,k.a⟩
theorem LC.nob (h:LC w₀ w F L n v E) (k:Chg Nobody w w'):LC w₀ w' F L n v E:=⟨h.c.trans k,h.hF,h.hL,h.a.keep k (fun h=>h) (fun h=>h)⟩
theorem LC.alloc (h:LC w₀ w F L n v E) (o:Obj):LC w₀ (w.alloc o) F L n v E:=h.nob ((Chg.refl _ _).alloc o)
theorem LC.drew (h:LC w₀ w F L n v E):LC w₀ w.drew F L n v E:=h.nob (Chg.refl _ _).drew
theorem LC.g (h:LC w₀ w F L n v E) (k:LaidG w₀):LaidG w:=k.chg h.c (fun h=>h)
theorem LC.put (h:LC w₀ w F L n v E) {B:Nat} (k:Chg (·=B) w w') (hB:w₀.heap.size≤B) (hF:F≠B) (hL:L≠B):LC w₀ w' F L n v E:=
  ⟨h.c.trans' k (fun i e=>by subst e;exact .inr hB),h.hF,h.hL,h.a.keep k hF hL⟩
theorem lk_lt (hE:∀x y,E x y→x<n∧y<n):∀(l:List Nat) (a:Nat),l.head?=some a→a<n→Lk E l→∀x∈l,x<n:=by
  intro l
  induction l with
  | nil=>intro a h;simp at h
  | cons y l ih=>
    intro a h ha hl x hx
    simp at h
    subst h
    rcases List.mem_cons.1 hx with rfl | hx
    · exact ha
    · cases l with
      | nil=>cases hx
      | cons z l=>exact ih z rfl (hE y z (hl.1 z rfl)).2 hl.2 x hx
theorem AE.way {h:Array Obj} (k:AE h F L n v E) (ha:a<n) (hw:Way E a b l):(∀x∈l,x<n)∧l.length≤n∧0<l.length∧b<n:=by
  have h1:=lk_lt k.bd l a hw.hd ha hw.lk
  refine ⟨h1,nodup_len hw.nd h1,?_,h1 b (List.mem_of_getLast? hw.la)⟩
  have:=hw.hd
  cases l with
  | nil=>simp at this
  | cons=>simp
theorem AE.congr {h:Array Obj} (k:AE h F L n v E) (he:∀x y,E x y↔E' x y):AE h F L n v E':=by
  obtain ⟨s,pa,ps,i,j,z,e⟩:=k
  exact ⟨s,pa,ps,i,j,z,fun x y=>(e x y).trans (he x y)⟩
theorem LC.congr (h:LC w₀ w F L n v E) (he:∀x y,E x y↔E' x y):LC w₀ w F L n v E':=⟨h.c,h.hF,h.hL,h.a.congr he⟩
end
end Cut
end Go.Proofs.YtdamhidnlfjkdaaGreatDoor
