import Derived.Test.YtfeekmmfdkfgmaaGreatDoorGLaw
import Derived.Test.YtfeekmmfdkfgmaaGreatDoorHsh
/-
What the laws' own helpers of layer 18 make: an error's number, lists compared.
Conditions: the package variable of errors is laid out.
-/
set_option linter.unusedVariables false
set_option linter.unusedSimpArgs false
namespace Go.Proofs.YtfeekmmfdkfgmaaGreatDoor
open Go
namespace Seq
theorem Q6y {w:World} {c:Int} (hg:LaidG w):Calls Pg 12 #[errV c] w fun e w'=>e=.returned (.int .i64 c)∧Chg Qaa w w':=by
 refine (Qvb _).go ?_
 unfold Qpv nr
 refine Qal fun ha=>?_
 refine ⟨Qbu c,?_⟩
 rw [Qb4]
 refine Qac (fun h=>?_) (fun h=>?_)
 ·simp only [decide_eq_true_eq] at h
  exact ⟨by rw [h],(Chg.refl _ _).alloc _⟩
 ·simp only [decide_eq_false_iff_not] at h
  rw [Zca h]
  refine (Zhd c ⟨w.heap.size,0,none⟩ (.int .i64 0) _ (hg.alloc _) (by rw [ha.cell];rfl) (ha.frozen 0)).mono ?_
  rintro e w' ⟨rfl,rfl⟩
  refine ⟨_,rfl,?_⟩
  have hA:=(((ha.alloc (.cells #[.pointer (some ⟨w.heap.size,0,none⟩)] 116)).alloc (.cells #[.pointer (some ⟨2,116,none⟩),.pointer (some ⟨(w.alloc (.cells #[.int .i64 0] 103)).heap.size,0,none⟩),.int .u64 150] 197)).alloc (.cells #[.pointer (some ⟨2,116,none⟩),.pointer (some ⟨(w.alloc (.cells #[.int .i64 0] 103)).heap.size,0,none⟩),.int .u64 150] 197)).alloc (.cells #[.int .i64 c] 103)
  refine Qac (fun _=>?_) (fun h=>by cases h)
  refine Qaf (hA.set 0 (.int .i64 c)) rfl ?_
  exact ⟨rfl,(((((Chg.refl Qaa w).alloc _).alloc _).alloc _).alloc _ |>.alloc _).setCell _ _ (.inr (Nat.le_refl _))⟩
end Seq
end Go.Proofs.YtfeekmmfdkfgmaaGreatDoor
