/-
What the laws' own helpers of layer 18 make: an error's number, lists compared.
Conditions: the package variable of errors is laid out.
-/
import Derived.Test.YtdamhidnlfjkdaaGreatDoorGLaw
import Derived.Test.YtdamhidnlfjkdaaGreatDoorShPlaitlaw18
namespace Go.Proofs.YtdamhidnlfjkdaaGreatDoor
open Go
set_option linter.unusedVariables false
set_option linter.unusedSimpArgs false
namespace Seq
theorem c_num18 {w : World} {c : Int} (hg : LaidG w) : Calls Pg fn_plaitlaw18_num #[errV c] w fun e w' => e = .returned (.int .i64 c) ∧ Chg Nobody w w' := by
  refine (calls_plaitlaw18_num _ _ (fun v' w' => v' = .int .i64 c ∧ Chg Nobody w w') ?_).mono (by rintro e w' ⟨v, rfl, rfl, k⟩; exact ⟨rfl, k⟩)
  unfold sh_plaitlaw18_num
  refine alo_r fun ha => ?_
  refine ⟨errV_isI c, ?_⟩
  rw [errV_nil]
  refine bif_i (fun h => ?_) (fun h => ?_)
  · simp only [decide_eq_true_eq] at h
    exact ⟨by rw [h], (Chg.refl _ _).alloc _⟩
  · simp only [decide_eq_false_iff_not] at h
    rw [errV_ne h]
    refine (as_hit c ⟨w.heap.size, 0, none⟩ (.int .i64 0) _ (hg.alloc _) (by rw [ha.cell]; rfl) (ha.frozen 0)).mono ?_
    rintro e w' ⟨rfl, rfl⟩
    refine ⟨_, rfl, ?_⟩
    have hA := (((ha.alloc (.cells #[.pointer (some ⟨w.heap.size, 0, none⟩)] T_p_api_Errno)).alloc (.cells #[.pointer (some ⟨1, T_p_api_Errno, none⟩), .pointer (some ⟨(w.alloc (.cells #[.int .i64 0] T_api_Errno)).heap.size, 0, none⟩), .int .u64 150] T_reflectlite_Value)).alloc (.cells #[.pointer (some ⟨1, T_p_api_Errno, none⟩), .pointer (some ⟨(w.alloc (.cells #[.int .i64 0] T_api_Errno)).heap.size, 0, none⟩), .int .u64 150] T_reflectlite_Value)).alloc (.cells #[.int .i64 c] T_api_Errno)
    refine bif_i (fun _ => ?_) (fun h => by cases h)
    refine ldI_r (hA.set 0 (.int .i64 c)) rfl ?_
    exact ⟨rfl, (((((Chg.refl Nobody w).alloc _).alloc _).alloc _).alloc _ |>.alloc _).setCell _ _ (.inr (Nat.le_refl _))⟩
end Seq
end Go.Proofs.YtdamhidnlfjkdaaGreatDoor
