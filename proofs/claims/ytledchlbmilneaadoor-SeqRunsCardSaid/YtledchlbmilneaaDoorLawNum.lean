/-
What the laws' own helpers make: an error's number.
Conditions: the package variable of errors is laid out.
-/
import Derived.Test.YtledchlbmilneaaDoorAs
import Derived.Test.YtledchlbmilneaaDoorShPlaitlaw04
import Derived.Test.YtledchlbmilneaaDoorSeqT
namespace Go.Proofs.YtledchlbmilneaaDoor
open Go
set_option linter.unusedVariables false
set_option linter.unusedSimpArgs false
namespace Seq
/-- errors' own variable stands as it was laid out. -/
def LaidG (w : World) : Prop := w.cell? ⟨0, 0, none⟩ = some (.iface T_reflectlite_rtype (.agg #[.pointer (some ⟨1, T_error, none⟩)]))
theorem LaidG.pos {w : World} (h : LaidG w) : 0 < w.heap.size := by
  rcases Nat.eq_zero_or_pos w.heap.size with h0 | h1
  · unfold LaidG World.cell? at h; simp [h0] at h
  · exact h1
theorem cell_eq {w w' : World} {a : Addr} (h : w'.heap[a.block]? = w.heap[a.block]?) : w'.cell? a = w.cell? a := by
  unfold World.cell?; rw [h]
theorem LaidG.chg {w w' : World} {S : Nat → Prop} (h : LaidG w) (c : Chg S w w') (hS : ¬ S 0) : LaidG w' := by
  have hp := h.pos
  unfold LaidG at *
  rw [← h]; exact cell_eq (c.block 0 hp hS)
theorem LaidG.alloc {w : World} (h : LaidG w) (o : Obj) : LaidG (w.alloc o) := h.chg ((Chg.refl Nobody w).alloc o) (fun h => h)
theorem c_num {w : World} {c : Int} (hg : LaidG w) : Calls Pg fn_plaitlaw04_num #[errV c] w fun e w' => e = .returned (.int .i64 c) ∧ Chg Nobody w w' := by
  refine (calls_plaitlaw04_num _ _ (fun v' w' => v' = .int .i64 c ∧ Chg Nobody w w') ?_).mono (by rintro e w' ⟨v, rfl, rfl, k⟩; exact ⟨rfl, k⟩)
  unfold sh_plaitlaw04_num
  refine alo_r fun ha => ?_
  refine ⟨errV_isI c, ?_⟩
  rw [errV_nil]
  refine bif_i (fun h => ?_) (fun h => ?_)
  · simp only [decide_eq_true_eq] at h
    exact ⟨by rw [h], (Chg.refl _ _).alloc _⟩
  · simp only [decide_eq_false_iff_not] at h
    rw [errV_ne h]
    refine (as_hit c ⟨w.heap.size, 0, none⟩ (.int .i64 0) _ (hg.alloc _) (by rw [ha.cell]; rfl) (ha.frozen 0)).mono ?_
    rintro e w' ⟨rfl, rfl⟩
    refine ⟨_, rfl, ?_⟩
    have hA := (((ha.alloc (.cells #[.pointer (some ⟨w.heap.size, 0, none⟩)] T_p_api_Errno)).alloc (.cells #[.pointer (some ⟨1, T_p_api_Errno, none⟩), .pointer (some ⟨(w.alloc (.cells #[.int .i64 0] T_api_Errno)).heap.size, 0, none⟩), .int .u64 150] T_reflectlite_Value)).alloc (.cells #[.pointer (some ⟨1, T_p_api_Errno, none⟩), .pointer (some ⟨(w.alloc (.cells #[.int .i64 0] T_api_Errno)).heap.size, 0, none⟩), .int .u64 150] T_reflectlite_Value)).alloc (.cells #[.int .i64 c] T_api_Errno)
    refine bif_i (fun _ => ?_) (fun h => by cases h)
    refine ldI_r (hA.set 0 (.int .i64 c)) rfl ?_
    exact ⟨rfl, (((((Chg.refl Nobody w).alloc _).alloc _).alloc _).alloc _ |>.alloc _).setCell _ _ (.inr (Nat.le_refl _))⟩
end Seq
end Go.Proofs.YtledchlbmilneaaDoor
