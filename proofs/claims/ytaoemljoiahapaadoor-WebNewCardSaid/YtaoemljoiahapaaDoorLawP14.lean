/-
What the laws' own helpers of layer 14 make: an error's number, lists compared.
Conditions: the package variable of errors is laid out.
-/
import Derived.Test.YtaoemljoiahapaaDoorGLaw
import Derived.Test.YtaoemljoiahapaaDoorShPlaitlaw14
namespace Go.Proofs.YtaoemljoiahapaaDoor
open Go
set_option linter.unusedVariables false
set_option linter.unusedSimpArgs false
namespace Seq
theorem c_num14 {w : World} {c : Int} (hg : LaidG w) : Calls Pg fn_plaitlaw14_num #[errV c] w fun e w' => e = .returned (.int .i64 c) ∧ Chg Nobody w w' := by
  refine (calls_plaitlaw14_num _ _ (fun v' w' => v' = .int .i64 c ∧ Chg Nobody w w') ?_).mono (by rintro e w' ⟨v, rfl, rfl, k⟩; exact ⟨rfl, k⟩)
  unfold sh_plaitlaw14_num
  refine alo_r fun ha => ?_
  refine ⟨errV_isI c, ?_⟩
  rw [errV_nil]
  refine bif_i (fun h => ?_) (fun h => ?_)
  · simp only [decide_eq_true_eq] at h
    exact ⟨by rw [h], (Chg.refl _ _).alloc _⟩
  · simp only [decide_eq_false_iff_not] at h
    rw [errV_ne h]
    refine (as_hit c ⟨w.heap.size, 0, none⟩ (.int .i64 0) _ (hg.alloc _) (by rw [ha.cell]; rfl) (ha.frozen 0)).mono ?_
    rintro e w' ⟨rfl, rfl⟩
    refine ⟨_, rfl, ?_⟩
    have hA := (((ha.alloc (.cells #[.pointer (some ⟨w.heap.size, 0, none⟩)] T_p_api_Errno)).alloc (.cells #[.pointer (some ⟨1, T_p_api_Errno, none⟩), .pointer (some ⟨(w.alloc (.cells #[.int .i64 0] T_api_Errno)).heap.size, 0, none⟩), .int .u64 150] T_reflectlite_Value)).alloc (.cells #[.pointer (some ⟨1, T_p_api_Errno, none⟩), .pointer (some ⟨(w.alloc (.cells #[.int .i64 0] T_api_Errno)).heap.size, 0, none⟩), .int .u64 150] T_reflectlite_Value)).alloc (.cells #[.int .i64 c] T_api_Errno)
    refine bif_i (fun _ => ?_) (fun h => by cases h)
    refine ldI_r (hA.set 0 (.int .i64 c)) rfl ?_
    exact ⟨rfl, (((((Chg.refl Nobody w).alloc _).alloc _).alloc _).alloc _ |>.alloc _).setCell _ _ (.inr (Nat.le_refl _))⟩
theorem c_ints14 {w : World} {b1 b2 : Option Addr} {l1 c1 l2 c2 : Nat} {A B : List Int} (h1 : IA w b1 l1 A) (h2 : IA w b2 l2 B) (hl : l1 ≤ 4611686018427387904) :
    Calls Pg fn_plaitlaw14_ints #[.slice b1 l1 c1, .slice b2 l2 c2] w fun e w' => e = .returned (.bool (decide (A = B))) ∧ Chg Nobody w w' := by
  refine (calls_plaitlaw14_ints _ _ _ _ _ _ _ (fun v' w' => v' = .bool (decide (A = B)) ∧ Chg Nobody w w') ?_).mono (by rintro e w' ⟨v, rfl, rfl, k⟩; exact ⟨rfl, k⟩)
  unfold sh_plaitlaw14_ints
  refine bif_i (fun hc => ?_) (fun hc => ?_) <;> simp only [b1s] at hc
  · have : A ≠ B := by rintro rfl; exact hc (by rw [← h1.1, ← h2.1])
    rw [decide_eq_false this]
    exact ⟨rfl, Chg.refl _ _⟩
  · have hll : l1 = l2 := by omega
    subst hll
    let J : Nat → List Value → World → Prop := fun j vs w' => ∃ i : Nat, vs = [.int .i64 i] ∧ i ≤ l1 ∧ A.take i = B.take i ∧ Chg Nobody w w' ∧ j = l1 - i
    refine ⟨LI J, LM J, ⟨_, 0, rfl, by omega, by simp, Chg.refl _ _, rfl⟩, ?_⟩
    intro _ n4 w5 hJ
    obtain ⟨i, hvs, hi, hab, hch, hj⟩ := hJ.at
    simp only [List.cons.injEq, Value.int.injEq, and_true, true_and] at hvs
    subst hvs
    have hA := h1.1
    have hB := h2.1
    refine bif_i (fun hc => ?_) (fun hc => ?_) <;> simp only [b1s] at hc
    · have hiA : i < A.length := by omega
      have hiB : i < B.length := by omega
      refine (h1.nob hch).drew.rd (List.getElem?_eq_getElem hiA) ?_
      refine (h2.nob hch).drew.rd (List.getElem?_eq_getElem hiB) ?_
      refine bif_i (fun h => ?_) (fun h => ?_) <;> simp only [b1s] at h
      · have : A ≠ B := by rintro rfl; exact h rfl
        rw [decide_eq_false this]
        exact ⟨rfl, hch.drew⟩
      · rw [wrap64_in (by omega) (by omega)]
        refine LI.again (k := l1 - (i + 1)) ⟨i + 1, rfl, by omega, ?_, hch.drew, rfl⟩ (by rw [hj]; omega)
        rw [List.take_add_one, List.take_add_one, hab, List.getElem?_eq_getElem hiA, List.getElem?_eq_getElem hiB, h]
    · have : A = B := by
        rw [← List.take_of_length_le (l := A) (i := i) (by omega), hab, List.take_of_length_le (by omega)]
      rw [decide_eq_true this]
      exact ⟨rfl, hch⟩

end Seq
end Go.Proofs.YtaoemljoiahapaaDoor
