/-
The law SeqLeast: no item of a sequence has a value below the least one's, nor above the greatest one's.
Conditions: the package variable of errors is laid out; the acts can be read.
-/
import Derived.Test.YtfhdnmeciohmlaaDoorLawNew
namespace Go.Proofs.YtfhdnmeciohmlaaDoor
open Go
set_option linter.unusedVariables false
set_option linter.unusedSimpArgs false
namespace Seq
theorem c_SeqLeast {w : World} {n x : Int} {sb : Option Addr} {sl sc : Nat} {f : Nat → Nat → Int} (hg : LaidG w) (hf : CA w sb sl 4 f) :
    Calls Pg fn_plaitlaw04_SeqLeast #[.int .i64 n, .slice sb sl sc, .int .i64 x] w fun e w' => e = .returned (.bool true) ∧ Chg Nobody w w' := by
  refine (calls_plaitlaw04_SeqLeast _ _ _ _ _ _ (fun v' w' => v' = .bool true ∧ Chg Nobody w w') ?_).mono (by rintro e w' ⟨v, rfl, rfl, k⟩; exact ⟨rfl, k⟩)
  unfold sh_plaitlaw04_SeqLeast
  refine ⟨by decide, ?_⟩
  obtain ⟨m, hm0, hm1, he⟩ := size_ex n 1 20 (by omega) (by omega) (by omega)
  rw [he]
  refine (c_built (by omega) (by omega) hf).mono ?_
  rintro e w4 ⟨F, L, v, q, rfl, hs, hv⟩
  refine ⟨_, rfl, bif_i (fun h => by cases h) (fun _ => ?_)⟩
  obtain ⟨hz, a, ham, hae⟩ := idx_ex x (show 0 < m by omega) (by omega)
  refine ⟨hz, ?_⟩
  rw [hae]
  obtain ⟨A, q', hp, hA⟩ := hs.a.find ham
  have hs := hs.perm hp
  have hAn : A.length ≤ m := by
    obtain ⟨hnd, hlt, _⟩ := hs.a.nodup
    exact nodup_len (by simp only [List.flatten_cons, List.nodup_append] at hnd; exact hnd.1) (fun y hy => hlt A (by simp) y hy)
  have hA0 : 0 < A.length := List.length_pos_of_mem hA
  refine (c_Least hs.a hA).mono ?_
  rintro e w8 ⟨⟨z1, hz1, rfl⟩, has⟩
  replace hs := hs.step has
  refine ⟨_, _, rfl, ?_⟩
  refine (c_Most hs.a hA).mono ?_
  rintro e w12 ⟨⟨z2, hz2, rfl⟩, has⟩
  replace hs := hs.step has
  refine ⟨_, _, rfl, ?_⟩
  refine (op_List hs hA).mono ?_
  rintro e w16 ⟨xb, xc, rfl, hx, hxL, hs, _⟩
  refine ⟨_, _, _, _, rfl, fun _ w' => w' = w16, ?_, ?_⟩
  · refine err_i (fun e => absurd rfl e) (fun _ => err_i (fun e => absurd rfl e) (fun _ => err_i (fun e => absurd rfl e) (fun _ => bif_i (fun h => ?_) (fun _ => rfl))))
    simp only [bne_iff_ne, ne_eq, bne_eq_false_iff_eq, Bool.not_eq_true, beq_iff_eq, beq_eq_false_iff_ne, decide_eq_true_eq, decide_eq_false_iff_not, Bool.not_eq_true', Bool.not_eq_false'] at h; omega
  rintro _ w19 rfl
  obtain ⟨y0, hy0⟩ : ∃ y, A[0]? = some y := ⟨_, List.getElem?_eq_getElem hA0⟩
  let J : Nat → List Value → World → Prop := fun j vs w' => ∃ (i : Nat) (v : Nat → Int), vs = [.int .i64 i] ∧ i ≤ A.length ∧ LS w w' F L m v (A :: q') ∧ IA w' xb A.length (ints A) ∧
    (∀ y, -4611686018427387904 < v y ∧ v y ≤ 4611686018427387904) ∧ (0 < i → v y0 = 4611686018427387904) ∧ j = A.length - i
  refine ⟨LI J, LM J, ⟨_, 0, v, rfl, by omega, hs, hx, fun y => by have := hv y; omega, fun h => by omega, rfl⟩, ?_⟩
  clear hs hx has hv hp
  intro _ n22 w23 hJ
  obtain ⟨i, v, hvs, hi, hs, hx, hv, hv0, hj⟩ := hJ.at
  simp only [List.cons.injEq, Value.int.injEq, and_true, true_and] at hvs
  subst hvs
  refine bif_i (fun hc => ?_) (fun hc => ?_) <;> simp only [bne_iff_ne, ne_eq, bne_eq_false_iff_eq, Bool.not_eq_true, beq_iff_eq, beq_eq_false_iff_ne, decide_eq_true_eq, decide_eq_false_iff_not, Bool.not_eq_true', Bool.not_eq_false'] at hc
  · have hiA : i < A.length := by omega
    obtain ⟨u, hu⟩ : ∃ u, A[i]? = some u := ⟨_, List.getElem?_eq_getElem hiA⟩
    have huA := List.mem_of_getElem? hu
    have hrd : (ints A)[i]? = some (u : Int) := by rw [List.getElem?_map, hu]; rfl
    refine hx.rd hrd ?_
    refine (c_Set hs.a huA (z := -4611686018427387904) (by omega)).mono ?_
    rintro e w27 ⟨rfl, has⟩
    replace hs := hs.step has
    replace hx := hx.as hxL has
    refine ⟨_, rfl, err_i (fun e => absurd rfl e) (fun _ => ?_)⟩
    refine (c_Least hs.a hA).mono ?_
    rintro e w31 ⟨⟨z, hz, rfl⟩, has⟩
    replace hs := hs.step has
    replace hx := hx.as hxL has
    refine ⟨_, _, rfl, err_i (fun e => absurd rfl e) (fun _ => ?_)⟩
    have hzu : z = u := by
      obtain ⟨pre, post, _, h2, _⟩ := hz
      have h3 := h2 u huA
      rw [upd_same] at h3
      by_cases e : z = u
      · exact e
      · rw [upd_ne _ _ e] at h3
        have := (hv z).1
        omega
    subst hzu
    refine hx.rd hrd ?_
    refine bif_i (fun h => ?_) (fun _ => ?_)
    · simp only [bne_iff_ne, ne_eq, bne_eq_false_iff_eq, Bool.not_eq_true, beq_iff_eq, beq_eq_false_iff_ne, decide_eq_true_eq, decide_eq_false_iff_not, Bool.not_eq_true', Bool.not_eq_false'] at h; exact absurd trivial h
    refine hx.rd hrd ?_
    refine (c_Set hs.a huA (z := 4611686018427387904) (by omega)).mono ?_
    rintro e w38 ⟨rfl, has⟩
    replace hs := hs.step has
    replace hx := hx.as hxL has
    rw [upd_upd] at hs
    have hv' : ∀ y, -4611686018427387904 < upd v z 4611686018427387904 y ∧ upd v z 4611686018427387904 y ≤ 4611686018427387904 := by
      intro y; unfold upd; split
      · omega
      · exact hv y
    have hv0' : upd v z 4611686018427387904 y0 = 4611686018427387904 := by
      unfold upd; split
      · rfl
      · rename_i hne
        refine hv0 ?_
        rcases Nat.eq_zero_or_pos i with h | h
        · subst h; rw [hy0] at hu; injection hu with hu; exact absurd hu hne
        · exact h
    refine ⟨_, rfl, err_i (fun e => absurd rfl e) (fun _ => ?_)⟩
    refine (c_Most hs.a hA).mono ?_
    rintro e w42 ⟨⟨t, ht, rfl⟩, has⟩
    replace hs := hs.step has
    replace hx := hx.as hxL has
    refine ⟨_, _, rfl, err_i (fun e => absurd rfl e) (fun _ => ?_)⟩
    have hty : t = y0 := by
      obtain ⟨pre, post, h1, _, h3⟩ := ht
      cases pre with
      | nil => rw [h1] at hy0; simpa using hy0
      | cons b pre =>
        rw [h1] at hy0
        simp at hy0
        subst hy0
        have := h3 b (by simp)
        have := (hv' t).2
        omega
    subst hty
    refine hx.rd (i := 0) (x := (t : Int)) (by rw [List.getElem?_map, hy0]; rfl) ?_
    refine bif_i (fun h => ?_) (fun _ => ?_)
    · simp only [bne_iff_ne, ne_eq, bne_eq_false_iff_eq, Bool.not_eq_true, beq_iff_eq, beq_eq_false_iff_ne, decide_eq_true_eq, decide_eq_false_iff_not, Bool.not_eq_true', Bool.not_eq_false'] at h; exact absurd trivial h
    rw [wrap64_in (by omega) (by omega)]
    exact LI.again (k := A.length - (i + 1)) ⟨i + 1, _, rfl, by omega, hs, hx, hv', fun _ => hv0', rfl⟩ (by rw [hj]; omega)
  · refine (c_Same_yes hs.a (FstMn.mem hz1) hA).mono ?_
    rintro e w48 ⟨rfl, has⟩
    replace hs := hs.step has
    refine ⟨_, _, rfl, ?_⟩
    refine (c_Same_yes hs.a (FstMx.mem hz2) hA).mono ?_
    rintro e w52 ⟨rfl, has⟩
    replace hs := hs.step has
    refine ⟨_, _, rfl, bif_i (fun _ => bif_i (fun _ => ?_) (fun h => by cases h)) (fun h => by cases h)⟩
    refine (l_sure hg hs.c).mono ?_
    rintro e w23 ⟨rfl, hc⟩
    exact ⟨_, rfl, rfl, hc⟩
end Seq
end Go.Proofs.YtfhdnmeciohmlaaDoor
