/-
The reference of layer 4: a list's sum, its least and its most.
Conditions: those that each theorem states.
-/
import Derived.Test.YtledchlbmilneaaDoorLawRef5
namespace Go.Proofs.YtledchlbmilneaaDoor
open Go Go.RowKit
set_option linter.unusedVariables false
set_option linter.unusedSimpArgs false
namespace Seq
/-- The values in a row. -/
abbrev vals (m : Nat) (v : Nat → Int) : List Int := (List.range m).map v
theorem vals_get {m u : Nat} {v : Nat → Int} (h : u < m) : (vals m v)[u]? = some (v u) := by
  unfold vals; rw [List.getElem?_map, List.getElem?_range h]; rfl
theorem c_rSum {w : World} {eb vb : Option Addr} {ec vc m : Nat} {A : List Nat} {v : Nat → Int} (h : IA w eb A.length (ints A)) (hv : IA w vb m (vals m v)) (hA : ∀ a ∈ A, a < m) (hl : A.length ≤ 1000000000) :
    Calls Pg fn_plaitref04_Sum #[.slice eb A.length ec, .slice vb m vc] w fun e w' => e = .returned (.int .i64 (w64 (vsum v A))) ∧ Chg Nobody w w' := by
  refine (calls_plaitref04_Sum _ _ _ _ _ _ _ (fun v' w' => v' = .int .i64 (w64 (vsum v A)) ∧ Chg Nobody w w') ?_).mono (by rintro e w' ⟨v, rfl, rfl, k⟩; exact ⟨rfl, k⟩)
  unfold sh_plaitref04_Sum
  let J : Nat → List Value → World → Prop := fun j vs w' => ∃ i : Nat, vs = [.int .i64 (w64 (vsum v (A.take i))), .int .i64 i] ∧ i ≤ A.length ∧ Chg Nobody w w' ∧ j = A.length - i
  refine ⟨LI J, LM J, ⟨_, 0, rfl, by omega, Chg.refl _ _, rfl⟩, ?_⟩
  intro _ n4 n5 w6 hJ
  obtain ⟨i, hvs, hi, hch, hj⟩ := hJ.at
  simp only [List.cons.injEq, Value.int.injEq, and_true, true_and] at hvs
  obtain ⟨rfl, rfl⟩ := hvs
  refine bif_i (fun hc => ?_) (fun hc => ?_) <;> simp only [bne_iff_ne, ne_eq, bne_eq_false_iff_eq, Bool.not_eq_true, beq_iff_eq, beq_eq_false_iff_ne, decide_eq_true_eq, decide_eq_false_iff_not, Bool.not_eq_true', Bool.not_eq_false'] at hc
  · have hiA : i < A.length := by omega
    obtain ⟨u, hu⟩ : ∃ u, A[i]? = some u := ⟨_, List.getElem?_eq_getElem hiA⟩
    refine (h.nob hch).rd (x := (u : Int)) (by rw [List.getElem?_map, hu]; rfl) ?_
    refine (hv.nob hch).rd (vals_get (hA u (List.mem_of_getElem? hu))) ?_
    have e1 : IntKind.wrap .i64 (w64 (vsum v (A.take i)) + v u) = w64 (vsum v (A.take (i + 1))) := by
      rw [List.take_add_one, hu, vsum_append]
      show IntKind.i64.wrap (IntKind.i64.wrap _ + _) = IntKind.i64.wrap _
      have e2 : vsum v (some u).toList = v u := by simp [vsum]
      rw [e2]
      simp only [IntKind.wrap_i64]
      omega
    rw [wrap64_in (x := (i : Int) + 1) (by omega) (by omega), e1]
    exact LI.again (k := A.length - (i + 1)) ⟨i + 1, rfl, by omega, hch, rfl⟩ (by rw [hj]; omega)
  · have : i = A.length := by omega
    subst this
    rw [List.take_length]
    exact ⟨rfl, hch⟩
theorem FstMn.snoc {v : Nat → Int} {l : List Nat} {z u : Nat} (h : FstMn v l z) : FstMn v (l ++ [u]) (if v u < v z then u else z) := by
  obtain ⟨pre, post, h1, h2, h3⟩ := h
  split
  · rename_i hlt
    refine ⟨l, [], by simp, fun y hy => ?_, fun y hy => ?_⟩
    · rcases List.mem_append.1 hy with hy | hy
      · have := h2 y hy; omega
      · simp at hy; subst hy; omega
    · have := h2 y hy; omega
  · rename_i hlt
    refine ⟨pre, post ++ [u], by rw [h1]; simp, fun y hy => ?_, h3⟩
    rcases List.mem_append.1 hy with hy | hy
    · exact h2 y hy
    · simp at hy; subst hy; omega
theorem c_rLeast {w : World} {eb vb : Option Addr} {ec vc m : Nat} {A : List Nat} {v : Nat → Int} (h : IA w eb A.length (ints A)) (hv : IA w vb m (vals m v)) (hA : ∀ a ∈ A, a < m) (hl : A.length ≤ 1000000000) (h0 : 0 < A.length) :
    Calls Pg fn_plaitref04_Least #[.slice eb A.length ec, .slice vb m vc] w fun e w' => (∃ z : Nat, FstMn v A z ∧ e = .returned (.int .i64 z)) ∧ Chg Nobody w w' := by
  refine (calls_plaitref04_Least _ _ _ _ _ _ _ (fun v' w' => (∃ z : Nat, FstMn v A z ∧ v' = .int .i64 z) ∧ Chg Nobody w w') ?_).mono (by rintro e w' ⟨v, rfl, ⟨z, h1, rfl⟩, k⟩; exact ⟨⟨z, h1, rfl⟩, k⟩)
  unfold sh_plaitref04_Least
  obtain ⟨y0, hy0⟩ : ∃ u, A[0]? = some u := ⟨_, List.getElem?_eq_getElem h0⟩
  have hone : A.take 1 = [y0] := by
    cases A with
    | nil => simp at hy0
    | cons a A => simp at hy0; subst hy0; simp
  refine h.rd (i := 0) (x := (y0 : Int)) (by rw [List.getElem?_map, hy0]; rfl) ?_
  let J : Nat → List Value → World → Prop := fun j vs w' => ∃ i z : Nat, vs = [.int .i64 z, .int .i64 i] ∧ i ≤ A.length ∧ FstMn v (A.take (max i 1)) z ∧ Chg Nobody w w' ∧ j = A.length - i
  refine ⟨LI J, LM J, ⟨_, 0, y0, rfl, by omega, by rw [show max 0 1 = 1 from rfl, hone]; exact ⟨[], [], rfl, fun y hy => by simp at hy; subst hy; exact Int.le_refl _, by simp⟩, Chg.refl _ _, rfl⟩, ?_⟩
  intro _ n6 n7 w8 hJ
  obtain ⟨i, z, hvs, hi, hz, hch, hj⟩ := hJ.at
  simp only [List.cons.injEq, Value.int.injEq, and_true, true_and] at hvs
  obtain ⟨rfl, rfl⟩ := hvs
  refine bif_i (fun hc => ?_) (fun hc => ?_) <;> simp only [bne_iff_ne, ne_eq, bne_eq_false_iff_eq, Bool.not_eq_true, beq_iff_eq, beq_eq_false_iff_ne, decide_eq_true_eq, decide_eq_false_iff_not, Bool.not_eq_true', Bool.not_eq_false'] at hc
  · have hiA : i < A.length := by omega
    obtain ⟨u, hu⟩ : ∃ u, A[i]? = some u := ⟨_, List.getElem?_eq_getElem hiA⟩
    have hru : (ints A)[i]? = some (u : Int) := by rw [List.getElem?_map, hu]; rfl
    have hzA : z ∈ A := List.mem_of_mem_take hz.mem
    have h8 := (h.nob hch).drew
    have hv8 := (hv.nob hch).drew
    refine h8.rd hru ?_
    refine hv8.rd (vals_get (hA u (List.mem_of_getElem? hu))) ?_
    refine hv8.rd (vals_get (hA z hzA)) ?_
    rw [wrap64_in (x := (i : Int) + 1) (by omega) (by omega)]
    have hnext : FstMn v (A.take (max (i + 1) 1)) (if v u < v z then u else z) := by
      have e1 : max (i + 1) 1 = i + 1 := by omega
      rw [e1]
      by_cases hi0 : i = 0
      · subst hi0
        rw [hy0] at hu; injection hu with hu; subst hu
        rw [show max 0 1 = 1 from rfl, hone] at hz
        have : z = y0 := by simpa using hz.mem
        subst this
        rw [if_neg (by omega), Nat.zero_add, hone]; exact hz
      · have e2 : max i 1 = i := by omega
        rw [e2] at hz
        rw [List.take_add_one, hu]
        exact hz.snoc
    refine bif_i (fun h1 => ?_) (fun h1 => ?_) <;> simp only [bne_iff_ne, ne_eq, bne_eq_false_iff_eq, Bool.not_eq_true, beq_iff_eq, beq_eq_false_iff_ne, decide_eq_true_eq, decide_eq_false_iff_not, Bool.not_eq_true', Bool.not_eq_false'] at h1
    · refine h8.rd hru ?_
      rw [if_pos (by omega)] at hnext
      exact LI.again (k := A.length - (i + 1)) ⟨i + 1, u, rfl, by omega, hnext, hch.drew, rfl⟩ (by rw [hj]; omega)
    · rw [if_neg (by omega)] at hnext
      exact LI.again (k := A.length - (i + 1)) ⟨i + 1, z, rfl, by omega, hnext, hch.drew, rfl⟩ (by rw [hj]; omega)
  · have : i = A.length := by omega
    subst this
    rw [show max A.length 1 = A.length by omega, List.take_length] at hz
    exact ⟨⟨z, hz, rfl⟩, hch⟩
theorem FstMn.uniq {v : Nat → Int} {l : List Nat} {z u : Nat} (h : FstMn v l z) (k : FstMn v l u) : z = u := by
  obtain ⟨p1, q1, h1, h2, h3⟩ := h
  obtain ⟨p2, q2, k1, k2, k3⟩ := k
  have a := h2 u (by rw [k1]; simp)
  have b := k2 z (by rw [h1]; simp)
  rw [h1] at k1
  rcases app_mid k1 with ⟨p, e⟩ | ⟨_, e, _⟩ | ⟨p, e, _⟩
  · have := h3 u (by rw [e]; simp); omega
  · exact e.symm
  · have := k3 z (by rw [e]; simp); omega
theorem FstMx.snoc {v : Nat → Int} {l : List Nat} {z u : Nat} (h : FstMx v l z) : FstMx v (l ++ [u]) (if v z < v u then u else z) := by
  obtain ⟨pre, post, h1, h2, h3⟩ := h
  split
  · rename_i hlt
    refine ⟨l, [], by simp, fun y hy => ?_, fun y hy => ?_⟩
    · rcases List.mem_append.1 hy with hy | hy
      · have := h2 y hy; omega
      · simp at hy; subst hy; omega
    · have := h2 y hy; omega
  · rename_i hlt
    refine ⟨pre, post ++ [u], by rw [h1]; simp, fun y hy => ?_, h3⟩
    rcases List.mem_append.1 hy with hy | hy
    · exact h2 y hy
    · simp at hy; subst hy; omega
theorem c_rMost {w : World} {eb vb : Option Addr} {ec vc m : Nat} {A : List Nat} {v : Nat → Int} (h : IA w eb A.length (ints A)) (hv : IA w vb m (vals m v)) (hA : ∀ a ∈ A, a < m) (hl : A.length ≤ 1000000000) (h0 : 0 < A.length) :
    Calls Pg fn_plaitref04_Most #[.slice eb A.length ec, .slice vb m vc] w fun e w' => (∃ z : Nat, FstMx v A z ∧ e = .returned (.int .i64 z)) ∧ Chg Nobody w w' := by
  refine (calls_plaitref04_Most _ _ _ _ _ _ _ (fun v' w' => (∃ z : Nat, FstMx v A z ∧ v' = .int .i64 z) ∧ Chg Nobody w w') ?_).mono (by rintro e w' ⟨v, rfl, ⟨z, h1, rfl⟩, k⟩; exact ⟨⟨z, h1, rfl⟩, k⟩)
  unfold sh_plaitref04_Most
  obtain ⟨y0, hy0⟩ : ∃ u, A[0]? = some u := ⟨_, List.getElem?_eq_getElem h0⟩
  have hone : A.take 1 = [y0] := by
    cases A with
    | nil => simp at hy0
    | cons a A => simp at hy0; subst hy0; simp
  refine h.rd (i := 0) (x := (y0 : Int)) (by rw [List.getElem?_map, hy0]; rfl) ?_
  let J : Nat → List Value → World → Prop := fun j vs w' => ∃ i z : Nat, vs = [.int .i64 z, .int .i64 i] ∧ i ≤ A.length ∧ FstMx v (A.take (max i 1)) z ∧ Chg Nobody w w' ∧ j = A.length - i
  refine ⟨LI J, LM J, ⟨_, 0, y0, rfl, by omega, by rw [show max 0 1 = 1 from rfl, hone]; exact ⟨[], [], rfl, fun y hy => by simp at hy; subst hy; exact Int.le_refl _, by simp⟩, Chg.refl _ _, rfl⟩, ?_⟩
  intro _ n6 n7 w8 hJ
  obtain ⟨i, z, hvs, hi, hz, hch, hj⟩ := hJ.at
  simp only [List.cons.injEq, Value.int.injEq, and_true, true_and] at hvs
  obtain ⟨rfl, rfl⟩ := hvs
  refine bif_i (fun hc => ?_) (fun hc => ?_) <;> simp only [bne_iff_ne, ne_eq, bne_eq_false_iff_eq, Bool.not_eq_true, beq_iff_eq, beq_eq_false_iff_ne, decide_eq_true_eq, decide_eq_false_iff_not, Bool.not_eq_true', Bool.not_eq_false'] at hc
  · have hiA : i < A.length := by omega
    obtain ⟨u, hu⟩ : ∃ u, A[i]? = some u := ⟨_, List.getElem?_eq_getElem hiA⟩
    have hru : (ints A)[i]? = some (u : Int) := by rw [List.getElem?_map, hu]; rfl
    have hzA : z ∈ A := List.mem_of_mem_take hz.mem
    have h8 := (h.nob hch).drew
    have hv8 := (hv.nob hch).drew
    refine h8.rd hru ?_
    refine hv8.rd (vals_get (hA u (List.mem_of_getElem? hu))) ?_
    refine hv8.rd (vals_get (hA z hzA)) ?_
    rw [wrap64_in (x := (i : Int) + 1) (by omega) (by omega)]
    have hnext : FstMx v (A.take (max (i + 1) 1)) (if v z < v u then u else z) := by
      have e1 : max (i + 1) 1 = i + 1 := by omega
      rw [e1]
      by_cases hi0 : i = 0
      · subst hi0
        rw [hy0] at hu; injection hu with hu; subst hu
        rw [show max 0 1 = 1 from rfl, hone] at hz
        have : z = y0 := by simpa using hz.mem
        subst this
        rw [if_neg (by omega), Nat.zero_add, hone]; exact hz
      · have e2 : max i 1 = i := by omega
        rw [e2] at hz
        rw [List.take_add_one, hu]
        exact hz.snoc
    refine bif_i (fun h1 => ?_) (fun h1 => ?_) <;> simp only [bne_iff_ne, ne_eq, bne_eq_false_iff_eq, Bool.not_eq_true, beq_iff_eq, beq_eq_false_iff_ne, decide_eq_true_eq, decide_eq_false_iff_not, Bool.not_eq_true', Bool.not_eq_false'] at h1
    · refine h8.rd hru ?_
      rw [if_pos (by omega)] at hnext
      exact LI.again (k := A.length - (i + 1)) ⟨i + 1, u, rfl, by omega, hnext, hch.drew, rfl⟩ (by rw [hj]; omega)
    · rw [if_neg (by omega)] at hnext
      exact LI.again (k := A.length - (i + 1)) ⟨i + 1, z, rfl, by omega, hnext, hch.drew, rfl⟩ (by rw [hj]; omega)
  · have : i = A.length := by omega
    subst this
    rw [show max A.length 1 = A.length by omega, List.take_length] at hz
    exact ⟨⟨z, hz, rfl⟩, hch⟩
theorem FstMx.uniq {v : Nat → Int} {l : List Nat} {z u : Nat} (h : FstMx v l z) (k : FstMx v l u) : z = u := by
  obtain ⟨p1, q1, h1, h2, h3⟩ := h
  obtain ⟨p2, q2, k1, k2, k3⟩ := k
  have a := h2 u (by rw [k1]; simp)
  have b := k2 z (by rw [h1]; simp)
  rw [h1] at k1
  rcases app_mid k1 with ⟨p, e⟩ | ⟨_, e, _⟩ | ⟨p, e, _⟩
  · have := h3 u (by rw [e]; simp); omega
  · exact e.symm
  · have := k3 z (by rw [e]; simp); omega
end Seq
end Go.Proofs.YtledchlbmilneaaDoor
