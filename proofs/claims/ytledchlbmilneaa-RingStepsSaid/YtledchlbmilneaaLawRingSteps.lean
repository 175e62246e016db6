/-
The law RingSteps: the cycle's neighbours are each other's, and so many steps on a cycle come round to its item.
Conditions: the acts can be read.
-/
import Derived.Test.YtledchlbmilneaaGLawR
namespace Go.Proofs.Ytledchlbmilneaa
open Go Go.RowKit
set_option linter.unusedVariables false
set_option linter.unusedSimpArgs false
namespace Seq
theorem c_RingSteps {w : World} {n x : Int} {sb : Option Addr} {sl sc : Nat} {f : Nat → Nat → Int} (hf : CA w sb sl 3 f) :
    Calls Pg fn_plaitlaw05_RingSteps #[.int .i64 n, .slice sb sl sc, .int .i64 x] w fun e w' => e = .returned (.bool true) ∧ Chg Nobody w w' := by
  refine (calls_plaitlaw05_RingSteps _ _ _ _ _ _ (fun v' w' => v' = .bool true ∧ Chg Nobody w w') ?_).mono (by rintro e w' ⟨v, rfl, rfl, k⟩; exact ⟨rfl, k⟩)
  unfold sh_plaitlaw05_RingSteps
  refine ⟨by decide, ?_⟩
  obtain ⟨m, hm0, hm1, he⟩ := size_ex n 1 20 (by omega) (by omega) (by omega)
  rw [he]
  refine (rg_New (n := m) (by omega) (by omega)).mono ?_
  rintro e w5 ⟨R, F, L, rfl, hc, hR, hF, hL, ha⟩
  have hs : LR w w5 R F L m (fun _ => 0) (ones m) := ⟨hc, hR, hF, hL, ha⟩
  refine ⟨_, _, rfl, fun _ w' => w' = w5, err_i (fun e => absurd rfl e) (fun _ => bif_i (fun h => by cases h) (fun _ => rfl)), ?_⟩
  rintro _ w8 rfl
  refine ⟨fun _ w' => ∃ q, LR w w' R F L m (fun _ => 0) q, ?_, ?_⟩
  · let J : Nat → List Value → World → Prop := fun j vs w' => ∃ (i : Nat) (q : List (List Nat)), vs = [.int .i64 i] ∧ i ≤ 40 ∧ LR w w' R F L m (fun _ => 0) q ∧ j = 40 - i
    refine ⟨LI J, LM J, ⟨_, 0, _, rfl, by omega, hs, rfl⟩, ?_⟩
    clear hs hc ha
    intro _ n12 w13 hJ
    obtain ⟨i, q, hvs, hi, hs, hj⟩ := hJ.at
    simp only [List.cons.injEq, Value.int.injEq, and_true, true_and] at hvs
    subst hvs
    refine ⟨fun _ w' => w' = w13 ∧ i < sl ∧ i < 40, ?_, ?_⟩
    · refine bif_i (fun h1 => bif_i (fun h2 => ?_) (fun _ => ⟨q, hs⟩)) (fun _ => ⟨q, hs⟩)
      simp only [b1s] at h1 h2
      exact ⟨rfl, by omega, by omega⟩
    rintro _ w15 ⟨rfl, hil, hi40⟩
    have hf := (hf.nob hs.c).drew
    have hs := hs.drew
    refine hf.rd (k := 1) hil (by omega) ?_
    obtain ⟨hz1, a, haM, hae⟩ := idx_ex (f i 1) (show 0 < m by omega) (by omega)
    refine ⟨hz1, hf.rd (k := 2) hil (by omega) ?_⟩
    obtain ⟨hz2, b, hbM, hbe⟩ := idx_ex (f i 2) (show 0 < m by omega) (by omega)
    refine ⟨hz2, hf.rd0 hil (by omega) ⟨by decide, ?_⟩⟩
    rw [hae, hbe, wrap64_in (x := (i : Int) + 1) (by omega) (by omega)]
    have again : ∀ w' q', LR w w' R F L m (fun _ => 0) q' → LI J [.int .i64 ((i : Int) + 1)] w' ∧ LM J [.int .i64 ((i : Int) + 1)] w' < LM J [.int .i64 (i : Int)] w15 := fun w' q' h1 =>
      LI.again (k := 40 - (i + 1)) ⟨i + 1, q', rfl, by omega, h1, rfl⟩ (by rw [hj]; omega)
    refine bif_i (fun _ => ?_) (fun _ => ?_)
    · refine (op_rSplit hs haM hbM).mono ?_
      rintro e w' ⟨⟨c, rfl⟩, q', hs'⟩
      exact ⟨_, rfl, again _ _ hs'⟩
    · refine (op_rMerge hs haM hbM).mono ?_
      rintro e w' ⟨⟨c, rfl⟩, q', hs'⟩
      exact ⟨_, rfl, again _ _ hs'⟩
  rintro _ w28 ⟨q, hs⟩
  clear ha hc
  obtain ⟨hz, y, hym, hye⟩ := idx_ex x (show 0 < m by omega) (by omega)
  refine ⟨hz, ?_⟩
  rw [hye]
  obtain ⟨A, q', hp, hA⟩ := hs.a.a.find hym
  replace hs := hs.perm hp
  have hnd : A.Nodup := hs.a.bds.1
  have hl : A.length ≤ m := hs.a.bds.2.2.1
  obtain ⟨i0, hi0, hy0⟩ : ∃ i, i < A.length ∧ A[i]? = some y := by
    obtain ⟨i, hi, e⟩ := List.getElem_of_mem hA
    exact ⟨i, hi, by rw [List.getElem?_eq_getElem hi, e]⟩
  refine (rg_Len hs.a hA).mono ?_
  rintro e w31 ⟨rfl, hrs⟩
  replace hs := hs.step hrs
  refine ⟨_, _, rfl, fun _ w' => w' = w31, err_i (fun e => absurd rfl e) (fun _ => bif_i (fun h => ?_) (fun _ => bif_i (fun h => ?_) (fun _ => rfl))), ?_⟩
  · simp only [b1s] at h; omega
  · simp only [b1s] at h; omega
  rintro _ w34 rfl
  let J2 : Nat → List Value → World → Prop := fun j vs w' => ∃ (i p z : Nat), vs = [.int .i64 z, .int .i64 i] ∧ i ≤ A.length ∧ p < A.length ∧ A[p]? = some z ∧ (p = i0 + i ∨ p + A.length = i0 + i) ∧ LR w w' R F L m (fun _ => 0) (A :: q') ∧ j = A.length - i
  refine ⟨LI J2, LM J2, ⟨_, 0, i0, y, rfl, by omega, hi0, hy0, .inl rfl, hs, rfl⟩, ?_⟩
  clear hs hrs
  intro _ n37 n38 w39 hJ2
  obtain ⟨i, p, z, hvs, hi, hp1, hz1, hpi, hs, hj⟩ := hJ2.at
  simp only [List.cons.injEq, Value.int.injEq, and_true, true_and] at hvs
  obtain ⟨rfl, rfl⟩ := hvs
  have hinj : ∀ u, u < A.length → A[u]? = some y → u = i0 := fun u hu h => (List.getElem?_inj hu hnd).1 (h.trans hy0.symm)
  refine bif_i (fun hik => ?_) (fun hik => ?_) <;> simp only [b1s] at hik
  · refine ⟨fun _ w' => w' = w39, bif_i (fun h0 => bif_i (fun h1 => ?_) (fun _ => rfl)) (fun _ => rfl), ?_⟩
    · simp only [b1s] at h0 h1
      exfalso
      have e : z = y := by omega
      subst e
      have := hinj p hp1 hz1
      omega
    rintro _ w41 rfl
    obtain ⟨p', hp'⟩ : ∃ p', p' = if p + 1 = A.length then 0 else p + 1 := ⟨_, rfl⟩
    have hpl : p' < A.length := by split at hp' <;> omega
    have hpi' : p' = i0 + (i + 1) ∨ p' + A.length = i0 + (i + 1) := by split at hp' <;> omega
    have hz' : A[p']? = some A[p'] := List.getElem?_eq_getElem hpl
    generalize A[p'] = z' at hz'
    refine (rg_Next hs.a hz1 hp' hz').mono ?_
    rintro e w44 ⟨rfl, hrs⟩
    replace hs := hs.step hrs
    refine ⟨_, _, rfl, (rg_Prev hs.a hz' hp' hz1).mono ?_⟩
    rintro e w48 ⟨rfl, hrs⟩
    replace hs := hs.step hrs
    refine ⟨_, _, rfl, err_i (fun e => absurd rfl e) (fun _ => err_i (fun e => absurd rfl e) (fun _ => bif_i (fun h => ?_) (fun _ => ?_)))⟩
    · simp at h
    · rw [wrap64_in (x := (i : Int) + 1) (by omega) (by omega)]
      exact LI.again (k := A.length - (i + 1)) ⟨i + 1, p', z', rfl, by omega, hpl, hz', hpi', hs, rfl⟩ (by rw [hj]; omega)
  · have e : p = i0 := by omega
    subst e
    have e : z = y := Option.some.inj (hz1.symm.trans hy0)
    subst e
    refine bif_i (fun _ => ?_) (fun h => ?_)
    · refine c_sure05.mono ?_
      rintro e w51 ⟨rfl, hc⟩
      exact ⟨_, rfl, rfl, hs.c.trans hc⟩
    · simp at h
end Seq
end Go.Proofs.Ytledchlbmilneaa
