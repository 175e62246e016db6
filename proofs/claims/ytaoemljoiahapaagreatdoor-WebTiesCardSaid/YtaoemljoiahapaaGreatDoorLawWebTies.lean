/-
The law WebTies: a tie between faces that are not linked links them: alone between them it is the weakest one; untied, they are not linked any more.
Conditions: the package variable of errors is laid out; the acts can be read.
-/
import Derived.Test.YtaoemljoiahapaaGreatDoorGToldW
namespace Go.Proofs.YtaoemljoiahapaaGreatDoor
open Go Go.RowKit
set_option linter.unusedVariables false
set_option linter.unusedSimpArgs false
namespace Web
open Go.Proofs.YtaoemljoiahapaaGreatDoor.Seq Go.Proofs.YtaoemljoiahapaaGreatDoor.Cut
theorem c_WebTies {w : World} {n o0 o1 o2 o3 o4 : Int} {sb : Option Addr} {sl sc : Nat} {f : Nat → Nat → Int} (hg : LaidG w) (hf : CA w sb sl 5 f) (hfw : ∀ i, i < sl → -9223372036854775808 ≤ f i 4 ∧ f i 4 ≤ 9223372036854775807) (ho : -9223372036854775808 ≤ o4 ∧ o4 ≤ 9223372036854775807) :
    Calls Pg fn_plaitlaw14_WebTies #[.int .i64 n, .slice sb sl sc, .agg #[.int .i64 o0, .int .i64 o1, .int .i64 o2, .int .i64 o3, .int .i64 o4]] w fun e w' => e = .returned (.bool true) ∧ Chg Nobody w w' := by
  refine (calls_plaitlaw14_WebTies _ _ _ _ _ _ _ _ _ _ (fun v' w' => v' = .bool true ∧ Chg Nobody w w') ?_).mono (by rintro e w' ⟨v, rfl, rfl, k⟩; exact ⟨rfl, k⟩)
  unfold sh_plaitlaw14_WebTies
  obtain ⟨m, hm0, hm1, he⟩ := size_ex n 2 14 (by omega) (by omega) (by omega)
  rw [he]
  refine alo1 fun A w8 hA hc8 rA => ⟨by decide, ?_⟩
  have rA : Row w8.heap A T_plaitlaw14_Act [.int .i64 o0, .int .i64 o1, .int .i64 o2, .int .i64 o3, .int .i64 o4] := rA
  have hg8 := hg.chg hc8 (fun h => h)
  have hAl := rA.lt
  refine (c_grown14 (sc := sc) hg8 (by omega) (by omega) (hf.nob hc8) hfw).mono ?_
  rintro e w14 ⟨W, R, F, L, CF, CL, EB, fb, fl, fc, tb, tl, tc, rfl, hst⟩
  replace rA := hst.c.row (fun h => h) rA
  refine ⟨_, _, _, _, _, _, _, _, _, rfl, ?_⟩
  refine alo1 fun B w17 hB hc17 rB => st4 rB rfl rfl rfl rfl rfl fun w21 hc21 _ => ?_
  have hcB : Chg Nobody w14 w21.drew := (hc17.trans' hc21 (fun i e => .inr (by omega))).drew
  replace hst := hst.nob hcB
  replace rA := hcB.row (fun h => h) rA
  clear hcB hc21 hc17 rB
  refine bif_i (fun h => by cases h) (fun _ => ldI_r rA rfl ?_)
  obtain ⟨hz1, a, haM, hae⟩ := idx_ex o1 (show 0 < m by omega) (by omega)
  refine ⟨hz1, ldI_r rA rfl ?_⟩
  obtain ⟨hz2, b, hbM, hbe⟩ := idx_ex o2 (show 0 < m by omega) (by omega)
  refine ⟨hz2, ?_⟩
  rw [hae, hbe]
  obtain ⟨X, D, key, T, hL, hR⟩ := hst
  generalize w21.drew = w22 at *
  have hAne : ∀ k, (k = L ∨ k = CL ∨ k = EB) → k ≠ A := by
    have h1 := hL.b
    rintro k hk rfl
    omega
  -- a tie that is not tied
  let J : Nat → List Value → World → Prop := fun j vs w' => ∃ (i : Nat) (z : Int), vs = [.int .i64 z, .int .i64 i] ∧ i ≤ 8 ∧ w' = w22 ∧ (z = -1 ∨ ∃ e : Nat, z = e ∧ e < 8 ∧ D e = none) ∧ j = 8 - i
  refine ⟨LI J, LM J, ⟨_, 0, -1, rfl, by omega, rfl, .inl rfl, rfl⟩, ?_⟩
  intro _ z i w28 hJ
  obtain ⟨i, z, hvs, hi, rfl, hz, hj⟩ := hJ.at
  simp only [List.cons.injEq, Value.int.injEq, and_true, true_and] at hvs
  obtain ⟨rfl, rfl⟩ := hvs
  refine bif_i (fun hc => ?_) (fun hc => ?_) <;> simp only [b1s] at hc
  · refine (w_Tied (e := i) hL.a (by omega)).mono ?_
    rintro e w30 ⟨rfl, rfl⟩
    rw [wrap64_in (by omega) (by omega)]
    refine ⟨_, rfl, bif_i (fun h => ?_) (fun h => ?_)⟩
    · have hD : D i = none := by
        cases hd : D i with
        | none => rfl
        | some x => rw [hd] at h; cases h
      exact LI.again (k := 8 - (i + 1)) ⟨i + 1, i, rfl, by omega, rfl, .inr ⟨i, rfl, by omega, hD⟩, rfl⟩ (by rw [hj]; omega)
    · exact LI.again (k := 8 - (i + 1)) ⟨i + 1, z, rfl, by omega, rfl, hz, rfl⟩ (by rw [hj]; omega)
  clear hJ hj hc J
  have hcw : ∀ {w' : World}, LW w8 w' W R F L CF CL EB m 8 X D key → Chg Nobody w w' := fun h => hc8.trans h.c
  refine (w_Linked hL.a haM hbM).mono ?_
  rintro e w34 ⟨is, rfl, his, hws⟩
  replace hL := hL.step hws
  replace rA := hws.c.row (fun h => hAne A h rfl) rA
  clear hws
  refine ⟨_, _, rfl, ?_⟩
  by_cases hz0 : z < 0
  · refine ⟨fun _ _ => False, err_i (fun e => absurd rfl e) (fun _ => bif_i (fun _ => ⟨errV_isI _, bif_i (fun _ => sure_fin hg (hcw hL)) (fun h => absurd h (by decide))⟩) (fun h => ?_)), fun _ _ h => h.elim⟩
    simp only [b1s] at h; omega
  obtain ⟨e0, rfl, he8, hDe⟩ : ∃ e : Nat, z = e ∧ e < 8 ∧ D e = none := by
    rcases hz with h | h
    · omega
    · exact h
  refine ⟨fun _ w' => w' = w34 ∧ o4 ≠ 9223372036854775807, err_i (fun e => absurd rfl e) (fun _ => bif_i (fun h => ?_) (fun _ => ldI_r rA rfl (bif_i (fun h => ⟨errV_isI _, bif_i (fun _ => sure_fin hg (hcw hL)) (fun h => absurd h (by decide))⟩) (fun h => ?_)))), ?_⟩
  · simp only [b1s] at h; omega
  · simp only [b1s] at h; exact ⟨rfl, h⟩
  rintro _ w47 ⟨rfl, ho4⟩
  refine bif_i (fun hi1 => ?_) (fun hi1 => ?_)
  · -- they are linked
    refine ⟨fun vs w' => vs = [.bool true] ∧ Chg Nobody w w', ldI_r rA rfl ?_, ?_⟩
    · refine (w_Tie_same hL.a he8 haM hbM ho4 (.inl (his.1 hi1))).mono ?_
      rintro e w51 ⟨rfl, hws⟩
      replace hL := hL.step hws
      refine ⟨_, rfl, (c_num14 (hL.g hg8)).mono ?_⟩
      rintro e w54 ⟨rfl, hc⟩
      replace hL := hL.nob hc
      refine ⟨_, rfl, bif_i (fun _ => ?_) (fun h => by simp at h)⟩
      refine (w_Tied hL.a he8).mono ?_
      rintro e w57 ⟨rfl, rfl⟩
      rw [hDe]
      refine ⟨_, rfl, bif_i (fun _ => ?_) (fun h => by cases h)⟩
      refine (c_sure14 (hL.g hg8)).mono ?_
      rintro e w60 ⟨rfl, hc⟩
      exact ⟨_, rfl, rfl, (hcw hL).trans hc⟩
    · rintro _ b62 w63 ⟨hvs, hc⟩
      simp only [List.cons.injEq, Value.bool.injEq, and_true] at hvs
      subst hvs
      exact ⟨rfl, hc⟩
  · have hnr : ¬ RT (EW X D m) a b := fun h => by rw [his.2 h] at hi1; cases hi1
    have hD2 : upd (upd D e0 (some (a, b))) e0 none = D := by rw [upd_upd, ← hDe, upd_self]
    refine ⟨fun _ w' => LW w8 w' W R F L CF CL EB m 8 X (upd D e0 (some (a, b))) (upd key e0 o4), ldI_r rA rfl ?_, ?_⟩
    · refine (w_Tie hL.a he8 haM hbM (by omega) hnr hDe).mono ?_
      rintro e w67 ⟨rfl, hws⟩
      replace hL := hL.step hws
      refine ⟨_, rfl, err_i (fun e => absurd rfl e) (fun _ => ?_)⟩
      refine (w_Tied hL.a he8).mono ?_
      rintro e w70 ⟨rfl, rfl⟩
      rw [upd_same]
      exact ⟨_, rfl, bif_i (fun h => by cases h) (fun _ => hL)⟩
    rintro _ w72 hL
    have hab : a ≠ b := fun e => hnr (e ▸ .refl)
    have hw3 : Cut.Way (EW X (upd D e0 (some (a, b))) m) a b [a, m + e0, b] := by
      refine ⟨rfl, rfl, ?_, ⟨fun y hy => ?_, ⟨fun y hy => ?_, ⟨fun y hy => by simp at hy, trivial⟩⟩⟩⟩
      · simp only [List.nodup_cons, List.mem_cons, List.not_mem_nil, or_false, not_or, List.nodup_nil, and_true, not_false_eq_true]
        omega
      · simp at hy; subst hy; exact .inr ⟨e0, a, b, upd_same _ _ _, .inl ⟨rfl, .inl rfl⟩⟩
      · simp at hy; subst hy; exact .inr ⟨e0, a, b, upd_same _ _ _, .inr ⟨rfl, .inr rfl⟩⟩
    refine (w_Weakest hL.a haM hbM hw3).mono ?_
    rintro e w75 ⟨v, z, hv, hk, ⟨pre, post, e1, h1, h2⟩, rfl, hws⟩
    replace hL := hL.step hws
    have hve : v (m + e0) = o4 := by rw [hk e0 a b (upd_same _ _ _), upd_same]
    have hz : z = m + e0 := by
      have h3 := h1 (m + e0) (by simp)
      have hm : z ∈ [a, m + e0, b] := by rw [e1]; simp
      have hva := hv a haM
      have hvb := hv b hbM
      simp at hm
      rcases hm with rfl | rfl | rfl <;> omega
    subst hz
    refine ⟨_, _, rfl, ?_⟩
    refine (w_Linked hL.a hbM haM).mono ?_
    rintro e w79 ⟨ok, rfl, hok, hws⟩
    replace hL := hL.step hws
    obtain rfl := hok.2 ((way_rt hw3).symm fun x y h => h.symm)
    refine ⟨_, _, rfl, fun _ w' => LW w8 w' W R F L CF CL EB m 8 X D (upd key e0 o4), err_i (fun e => absurd rfl e) (fun _ => err_i (fun e => absurd rfl e) (fun _ => bif_i (fun h => ?_) (fun _ => bif_i (fun h => by cases h) (fun _ => ?_)))), ?_⟩
    · simp only [b1s] at h
      rw [if_neg (by omega)] at h
      exact absurd (by omega) h
    · refine (w_Untie hL.a he8 (upd_same _ _ _)).mono ?_
      rintro e w83 ⟨rfl, hws⟩
      replace hL := hL.step hws
      rw [hD2] at hL
      exact ⟨_, rfl, err_i (fun e => absurd rfl e) (fun _ => hL)⟩
    rintro _ w85 hL
    refine (w_Linked hL.a haM hbM).mono ?_
    rintro e w88 ⟨ok, rfl, hok, hws⟩
    replace hL := hL.step hws
    have hokf : ok = false := by
      cases ok with
      | false => rfl
      | true => exact absurd (hok.1 rfl) hnr
    subst hokf
    refine ⟨_, _, rfl, ?_⟩
    refine (w_Weakest_no hL.a haM hbM hnr).mono ?_
    rintro e w92 ⟨rfl, hws⟩
    replace hL := hL.step hws
    refine ⟨_, _, rfl, errV_isI _, bif_i (fun _ => bif_i (fun _ => ?_) (fun h => by cases h)) (fun h => absurd h (by decide))⟩
    refine (c_num14 (hL.g hg8)).mono ?_
    rintro e w95 ⟨rfl, hc⟩
    replace hL := hL.nob hc
    exact ⟨_, rfl, bif_i (fun _ => sure_fin hg (hc8.trans hL.c)) (fun h => by simp at h)⟩
end Web
end Go.Proofs.YtaoemljoiahapaaGreatDoor
