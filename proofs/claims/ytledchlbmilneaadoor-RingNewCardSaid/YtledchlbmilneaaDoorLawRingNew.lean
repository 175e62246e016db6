/-
The law RingNew: of how many items there can be cycles; of an item that is none, and of nil rings, the errors.
Conditions: the package variable of errors is laid out.
-/
import Derived.Test.YtledchlbmilneaaDoorGLawR
namespace Go.Proofs.YtledchlbmilneaaDoor
open Go Go.RowKit
set_option linter.unusedVariables false
set_option linter.unusedSimpArgs false
namespace Seq
section
variable {w₀ w : World}
theorem n_num05 {c : Int} (hg : LaidG w₀) (hc : Chg Nobody w₀ w) : Calls Pg fn_plaitlaw05_num #[errV c] w fun e w' => e = .returned (.int .i64 c) ∧ Chg Nobody w₀ w' :=
  (c_num05 (hg.chg hc (fun h => h))).mono fun e w' ⟨he, k⟩ => ⟨he, hc.trans k⟩
theorem n_sure05 (hc : Chg Nobody w₀ w) : Calls Pg fn_plaitlaw05_sure #[] w fun e w' => e = .returned (.bool true) ∧ Chg Nobody w₀ w' :=
  c_sure05.mono fun e w' ⟨he, k⟩ => ⟨he, hc.trans k⟩
end
theorem ones_find {n x : Nat} (hx : x < n) : ∃ q, (ones n).Perm (([] ++ x :: []) :: q) := by
  have : [x] ∈ ones n := List.mem_map.2 ⟨x, List.mem_range.2 hx, rfl⟩
  exact ⟨_, List.perm_cons_erase this⟩
theorem c_RingNew {w : World} {n x : Int} (hg : LaidG w) (hx : -9223372036854775808 ≤ x ∧ x ≤ 9223372036854775807) :
    Calls Pg fn_plaitlaw05_RingNew #[.int .i64 n, .int .i64 x] w fun e w' => e = .returned (.bool true) ∧ Chg Nobody w w' := by
  refine (calls_plaitlaw05_RingNew _ _ _ (fun v' w' => v' = .bool true ∧ Chg Nobody w w') ?_).mono (by rintro e w' ⟨v, rfl, rfl, k⟩; exact ⟨rfl, k⟩)
  unfold sh_plaitlaw05_RingNew
  refine rg_Walk_nil.mono ?_
  rintro e w4 ⟨rfl, hc⟩
  refine ⟨_, _, _, _, rfl, rg_Next_nil.mono ?_⟩
  rintro e w8 ⟨rfl, hc2⟩
  replace hc := hc.trans hc2
  refine ⟨_, _, rfl, rg_Same_nil.mono ?_⟩
  rintro e w12 ⟨rfl, hc2⟩
  replace hc := hc.trans hc2
  refine ⟨_, _, rfl, rg_Front_nil.mono ?_⟩
  rintro e w16 ⟨rfl, hc2⟩
  replace hc := hc.trans hc2
  refine ⟨_, _, rfl, fun _ w' => Chg Nobody w w', ?_, ?_⟩
  · refine rg_Split_nil.mono ?_
    rintro e w20 ⟨rfl, hc2⟩
    replace hc := hc.trans hc2
    refine ⟨_, rfl, (n_num05 hg hc).mono ?_⟩
    rintro e w23 ⟨rfl, hc⟩
    refine ⟨_, rfl, bif_i (fun h => absurd h (by decide)) (fun _ => rg_Merge_nil.mono ?_)⟩
    rintro e w26 ⟨rfl, hc2⟩
    replace hc := hc.trans hc2
    refine ⟨_, rfl, (n_num05 hg hc).mono ?_⟩
    rintro e w29 ⟨rfl, hc⟩
    refine ⟨_, rfl, bif_i (fun h => absurd h (by decide)) (fun _ => rg_Apart_nil.mono ?_)⟩
    rintro e w32 ⟨rfl, hc2⟩
    replace hc := hc.trans hc2
    refine ⟨_, rfl, (n_num05 hg hc).mono ?_⟩
    rintro e w35 ⟨rfl, hc⟩
    refine ⟨_, rfl, bif_i (fun h => absurd h (by decide)) (fun _ => rg_Turn_nil.mono ?_)⟩
    rintro e w38 ⟨rfl, hc2⟩
    replace hc := hc.trans hc2
    refine ⟨_, rfl, (n_num05 hg hc).mono ?_⟩
    rintro e w41 ⟨rfl, hc⟩
    refine ⟨_, rfl, bif_i (fun h => absurd h (by decide)) (fun _ => (n_num05 hg hc).mono ?_)⟩
    rintro e w44 ⟨rfl, hc⟩
    refine ⟨_, rfl, bif_i (fun h => absurd h (by decide)) (fun _ => (n_num05 hg hc).mono ?_)⟩
    rintro e w47 ⟨rfl, hc⟩
    refine ⟨_, rfl, bif_i (fun h => absurd h (by decide)) (fun _ => (n_num05 hg hc).mono ?_)⟩
    rintro e w50 ⟨rfl, hc⟩
    refine ⟨_, rfl, bif_i (fun h => absurd h (by decide)) (fun _ => (n_num05 hg hc).mono ?_)⟩
    rintro e w53 ⟨rfl, hc⟩
    exact ⟨_, rfl, bif_i (fun h => absurd h (by decide)) (fun _ => hc)⟩
  clear hc
  rintro _ w55 hc
  refine ⟨fun vs w' => ∃ k : Int, vs = [.int .i64 k] ∧ Chg Nobody w w' ∧ (1 ≤ k ∧ k ≤ 8388608 → k ≤ 3000), ?_, ?_⟩
  · refine bif_i (fun h => bif_i (fun h2 => ⟨_, rfl, hc, by omega⟩) (fun h2 => ⟨_, rfl, hc, ?_⟩)) (fun h => ⟨_, rfl, hc, ?_⟩)
    · simp only [bne_iff_ne, ne_eq, bne_eq_false_iff_eq, Bool.not_eq_true, beq_iff_eq, beq_eq_false_iff_ne, decide_eq_true_eq, decide_eq_false_iff_not, Bool.not_eq_true', Bool.not_eq_false'] at h2; omega
    · simp only [bne_iff_ne, ne_eq, bne_eq_false_iff_eq, Bool.not_eq_true, beq_iff_eq, beq_eq_false_iff_ne, decide_eq_true_eq, decide_eq_false_iff_not, Bool.not_eq_true', Bool.not_eq_false'] at h; omega
  clear hc
  rintro _ n57 w58 ⟨k, hk, hc, hk3⟩
  simp only [List.cons.injEq, Value.int.injEq, and_true, true_and] at hk
  subst hk
  by_cases hin : 1 ≤ n57 ∧ n57 ≤ 8388608
  · obtain ⟨m, rfl⟩ : ∃ m : Nat, n57 = m := ⟨n57.toNat, by omega⟩
    have hm := hk3 hin
    refine (rg_New (n := m) (by omega) (by omega)).mono ?_
    rintro e w61 ⟨R, F, L, rfl, hcn, hR, hF, hL, ha⟩
    have hs : LR w58 w61 R F L m (fun _ => 0) (ones m) := ⟨hcn, hR, hF, hL, ha⟩
    refine ⟨_, _, rfl, fun _ w' => w' = w61, ?_, ?_⟩
    · refine bif_i (fun h => ?_) (fun _ => bif_i (fun h => ?_) (fun _ => rfl))
      · simp only [bne_iff_ne, ne_eq, bne_eq_false_iff_eq, Bool.not_eq_true, beq_iff_eq, beq_eq_false_iff_ne, decide_eq_true_eq, decide_eq_false_iff_not, Bool.not_eq_true', Bool.not_eq_false'] at h; omega
      · simp only [bne_iff_ne, ne_eq, bne_eq_false_iff_eq, Bool.not_eq_true, beq_iff_eq, beq_eq_false_iff_ne, decide_eq_true_eq, decide_eq_false_iff_not, Bool.not_eq_true', Bool.not_eq_false'] at h; omega
    rintro _ w76 rfl
    refine ⟨fun _ w' => w' = w76, err_i (fun e => absurd rfl e) (fun _ => bif_i (fun h => by cases h) (fun _ => rfl)), ?_⟩
    rintro _ w78 rfl
    by_cases hxi : 0 ≤ x ∧ x < m
    · obtain ⟨u, rfl⟩ : ∃ u : Nat, x = u := ⟨x.toNat, by omega⟩
      obtain ⟨q, hp⟩ := ones_find (n := m) (x := u) (by omega)
      replace hs := hs.perm hp
      refine (op_Walk hs).mono ?_
      rintro e w81 ⟨ob, oc, rfl, hia, _, _, hs, _⟩
      refine ⟨_, _, _, _, rfl, fun vs w' => vs = [.bool false] ∧ w' = w81, ?_, ?_⟩
      · refine bif_i (fun h => ?_) (fun _ => ⟨?_, rfl⟩)
        · simp only [bne_iff_ne, ne_eq, bne_eq_false_iff_eq, Bool.not_eq_true, beq_iff_eq, beq_eq_false_iff_ne, decide_eq_true_eq, decide_eq_false_iff_not, Bool.not_eq_true', Bool.not_eq_false'] at h; omega
        · simp; omega
      rintro _ b84 w85 ⟨ht, rfl⟩
      simp only [List.cons.injEq, Value.bool.injEq, and_true] at ht
      subst ht
      refine bif_i (fun h => by cases h) (fun _ => ⟨errV_isI _, bif_i (fun _ => ?_) (fun h => absurd h (by decide))⟩)
      refine alo_r fun hrow => ?_
      have hca : Chg Nobody w85 (w85.alloc (.cells #[.int .i64 u] T_int)) := (Chg.refl _ _).alloc _
      refine (c_ints05 (hia.nob hca) (IA.of_row (A := [(u : Int)]) hrow) (by simp)).mono ?_
      rintro e w121 ⟨rfl, hc2⟩
      refine ⟨_, rfl, bif_i (fun _ => ?_) (fun h => by simp [ints] at h)⟩
      refine (n_sure05 (((hc.trans hs.c).trans hca).trans hc2)).mono ?_
      rintro e w124 ⟨rfl, hc⟩
      exact ⟨_, rfl, rfl, hc⟩
    · refine (rg_Walk_bad hs.a hxi).mono ?_
      rintro e w81 ⟨rfl, hrs⟩
      replace hs := hs.step hrs
      refine ⟨_, _, _, _, rfl, fun vs w' => vs = [.bool true] ∧ w' = w81, ?_, ?_⟩
      · refine bif_i (fun h => ⟨rfl, rfl⟩) (fun h => ⟨?_, rfl⟩)
        simp only [bne_iff_ne, ne_eq, bne_eq_false_iff_eq, Bool.not_eq_true, beq_iff_eq, beq_eq_false_iff_ne, decide_eq_true_eq, decide_eq_false_iff_not, Bool.not_eq_true', Bool.not_eq_false'] at h
        simp; omega
      rintro _ b84 w85 ⟨ht, rfl⟩
      simp only [List.cons.injEq, Value.bool.injEq, and_true] at ht
      subst ht
      refine bif_i (fun _ => ?_) (fun h => by cases h)
      refine (rg_Len_bad hs.a hxi).mono ?_
      rintro e w88 ⟨rfl, hrs⟩
      replace hs := hs.step hrs
      refine ⟨_, _, rfl, (rg_Prev_bad hs.a hxi).mono ?_⟩
      rintro e w92 ⟨rfl, hrs⟩
      replace hs := hs.step hrs
      have num : ∀ {w' : World} {c : Int}, LR w58 w' R F L m (fun _ => 0) (ones m) → Calls Pg fn_plaitlaw05_num #[errV c] w' fun e w'' => e = .returned (.int .i64 c) ∧ LR w58 w'' R F L m (fun _ => 0) (ones m) := fun h =>
        (c_num05 (h.g (hg.chg hc (fun h => h)))).mono fun e w'' ⟨he, k⟩ => ⟨he, h.nob k⟩
      refine ⟨_, _, rfl, (num hs).mono ?_⟩
      rintro e w95 ⟨rfl, hs⟩
      refine ⟨_, rfl, bif_i (fun _ => (num hs).mono ?_) (fun h => absurd h (by decide))⟩
      rintro e w98 ⟨rfl, hs⟩
      refine ⟨_, rfl, bif_i (fun _ => (num hs).mono ?_) (fun h => absurd h (by decide))⟩
      rintro e w101 ⟨rfl, hs⟩
      refine ⟨_, rfl, bif_i (fun _ => (rg_Apart_bad hs.a hxi).mono ?_) (fun h => absurd h (by decide))⟩
      rintro e w104 ⟨rfl, hrs⟩
      replace hs := hs.step hrs
      refine ⟨_, rfl, (num hs).mono ?_⟩
      rintro e w107 ⟨rfl, hs⟩
      refine ⟨_, rfl, bif_i (fun _ => (rg_Turn_bad hs.a hxi).mono ?_) (fun h => absurd h (by decide))⟩
      rintro e w110 ⟨rfl, hrs⟩
      replace hs := hs.step hrs
      refine ⟨_, rfl, (num hs).mono ?_⟩
      rintro e w113 ⟨rfl, hs⟩
      refine ⟨_, rfl, bif_i (fun _ => ?_) (fun h => absurd h (by decide))⟩
      refine (n_sure05 (hc.trans hs.c)).mono ?_
      rintro e w116 ⟨rfl, hc⟩
      exact ⟨_, rfl, rfl, hc⟩
  · refine (rg_New_bad hin).mono ?_
    rintro e w61 ⟨rfl, hcn⟩
    replace hc := hc.trans hcn
    refine ⟨_, _, rfl, fun _ _ => False, ?_, fun _ w76 h => h.elim⟩
    have tail : Calls Pg fn_plaitlaw05_num #[errV 1] w61 fun e66 w65 => ∃ n104_64 : Int, e66 = .returned (.int .i64 n104_64) ∧
        bif (n104_64 == (1 : Int)) then (bif (Option.isNone (none : Option Addr)) then (Calls Pg fn_plaitlaw05_sure #[] w65 fun e69 w68 => ∃ b111_67 : Bool, e69 = .returned (.bool b111_67) ∧ (Value.bool b111_67 = .bool true ∧ Chg Nobody w w68)) else (Value.bool false = .bool true ∧ Chg Nobody w w65)) else (Value.bool false = .bool true ∧ Chg Nobody w w65) := by
      refine (n_num05 hg hc).mono ?_
      rintro e w65 ⟨rfl, hc⟩
      refine ⟨_, rfl, bif_i (fun _ => bif_i (fun _ => ?_) (fun h => by cases h)) (fun h => absurd h (by decide))⟩
      refine (n_sure05 hc).mono ?_
      rintro e w68 ⟨rfl, hc⟩
      exact ⟨_, rfl, rfl, hc⟩
    refine bif_i (fun _ => tail) (fun h => bif_i (fun _ => tail) (fun h2 => ?_))
    simp only [bne_iff_ne, ne_eq, bne_eq_false_iff_eq, Bool.not_eq_true, beq_iff_eq, beq_eq_false_iff_ne, decide_eq_true_eq, decide_eq_false_iff_not, Bool.not_eq_true', Bool.not_eq_false'] at h h2
    omega
end Seq
end Go.Proofs.YtledchlbmilneaaDoor
