/-
The law CutNew: of how many nodes there can be trees; of a node that is none, and of a nil forest, the errors.
Conditions: the package variable of errors is laid out; the two are numbers of 64 bits.
-/
import Derived.Test.YtledchlbmilneaaDoorLawCA
namespace Go.Proofs.YtledchlbmilneaaDoor
open Go Go.RowKit
set_option linter.unusedVariables false
set_option linter.unusedSimpArgs false
namespace Cut
open Go.Proofs.YtledchlbmilneaaDoor.Seq
section
variable {w₀ w : World} {c : Int}
theorem n_num06 (hg : LaidG w₀) (hc : Chg Nobody w₀ w) : Calls Pg fn_plaitlaw06_num #[errV c] w fun e w' => e = .returned (.int .i64 c) ∧ Chg Nobody w₀ w' :=
  (c_num06 (hg.chg hc (fun h => h))).mono fun e w' ⟨he, k⟩ => ⟨he, hc.trans k⟩
theorem n_sure06 (hg : LaidG w₀) (hc : Chg Nobody w₀ w) : Calls Pg fn_plaitlaw06_sure #[] w fun e w' => e = .returned (.bool true) ∧ Chg Nobody w₀ w' :=
  (c_sure06 (hg.chg hc (fun h => h))).mono fun e w' ⟨he, k⟩ => ⟨he, hc.trans k⟩
end
theorem c_CutNew {w : World} {n x : Int} (hg : LaidG w) (hx : -9223372036854775808 ≤ x ∧ x ≤ 9223372036854775807) :
    Calls Pg fn_plaitlaw06_CutNew #[.int .i64 n, .int .i64 x] w fun e w' => e = .returned (.bool true) ∧ Chg Nobody w w' := by
  refine (calls_plaitlaw06_CutNew _ _ _ (fun v' w' => v' = .bool true ∧ Chg Nobody w w') ?_).mono (by rintro e w' ⟨v, rfl, rfl, k⟩; exact ⟨rfl, k⟩)
  unfold sh_plaitlaw06_CutNew
  refine c_Same_nil.mono ?_
  rintro e w4 ⟨rfl, hc⟩
  refine ⟨_, _, rfl, c_Len_nil.mono ?_⟩
  rintro e w8 ⟨rfl, hc2⟩
  replace hc := hc.trans hc2
  refine ⟨_, _, rfl, c_Road_nil.mono ?_⟩
  rintro e w12 ⟨rfl, hc2⟩
  replace hc := hc.trans hc2
  refine ⟨_, _, _, _, rfl, c_Least_nil.mono ?_⟩
  rintro e w16 ⟨rfl, hc2⟩
  replace hc := hc.trans hc2
  refine ⟨_, _, rfl, fun _ w' => Chg Nobody w w', ?_, ?_⟩
  · refine c_Link_nil.mono ?_
    rintro e w20 ⟨rfl, hc2⟩
    replace hc := hc.trans hc2
    refine ⟨_, rfl, (n_num06 hg hc).mono ?_⟩
    rintro e w23 ⟨rfl, hc⟩
    refine ⟨_, rfl, bif_i (fun h => absurd h (by decide)) (fun _ => c_Cut_nil.mono ?_)⟩
    rintro e w26 ⟨rfl, hc2⟩
    replace hc := hc.trans hc2
    refine ⟨_, rfl, (n_num06 hg hc).mono ?_⟩
    rintro e w29 ⟨rfl, hc⟩
    refine ⟨_, rfl, bif_i (fun h => absurd h (by decide)) (fun _ => c_Set_nil.mono ?_)⟩
    rintro e w32 ⟨rfl, hc2⟩
    replace hc := hc.trans hc2
    refine ⟨_, rfl, (n_num06 hg hc).mono ?_⟩
    rintro e w35 ⟨rfl, hc⟩
    refine ⟨_, rfl, bif_i (fun h => absurd h (by decide)) (fun _ => (n_num06 hg hc).mono ?_)⟩
    rintro e w38 ⟨rfl, hc⟩
    refine ⟨_, rfl, bif_i (fun h => absurd h (by decide)) (fun _ => (n_num06 hg hc).mono ?_)⟩
    rintro e w41 ⟨rfl, hc⟩
    refine ⟨_, rfl, bif_i (fun h => absurd h (by decide)) (fun _ => (n_num06 hg hc).mono ?_)⟩
    rintro e w44 ⟨rfl, hc⟩
    refine ⟨_, rfl, bif_i (fun h => absurd h (by decide)) (fun _ => (n_num06 hg hc).mono ?_)⟩
    rintro e w47 ⟨rfl, hc⟩
    exact ⟨_, rfl, bif_i (fun h => absurd h (by decide)) (fun _ => hc)⟩
  clear hc
  rintro _ w49 hc
  refine ⟨fun vs w' => ∃ k : Int, vs = [.int .i64 k] ∧ Chg Nobody w w' ∧ (1 ≤ k ∧ k ≤ 8388608 → k ≤ 3000), ?_, ?_⟩
  · refine bif_i (fun h => bif_i (fun h2 => ⟨_, rfl, hc, by omega⟩) (fun h2 => ⟨_, rfl, hc, ?_⟩)) (fun h => ⟨_, rfl, hc, ?_⟩)
    · simp only [b1s] at h2; omega
    · simp only [b1s] at h; omega
  clear hc
  rintro _ n51 w52 ⟨k, hk, hc, hk3⟩
  simp only [List.cons.injEq, Value.int.injEq, and_true, true_and] at hk
  subst hk
  by_cases hin : 1 ≤ n51 ∧ n51 ≤ 8388608
  · obtain ⟨m, rfl⟩ : ∃ m : Nat, n51 = m := ⟨n51.toNat, by omega⟩
    have hm := hk3 hin
    refine (c_New (n := m) (by omega) (by omega)).mono ?_
    rintro e w55 ⟨F, L, rfl, hcn, hF, hL, ha⟩
    have hs : LC w52 w55 F L m (fun _ => 0) (fun _ _ => False) := ⟨hcn, hF, hL, ha⟩
    refine ⟨_, _, rfl, fun _ w' => w' = w55, ?_, ?_⟩
    · refine bif_i (fun h => ?_) (fun _ => bif_i (fun h => ?_) (fun _ => rfl))
      · simp only [b1s] at h; omega
      · simp only [b1s] at h; omega
    rintro _ w70 rfl
    refine ⟨fun _ w' => w' = w70, err_i (fun e => absurd rfl e) (fun _ => bif_i (fun h => by cases h) (fun _ => rfl)), ?_⟩
    rintro _ w72 rfl
    have h0m : 0 < m := by omega
    have num : ∀ {w' : World} {c : Int}, LC w52 w' F L m (fun _ => 0) (fun _ _ => False) → Calls Pg fn_plaitlaw06_num #[errV c] w' fun e w'' => e = .returned (.int .i64 c) ∧ LC w52 w'' F L m (fun _ => 0) (fun _ _ => False) := fun h =>
      (c_num06 (h.g (hg.chg hc (fun h => h)))).mono fun e w'' ⟨he, k⟩ => ⟨he, h.nob k⟩
    by_cases hxi : 0 ≤ x ∧ x < m
    · obtain ⟨u, rfl⟩ : ∃ u : Nat, x = u := ⟨x.toNat, by omega⟩
      by_cases hu : u = 0
      · subst hu
        refine (op_Road (a := 0) (b := 0) hs (by omega) (by omega) (way_refl 0)).mono ?_
        rintro e w75 ⟨ob, oc, rfl, hia, _, _, hs, _⟩
        refine ⟨_, _, _, _, rfl, fun _ w' => w' = w75, ?_, ?_⟩
        · refine ⟨fun vs w' => vs = [.bool false] ∧ w' = w75, ?_, ?_⟩
          · refine bif_i (fun h => ?_) (fun _ => ⟨?_, rfl⟩)
            · simp only [b1s] at h; omega
            · simp; omega
          · rintro _ b79 w80 ⟨ht, rfl⟩
            simp only [List.cons.injEq, Value.bool.injEq, and_true] at ht
            subst ht
            exact bif_i (fun h => by cases h) (fun _ => rfl)
        rintro _ w107 rfl
        refine bif_i (fun _ => ⟨errV_isI _, bif_i (fun _ => ?_) (fun h => absurd h (by decide))⟩) (fun h => by simp at h)
        refine alo_r fun hrow => ?_
        have hca : Chg Nobody w107 (w107.alloc (.cells #[.int .i64 0] T_int)) := (Chg.refl _ _).alloc _
        refine (c_ints06 (hia.nob hca) (IA.of_row (A := [(0 : Int)]) hrow) (by simp)).mono ?_
        rintro e w111 ⟨rfl, hc2⟩
        refine ⟨_, rfl, bif_i (fun _ => ?_) (fun h => by simp [ints] at h)⟩
        refine (n_sure06 hg (((hc.trans hs.c).trans hca).trans hc2)).mono ?_
        rintro e w114 ⟨rfl, hc⟩
        exact ⟨_, rfl, rfl, hc⟩
      · refine (c_Road_no (a := u) (b := 0) hs.a (by omega) (by omega) (fun ⟨l, h⟩ => by obtain ⟨z, hz⟩ := way_last h hu; exact hz)).mono ?_
        rintro e w75 ⟨rfl, hce⟩
        replace hs := hs.step hce
        refine ⟨_, _, _, _, rfl, fun _ w' => w' = w75, ?_, ?_⟩
        · refine ⟨fun vs w' => vs = [.bool false] ∧ w' = w75, ?_, ?_⟩
          · refine bif_i (fun h => ?_) (fun _ => ⟨?_, rfl⟩)
            · simp only [b1s] at h; omega
            · simp; omega
          · rintro _ b79 w80 ⟨ht, rfl⟩
            simp only [List.cons.injEq, Value.bool.injEq, and_true] at ht
            subst ht
            exact bif_i (fun h => by cases h) (fun _ => rfl)
        rintro _ w107 rfl
        refine bif_i (fun h => ?_) (fun _ => ?_)
        · simp only [b1s] at h; omega
        refine (num hs).mono ?_
        rintro e w117 ⟨rfl, hs⟩
        refine ⟨_, rfl, bif_i (fun _ => bif_i (fun _ => ?_) (fun h => absurd h (by decide))) (fun h => absurd h (by decide))⟩
        refine (n_sure06 hg (hc.trans hs.c)).mono ?_
        rintro e w120 ⟨rfl, hc⟩
        exact ⟨_, rfl, rfl, hc⟩
    · have hx0 : ¬ ((0 ≤ x ∧ x < m) ∧ (0 ≤ (0 : Int) ∧ (0 : Int) < m)) := fun h => hxi h.1
      have h0x : ¬ ((0 ≤ (0 : Int) ∧ (0 : Int) < m) ∧ (0 ≤ x ∧ x < m)) := fun h => hxi h.2
      refine (c_Road_bad hs.a hx0).mono ?_
      rintro e w75 ⟨rfl, hce⟩
      replace hs := hs.step hce
      refine ⟨_, _, _, _, rfl, fun _ _ => False, ?_, fun _ _ h => h.elim⟩
      refine ⟨fun vs w' => vs = [.bool true] ∧ w' = w75, ?_, ?_⟩
      · refine bif_i (fun h => ⟨rfl, rfl⟩) (fun h => ⟨?_, rfl⟩)
        simp only [b1s] at h
        simp; omega
      rintro _ b79 w80 ⟨ht, rfl⟩
      simp only [List.cons.injEq, Value.bool.injEq, and_true] at ht
      subst ht
      refine bif_i (fun _ => ?_) (fun h => by cases h)
      refine (c_Sum_bad hs.a h0x).mono ?_
      rintro e w83 ⟨rfl, hce⟩
      replace hs := hs.step hce
      refine ⟨_, _, rfl, (c_Most_bad hs.a hx0).mono ?_⟩
      rintro e w87 ⟨rfl, hce⟩
      replace hs := hs.step hce
      refine ⟨_, _, rfl, (num hs).mono ?_⟩
      rintro e w90 ⟨rfl, hs⟩
      refine ⟨_, rfl, bif_i (fun _ => (num hs).mono ?_) (fun h => absurd h (by decide))⟩
      rintro e w93 ⟨rfl, hs⟩
      refine ⟨_, rfl, bif_i (fun _ => (num hs).mono ?_) (fun h => absurd h (by decide))⟩
      rintro e w96 ⟨rfl, hs⟩
      refine ⟨_, rfl, bif_i (fun _ => (c_Set_bad hs.a hxi).mono ?_) (fun h => absurd h (by decide))⟩
      rintro e w99 ⟨rfl, hce⟩
      replace hs := hs.step hce
      refine ⟨_, rfl, (num hs).mono ?_⟩
      rintro e w102 ⟨rfl, hs⟩
      refine ⟨_, rfl, bif_i (fun _ => ?_) (fun h => absurd h (by decide))⟩
      refine (n_sure06 hg (hc.trans hs.c)).mono ?_
      rintro e w105 ⟨rfl, hc⟩
      exact ⟨_, rfl, rfl, hc⟩
  · refine (c_New_bad hin).mono ?_
    rintro e w55 ⟨rfl, hc2⟩
    replace hc := hc.trans hc2
    have fin : Calls Pg fn_plaitlaw06_num #[errV 1] w55 fun e60 w59 => ∃ n98_58 : Int, e60 = .returned (.int .i64 n98_58) ∧
        bif (n98_58 == (1 : Int)) then (bif (Option.isNone (none : Option Addr)) then (
          Calls Pg fn_plaitlaw06_sure #[] w59 fun e63 w62 => ∃ b105_61 : Bool, e63 = .returned (.bool b105_61) ∧ (Value.bool b105_61 = .bool true ∧ Chg Nobody w w62)) else (Value.bool false = .bool true ∧ Chg Nobody w w59)) else (Value.bool false = .bool true ∧ Chg Nobody w w59) := by
      refine (n_num06 hg hc).mono ?_
      rintro e w59 ⟨rfl, hc⟩
      refine ⟨_, rfl, bif_i (fun _ => bif_i (fun _ => ?_) (fun h => by cases h)) (fun h => absurd h (by decide))⟩
      refine (n_sure06 hg hc).mono ?_
      rintro e w62 ⟨rfl, hc⟩
      exact ⟨_, rfl, rfl, hc⟩
    refine ⟨_, _, rfl, fun _ _ => False, ?_, fun _ _ h => h.elim⟩
    refine bif_i (fun _ => fin) (fun h => bif_i (fun _ => fin) (fun h2 => ?_))
    simp only [b1s] at h h2
    omega
end Cut
end Go.Proofs.YtledchlbmilneaaDoor
