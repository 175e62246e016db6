/-
The law SeqNew: of how many items there can be sequences, and the errors.
Conditions: the package variable of errors is laid out.
-/
import Derived.Test.YtfhdnmeciohmlaaDoorLawTurns
namespace Go.Proofs.YtfhdnmeciohmlaaDoor
open Go
set_option linter.unusedVariables false
set_option linter.unusedSimpArgs false
namespace Seq
section
variable {w₀ w : World} {F L m : Nat} {v : Nat → Int} {q : List (List Nat)} {c : Int}
/-- 'num', behind what a law has done. -/
theorem l_num (hg : LaidG w₀) (hc : Chg Nobody w₀ w) : Calls Pg fn_plaitlaw04_num #[errV c] w fun e w' => e = .returned (.int .i64 c) ∧ Chg Nobody w₀ w' :=
  (c_num (hg.chg hc (fun h => h))).mono fun e w' ⟨h, k⟩ => ⟨h, hc.trans k⟩
theorem l_sure (hg : LaidG w₀) (hc : Chg Nobody w₀ w) : Calls Pg fn_plaitlaw04_sure #[] w fun e w' => e = .returned (.bool true) ∧ Chg Nobody w₀ w' :=
  (c_sure (hg.chg hc (fun h => h))).mono fun e w' ⟨h, k⟩ => ⟨h, hc.trans k⟩
end
theorem c_SeqNew {w : World} {n x : Int} (hg : LaidG w) :
    Calls Pg fn_plaitlaw04_SeqNew #[.int .i64 n, .int .i64 x] w fun e w' => e = .returned (.bool true) ∧ Chg Nobody w w' := by
  refine (calls_plaitlaw04_SeqNew _ _ _ (fun v' w' => v' = .bool true ∧ Chg Nobody w w') ?_).mono (by rintro e w' ⟨v, rfl, rfl, k⟩; exact ⟨rfl, k⟩)
  unfold sh_plaitlaw04_SeqNew
  have hc := Chg.refl Nobody w
  refine c_Cut_nil.mono ?_
  rintro e w4 ⟨rfl, h⟩
  replace hc := hc.trans h
  refine ⟨_, _, rfl, ?_⟩
  refine c_Same_nil.mono ?_
  rintro e w8 ⟨rfl, h⟩
  replace hc := hc.trans h
  refine ⟨_, _, rfl, ?_⟩
  refine c_List_nil.mono ?_
  rintro e w12 ⟨rfl, h⟩
  replace hc := hc.trans h
  refine ⟨_, _, _, _, rfl, ?_⟩
  refine c_At_nil.mono ?_
  rintro e w16 ⟨rfl, h⟩
  replace hc := hc.trans h
  refine ⟨_, _, rfl, fun _ w' => Chg Nobody w w', ?_, ?_⟩
  · refine c_Join_nil.mono ?_
    rintro e w20 ⟨rfl, h⟩
    replace hc := hc.trans h
    refine ⟨_, rfl, ?_⟩
    refine (l_num hg hc).mono ?_
    rintro e w23 ⟨rfl, hc⟩
    refine ⟨_, rfl, bif_i (fun h => absurd h (by decide)) (fun _ => ?_)⟩
    refine (l_num hg hc).mono ?_
    rintro e w23 ⟨rfl, hc⟩
    refine ⟨_, rfl, bif_i (fun h => absurd h (by decide)) (fun _ => ?_)⟩
    refine (l_num hg hc).mono ?_
    rintro e w23 ⟨rfl, hc⟩
    refine ⟨_, rfl, bif_i (fun h => absurd h (by decide)) (fun _ => ?_)⟩
    refine (l_num hg hc).mono ?_
    rintro e w23 ⟨rfl, hc⟩
    refine ⟨_, rfl, bif_i (fun h => absurd h (by decide)) (fun _ => ?_)⟩
    refine (l_num hg hc).mono ?_
    rintro e w23 ⟨rfl, hc⟩
    refine ⟨_, rfl, bif_i (fun h => absurd h (by decide)) (fun _ => ?_)⟩
    refine c_Reverse_nil.mono ?_
    rintro e w20 ⟨rfl, h⟩
    replace hc := hc.trans h
    refine ⟨_, rfl, ?_⟩
    refine (l_num hg hc).mono ?_
    rintro e w23 ⟨rfl, hc⟩
    refine ⟨_, rfl, bif_i (fun h => absurd h (by decide)) (fun _ => ?_)⟩
    refine c_Set_nil.mono ?_
    rintro e w20 ⟨rfl, h⟩
    replace hc := hc.trans h
    refine ⟨_, rfl, ?_⟩
    refine (l_num hg hc).mono ?_
    rintro e w23 ⟨rfl, hc⟩
    exact ⟨_, rfl, bif_i (fun h => absurd h (by decide)) (fun _ => hc)⟩
  clear hc
  rintro _ w49 hc
  refine ⟨fun vs w' => ∃ k : Int, vs = [.int .i64 k] ∧ w' = w49 ∧ (k ≤ 8388608 → k ≤ 5000), ?_, ?_⟩
  · refine bif_i (fun h1 => ?_) (fun h1 => ?_) <;> simp only [bne_iff_ne, ne_eq, bne_eq_false_iff_eq, Bool.not_eq_true, beq_iff_eq, beq_eq_false_iff_ne, decide_eq_true_eq, decide_eq_false_iff_not, Bool.not_eq_true', Bool.not_eq_false'] at h1
    · refine bif_i (fun h2 => ?_) (fun h2 => ?_) <;> simp only [bne_iff_ne, ne_eq, bne_eq_false_iff_eq, Bool.not_eq_true, beq_iff_eq, beq_eq_false_iff_ne, decide_eq_true_eq, decide_eq_false_iff_not, Bool.not_eq_true', Bool.not_eq_false'] at h2
      · exact ⟨_, rfl, rfl, by omega⟩
      · exact ⟨_, rfl, rfl, by omega⟩
    · exact ⟨_, rfl, rfl, by omega⟩
  rintro _ k' w52 ⟨k, hk, rfl, hk5⟩
  simp only [List.cons.injEq, Value.int.injEq, and_true, true_and] at hk
  subst hk
  by_cases hok : 1 ≤ k' ∧ k' ≤ 8388608
  case neg =>
    refine (c_New_bad hok).mono ?_
    rintro e w55 ⟨rfl, h⟩
    replace hc := hc.trans h
    refine ⟨_, _, rfl, fun _ _ => False, ?_, fun _ _ h => h.elim⟩
    refine bif_i (fun h1 => ?_) (fun h1 => ?_) <;> simp only [bne_iff_ne, ne_eq, bne_eq_false_iff_eq, Bool.not_eq_true, beq_iff_eq, beq_eq_false_iff_ne, decide_eq_true_eq, decide_eq_false_iff_not, Bool.not_eq_true', Bool.not_eq_false'] at h1
    · refine (l_num hg hc).mono ?_
      rintro e w23 ⟨rfl, hc⟩
      refine ⟨_, rfl, bif_i (fun _ => bif_i (fun _ => ?_) (fun h => absurd h (by decide))) (fun h => absurd h (by decide))⟩
      refine (l_sure hg hc).mono ?_
      rintro e w23 ⟨rfl, hc⟩
      exact ⟨_, rfl, rfl, hc⟩
    · refine bif_i (fun h2 => ?_) (fun h2 => ?_) <;> simp only [bne_iff_ne, ne_eq, bne_eq_false_iff_eq, Bool.not_eq_true, beq_iff_eq, beq_eq_false_iff_ne, decide_eq_true_eq, decide_eq_false_iff_not, Bool.not_eq_true', Bool.not_eq_false'] at h2
      · refine (l_num hg hc).mono ?_
        rintro e w23 ⟨rfl, hc⟩
        refine ⟨_, rfl, bif_i (fun _ => bif_i (fun _ => ?_) (fun h => absurd h (by decide))) (fun h => absurd h (by decide))⟩
        refine (l_sure hg hc).mono ?_
        rintro e w23 ⟨rfl, hc⟩
        exact ⟨_, rfl, rfl, hc⟩
      · omega
  case pos =>
    obtain ⟨m, rfl⟩ : ∃ m : Nat, k' = m := ⟨k'.toNat, by omega⟩
    refine (c_New (n := m) (by omega) (by omega)).mono ?_
    rintro e w55 ⟨F, L, rfl, h, hF, hL, ha⟩
    have hs : LS w52 w55 F L m (fun _ => 0) (ones m) := ⟨h, hF, hL, ha⟩
    have hs : LS w w55 F L m (fun _ => 0) (ones m) := ⟨hc.trans hs.c, Nat.le_trans hc.size hs.hF, Nat.le_trans hc.size hs.hL, hs.a⟩
    refine ⟨_, _, rfl, fun _ w' => w' = w55, ?_, ?_⟩
    · refine bif_i (fun h1 => ?_) (fun h1 => ?_) <;> simp only [bne_iff_ne, ne_eq, bne_eq_false_iff_eq, Bool.not_eq_true, beq_iff_eq, beq_eq_false_iff_ne, decide_eq_true_eq, decide_eq_false_iff_not, Bool.not_eq_true', Bool.not_eq_false'] at h1
      · omega
      · refine bif_i (fun h2 => ?_) (fun _ => rfl)
        simp only [bne_iff_ne, ne_eq, bne_eq_false_iff_eq, Bool.not_eq_true, beq_iff_eq, beq_eq_false_iff_ne, decide_eq_true_eq, decide_eq_false_iff_not, Bool.not_eq_true', Bool.not_eq_false'] at h2; omega
    rintro _ w70 rfl
    refine ⟨fun _ w' => w' = w70, err_i (fun e => absurd rfl e) (fun _ => bif_i (fun h => by cases h) (fun _ => rfl)), ?_⟩
    rintro _ w72 rfl
    by_cases hx : 0 ≤ x ∧ x < m
    case pos =>
      obtain ⟨a, rfl⟩ : ∃ a : Nat, x = a := ⟨x.toNat, by omega⟩
      have hp : (ones m).Perm ([a] :: (ones m).erase [a]) := List.perm_cons_erase (List.mem_map.2 ⟨a, List.mem_range.2 (by omega), rfl⟩)
      have hs := hs.perm hp
      refine (c_Size (x := a) hs.a (by simp)).mono ?_
      rintro e w75 ⟨rfl, has⟩
      have hs := hs.step has
      refine ⟨_, _, rfl, fun vs w' => vs = [.bool false] ∧ w' = w75, ?_, ?_⟩
      · refine bif_i (fun h1 => ?_) (fun h1 => ?_)
        · simp only [bne_iff_ne, ne_eq, bne_eq_false_iff_eq, Bool.not_eq_true, beq_iff_eq, beq_eq_false_iff_ne, decide_eq_true_eq, decide_eq_false_iff_not, Bool.not_eq_true', Bool.not_eq_false'] at h1; omega
        · refine ⟨?_, rfl⟩
          rw [decide_eq_false (by omega)]
      rintro _ b w79 ⟨hb, rfl⟩
      simp only [List.cons.injEq, Value.bool.injEq, and_true] at hb
      subst hb
      refine bif_i (fun h => by cases h) (fun _ => ⟨errV_isI _, bif_i (fun _ => bif_i (fun _ => ?_) (fun h => by simp at h)) (fun h => absurd h (by decide))⟩)
      refine (l_sure hg hs.c).mono ?_
      rintro e w23 ⟨rfl, hc⟩
      exact ⟨_, rfl, rfl, hc⟩
    case neg =>
      refine (c_Size_bad hs.a hx).mono ?_
      rintro e w75 ⟨rfl, has⟩
      have hs := hs.step has
      refine ⟨_, _, rfl, fun vs w' => vs = [.bool true] ∧ w' = w75, ?_, ?_⟩
      · refine bif_i (fun h1 => ⟨rfl, rfl⟩) (fun h1 => ?_)
        simp only [bne_iff_ne, ne_eq, bne_eq_false_iff_eq, Bool.not_eq_true, beq_iff_eq, beq_eq_false_iff_ne, decide_eq_true_eq, decide_eq_false_iff_not, Bool.not_eq_true', Bool.not_eq_false'] at h1
        refine ⟨?_, rfl⟩
        rw [decide_eq_true (by omega)]
      rintro _ b w79 ⟨hb, rfl⟩
      simp only [List.cons.injEq, Value.bool.injEq, and_true] at hb
      subst hb
      refine bif_i (fun _ => ?_) (fun h => by cases h)
      refine (c_Cut_bad hs.a hx).mono ?_
      rintro e w82 ⟨rfl, has⟩
      replace hs := hs.step has
      refine ⟨_, _, rfl, ?_⟩
      refine (c_Rank_bad hs.a hx).mono ?_
      rintro e w82 ⟨rfl, has⟩
      replace hs := hs.step has
      refine ⟨_, _, rfl, ?_⟩
      refine (c_Sum_bad hs.a hx).mono ?_
      rintro e w82 ⟨rfl, has⟩
      replace hs := hs.step has
      refine ⟨_, _, rfl, ?_⟩
      refine (c_Least_bad hs.a hx).mono ?_
      rintro e w82 ⟨rfl, has⟩
      replace hs := hs.step has
      refine ⟨_, _, rfl, ?_⟩
      refine (c_Most_bad hs.a hx).mono ?_
      rintro e w82 ⟨rfl, has⟩
      replace hs := hs.step has
      refine ⟨_, _, rfl, ?_⟩
      have nm : ∀ {w' : World}, LS w w' F L m (fun _ => 0) (ones m) → Calls Pg fn_plaitlaw04_num #[errV 12] w' fun e w'' => e = .returned (.int .i64 12) ∧ LS w w'' F L m (fun _ => 0) (ones m) := fun hs =>
        (c_num (hs.g hg)).mono fun e w'' ⟨h, k⟩ => ⟨h, hs.nob k⟩
      refine (nm hs).mono ?_
      rintro e w82 ⟨rfl, hs⟩
      refine ⟨_, rfl, bif_i (fun _ => ?_) (fun h => absurd h (by decide))⟩
      refine (nm hs).mono ?_
      rintro e w82 ⟨rfl, hs⟩
      refine ⟨_, rfl, bif_i (fun _ => ?_) (fun h => absurd h (by decide))⟩
      refine (nm hs).mono ?_
      rintro e w82 ⟨rfl, hs⟩
      refine ⟨_, rfl, bif_i (fun _ => ?_) (fun h => absurd h (by decide))⟩
      refine (nm hs).mono ?_
      rintro e w82 ⟨rfl, hs⟩
      refine ⟨_, rfl, bif_i (fun _ => ?_) (fun h => absurd h (by decide))⟩
      refine (nm hs).mono ?_
      rintro e w82 ⟨rfl, hs⟩
      refine ⟨_, rfl, bif_i (fun _ => ?_) (fun h => absurd h (by decide))⟩
      refine (nm hs).mono ?_
      rintro e w82 ⟨rfl, hs⟩
      refine ⟨_, rfl, bif_i (fun _ => ?_) (fun h => absurd h (by decide))⟩
      refine (c_Reverse_bad hs.a hx).mono ?_
      rintro e w82 ⟨rfl, has⟩
      replace hs := hs.step has
      refine ⟨_, rfl, ?_⟩
      refine (nm hs).mono ?_
      rintro e w82 ⟨rfl, hs⟩
      refine ⟨_, rfl, bif_i (fun _ => ?_) (fun h => absurd h (by decide))⟩
      refine (c_Set_bad hs.a hx).mono ?_
      rintro e w82 ⟨rfl, has⟩
      replace hs := hs.step has
      refine ⟨_, rfl, ?_⟩
      refine (nm hs).mono ?_
      rintro e w82 ⟨rfl, hs⟩
      refine ⟨_, rfl, bif_i (fun _ => ?_) (fun h => absurd h (by decide))⟩
      refine (l_sure hg hs.c).mono ?_
      rintro e w23 ⟨rfl, hc⟩
      exact ⟨_, rfl, rfl, hc⟩
end Seq
end Go.Proofs.YtfhdnmeciohmlaaDoor
