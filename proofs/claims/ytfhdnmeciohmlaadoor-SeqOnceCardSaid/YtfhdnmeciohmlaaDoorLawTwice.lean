/-
The law SeqTwice: a sequence turned twice, or cut and joined again, is as it was.
Conditions: the package variable of errors is laid out; the acts can be read.
-/
import Derived.Test.YtfhdnmeciohmlaaDoorLawJoins
namespace Go.Proofs.YtfhdnmeciohmlaaDoor
open Go
set_option linter.unusedVariables false
set_option linter.unusedSimpArgs false
namespace Seq
theorem c_SeqTwice {w : World} {n x : Int} {sb : Option Addr} {sl sc : Nat} {f : Nat → Nat → Int} (hg : LaidG w) (hf : CA w sb sl 4 f) :
    Calls Pg fn_plaitlaw04_SeqTwice #[.int .i64 n, .slice sb sl sc, .int .i64 x] w fun e w' => e = .returned (.bool true) ∧ Chg Nobody w w' := by
  refine (calls_plaitlaw04_SeqTwice _ _ _ _ _ _ (fun v' w' => v' = .bool true ∧ Chg Nobody w w') ?_).mono (by rintro e w' ⟨v, rfl, rfl, k⟩; exact ⟨rfl, k⟩)
  unfold sh_plaitlaw04_SeqTwice
  refine ⟨by decide, ?_⟩
  obtain ⟨m, hm0, hm1, he⟩ := size_ex n 1 30 (by omega) (by omega) (by omega)
  rw [he]
  refine (c_New (n := m) (by omega) (by omega)).mono ?_
  rintro e w5 ⟨F, L, rfl, h, hF, hL, ha⟩
  have hs : LS w w5 F L m (fun _ => 0) (ones m) := ⟨h, hF, hL, ha⟩
  refine ⟨_, _, rfl, fun _ w' => w' = w5, err_i (fun e => absurd rfl e) (fun _ => bif_i (fun h => by cases h) (fun _ => rfl)), ?_⟩
  rintro _ w8 rfl
  refine ⟨fun _ w' => ∃ q, LS w w' F L m (fun _ => 0) q, ?_, ?_⟩
  · let J : Nat → List Value → World → Prop := fun j vs w' => ∃ (i : Nat) (q : List (List Nat)), vs = [.int .i64 i] ∧ i ≤ 60 ∧ LS w w' F L m (fun _ => 0) q ∧ j = 60 - i
    refine ⟨LI J, LM J, ⟨_, 0, _, rfl, by omega, hs, rfl⟩, ?_⟩
    clear hs h ha
    intro _ n12 w13 hJ
    obtain ⟨i, q, hvs, hi, hs, hj⟩ := hJ.at
    simp only [List.cons.injEq, Value.int.injEq, and_true, true_and] at hvs
    subst hvs
    refine bif_i (fun hc => ?_) (fun hc => ⟨q, hs⟩)
    refine bif_i (fun hc2 => ?_) (fun hc2 => ⟨q, hs⟩)
    simp only [bne_iff_ne, ne_eq, bne_eq_false_iff_eq, Bool.not_eq_true, beq_iff_eq, beq_eq_false_iff_ne, decide_eq_true_eq, decide_eq_false_iff_not, Bool.not_eq_true', Bool.not_eq_false'] at hc hc2
    have hil : i < sl := by omega
    have hf := (hf.nob hs.c).drew
    have hs := hs.drew
    refine hf.rd (k := 1) hil (by omega) ?_
    obtain ⟨hz1, a, haM, hae⟩ := idx_ex (f i 1) (show 0 < m by omega) (by omega)
    refine ⟨hz1, hf.rd (k := 2) hil (by omega) ?_⟩
    obtain ⟨hz2, b, hbM, hbe⟩ := idx_ex (f i 2) (show 0 < m by omega) (by omega)
    refine ⟨hz2, hf.rd0 hil (by omega) ⟨by decide, ?_⟩⟩
    rw [hae, hbe, wrap64_in (x := (i : Int) + 1) (by omega) (by omega)]
    have again : ∀ w' q', LS w w' F L m (fun _ => 0) q' → LI J [.int .i64 ((i : Int) + 1)] w' ∧ LM J [.int .i64 ((i : Int) + 1)] w' < LM J [.int .i64 (i : Int)] w13 := fun w' q' h1 =>
      LI.again (k := 60 - (i + 1)) ⟨i + 1, q', rfl, by omega, h1, rfl⟩ (by rw [hj]; omega)
    refine bif_i (fun _ => ?_) (fun _ => ?_)
    · refine (op_Reverse hs haM).mono ?_
      rintro e w' ⟨rfl, q', hs'⟩
      refine ⟨_, rfl, ?_⟩
      refine (op_Join hs' haM hbM).mono ?_
      rintro e w' ⟨⟨c, rfl⟩, q', hs'⟩
      exact ⟨_, rfl, again _ _ hs'⟩
    · refine (op_Join hs haM hbM).mono ?_
      rintro e w' ⟨⟨c, rfl⟩, q', hs'⟩
      exact ⟨_, rfl, again _ _ hs'⟩
  clear hs h ha
  rintro _ w29 ⟨q, hs⟩
  obtain ⟨hz, y, hym, hye⟩ := idx_ex x (show 0 < m by omega) (by omega)
  refine ⟨hz, ?_⟩
  rw [hye]
  obtain ⟨A, q', hp, hA⟩ := hs.a.find hym
  replace hs := hs.perm hp
  have hAn : A.length ≤ m := by
    obtain ⟨hnd, hlt, _⟩ := hs.a.nodup
    exact nodup_len (by simp only [List.flatten_cons, List.nodup_append] at hnd; exact hnd.1) (fun y hy => hlt A (by simp) y hy)
  have hnd : A.Nodup := by
    obtain ⟨hnd, hlt, _⟩ := hs.a.nodup
    simp only [List.flatten_cons, List.nodup_append] at hnd; exact hnd.1
  have hA0 : 0 < A.length := List.length_pos_of_mem hA
  have hAr : y ∈ A.reverse := by simpa using hA
  refine (op_List hs hA).mono ?_
  rintro e w32 ⟨xb, xc, rfl, hx, hxL, hs, _⟩
  refine ⟨_, _, _, _, rfl, fun _ w' => LS w w' F L m (fun _ => 0) (A :: q') ∧ IA w' xb A.length (ints A), ?_, ?_⟩
  · refine err_i (fun e => absurd rfl e) (fun _ => ?_)
    refine (c_Reverse hs.a hA).mono ?_
    rintro e w36 ⟨rfl, has⟩
    replace hs := hs.step has
    replace hx := hx.as hxL has
    refine ⟨_, rfl, err_i (fun e => absurd rfl e) (fun _ => ?_)⟩
    refine (c_Reverse hs.a hAr).mono ?_
    rintro e w36 ⟨rfl, has⟩
    rw [List.reverse_reverse] at has
    exact ⟨_, rfl, err_i (fun e => absurd rfl e) (fun _ => ⟨hs.step has, hx.as hxL has⟩)⟩
  clear hs hx
  rintro _ w41 ⟨hs, hx⟩
  refine (op_List hs hA).mono ?_
  rintro e w44 ⟨yb, yc, rfl, hy, hyL, hs, has⟩
  replace hx := hx.as hxL has
  refine ⟨_, _, _, _, rfl, ?_⟩
  obtain ⟨u, hu⟩ : ∃ u, A[0]? = some u := ⟨_, List.getElem?_eq_getElem hA0⟩
  have hru : (ints A)[0]? = some (u : Int) := by rw [List.getElem?_map, hu]; rfl
  -- what follows once it is joined again
  have last : ∀ w', LS w w' F L m (fun _ => 0) (A :: q') → IA w' xb A.length (ints A) → Calls Pg fn_seq_Forest_List #[.pointer (some ⟨F, 0, none⟩), .int .i64 y] w' fun e w62 => ∃ (sb : Option Addr) (sl sc : Nat) (v : Value), e = .returned (.tuple #[.slice sb sl sc, v]) ∧
      isI v ∧ bif (nilI v) then (Calls Pg fn_plaitlaw04_ints #[.slice sb sl sc, .slice xb A.length xc] w62 fun e w65 => ∃ b : Bool, e = .returned (.bool b) ∧ bif b then (Calls Pg fn_plaitlaw04_sure #[] w65 fun e w68 => ∃ b : Bool, e = .returned (.bool b) ∧ (Value.bool b = .bool true ∧ Chg Nobody w w68)) else (Value.bool false = .bool true ∧ Chg Nobody w w65)) else (Value.bool false = .bool true ∧ Chg Nobody w w62) := by
    intro w' hs hx
    refine (op_List hs hA).mono ?_
    rintro e w62 ⟨zb, zc, rfl, hz, hzL, hs, has⟩
    replace hx := hx.as hxL has
    refine ⟨_, _, _, _, rfl, errV_isI _, bif_i (fun _ => ?_) (fun h => absurd h (by decide))⟩
    refine (c_ints hz hx (by omega)).mono ?_
    rintro e w65 ⟨rfl, hc⟩
    replace hs := hs.nob hc
    refine ⟨_, rfl, ?_⟩
    rw [decide_eq_true rfl]
    refine bif_i (fun _ => ?_) (fun h => by cases h)
    refine (l_sure hg hs.c).mono ?_
    rintro e w68 ⟨rfl, hc⟩
    exact ⟨_, rfl, rfl, hc⟩
  obtain ⟨pre, post, rfl⟩ := List.append_of_mem hA
  by_cases hpre : pre = []
  · subst hpre
    have huy : u = y := by simpa using hu.symm
    subst huy
    refine (c_Cut_no hs.a).mono ?_
    rintro e w48 ⟨rfl, has⟩
    replace hs := hs.step has
    replace hx := hx.as hxL has
    replace hy := hy.as hyL has
    refine ⟨_, _, rfl, err_i (fun e => absurd rfl e) (fun _ => err_i (fun e => absurd rfl e) (fun _ => ?_))⟩
    refine (c_ints hx hy (by omega)).mono ?_
    rintro e w51 ⟨rfl, hc⟩
    replace hs := hs.nob hc
    replace hx := hx.nob hc
    refine ⟨_, rfl, ?_⟩
    rw [decide_eq_true rfl]
    refine bif_i (fun h => by cases h) (fun _ => bif_i (fun h => ?_) (fun _ => ?_))
    · simp only [bne_iff_ne, ne_eq, bne_eq_false_iff_eq, Bool.not_eq_true, beq_iff_eq, beq_eq_false_iff_ne, decide_eq_true_eq, decide_eq_false_iff_not, Bool.not_eq_true', Bool.not_eq_false'] at h; omega
    refine hx.rd (i := 0) hru ?_
    refine bif_i (fun h => ?_) (fun _ => ?_)
    · simp at h
    refine bif_i (fun h => by cases h) (fun _ => ?_)
    exact last _ hs hx
  · have huy : u ≠ y := by
      rintro rfl
      cases pre with
      | nil => exact hpre rfl
      | cons t pre =>
        simp at hu; subst hu
        simp at hnd
    have hup : u ∈ pre := by
      cases pre with
      | nil => exact absurd rfl hpre
      | cons t pre => simp at hu; subst hu; simp
    refine (c_Cut_yes hs.a hpre).mono ?_
    rintro e w48 ⟨rfl, has⟩
    have hs2 := hs.step has
    replace hx := hx.as hxL has
    replace hy := hy.as hyL has
    refine ⟨_, _, rfl, err_i (fun e => absurd rfl e) (fun _ => err_i (fun e => absurd rfl e) (fun _ => ?_))⟩
    refine (c_ints hx hy (by omega)).mono ?_
    rintro e w51 ⟨rfl, hc⟩
    replace hs2 := hs2.nob hc
    replace hx := hx.nob hc
    refine ⟨_, rfl, ?_⟩
    rw [decide_eq_true rfl]
    refine bif_i (fun h => by cases h) (fun _ => bif_i (fun h => ?_) (fun _ => ?_))
    · simp only [bne_iff_ne, ne_eq, bne_eq_false_iff_eq, Bool.not_eq_true, beq_iff_eq, beq_eq_false_iff_ne, decide_eq_true_eq, decide_eq_false_iff_not, Bool.not_eq_true', Bool.not_eq_false'] at h; omega
    refine hx.rd (i := 0) hru ?_
    refine bif_i (fun h => ?_) (fun _ => ?_)
    · have : (u : Int) ≠ y := by omega
      simp [this] at h
    refine bif_i (fun _ => ?_) (fun h => by cases h)
    refine hx.rd (i := 0) hru ?_
    refine (c_Join hs2.a hup (b := y) (by simp)).mono ?_
    rintro e w58 ⟨rfl, has⟩
    have hs3 := hs2.step has
    replace hx := hx.as hxL has
    refine ⟨_, rfl, err_i (fun e => absurd rfl e) (fun _ => ?_)⟩
    exact last _ hs3 hx
end Seq
end Go.Proofs.YtfhdnmeciohmlaaDoor
