/-
The law CutRuns' own helper: all that is told of the road between two nodes.
Conditions: those that each theorem states.
-/
import Derived.Test.YtledchlbmilneaaDoorLawRef06
import Derived.Test.YtledchlbmilneaaDoorGTold
namespace Go.Proofs.YtledchlbmilneaaDoor
open Go Go.RowKit
set_option linter.unusedVariables false
set_option linter.unusedSimpArgs false
namespace Cut
open Go.Proofs.YtledchlbmilneaaDoor.Seq
theorem c_told06 {w₀ w : World} {F L B n a b rc vc : Nat} {v : Nat → Int} {E : Nat → Nat → Prop} {A : List Nat} {rb : Option Addr} (hg : LaidG w₀) (hs : LC w₀ w F L n v E) (ha : a < n) (hb : b < n) (hA : (A = [] ∧ ¬ ∃ l, Way E a b l) ∨ Way E a b A)
    (hia : IA w rb A.length (ints A)) (hrL : ∀ k, bk rb = some k → k ≠ L) (hv : Row w.heap B T_int64 (nums n v)) (hBL : B ≠ L) :
    Calls Pg fn_plaitlaw06_told #[.pointer (some ⟨F, 0, none⟩), .slice rb A.length rc, .slice (some ⟨B, 0, none⟩) n vc, .int .i64 a, .int .i64 b] w fun e w' => e = .returned (.bool true) ∧ LC w₀ w' F L n v E ∧ Chg (· = L) w w' := by
  refine (calls_plaitlaw06_told _ _ _ _ _ _ _ _ _ _ (fun v' w' => v' = .bool true ∧ LC w₀ w' F L n v E ∧ Chg (· = L) w w') ?_).mono (by rintro e w' ⟨v, rfl, rfl, k⟩; exact ⟨rfl, k⟩)
  unfold sh_plaitlaw06_told
  have hn := hs.a.small
  have hch : Chg (· = L) w w := Chg.refl _ _
  rcases hA with ⟨rfl, hw⟩ | hw
  · refine (c_Len_no hs.a ha hb hw).mono ?_
    rintro e w7 ⟨rfl, hce⟩
    replace hs := hs.step hce
    replace hch := hch.trans hce.c
    refine ⟨_, _, rfl, (c_Sum_no hs.a ha hb hw).mono ?_⟩
    rintro e w11 ⟨rfl, hce⟩
    replace hs := hs.step hce
    replace hch := hch.trans hce.c
    refine ⟨_, _, rfl, (c_Least_no hs.a ha hb hw).mono ?_⟩
    rintro e w15 ⟨rfl, hce⟩
    replace hs := hs.step hce
    replace hch := hch.trans hce.c
    refine ⟨_, _, rfl, (c_Most_no hs.a ha hb hw).mono ?_⟩
    rintro e w19 ⟨rfl, hce⟩
    replace hs := hs.step hce
    replace hch := hch.trans hce.c
    refine ⟨_, _, rfl, (c_Road_no hs.a ha hb hw).mono ?_⟩
    rintro e w23 ⟨rfl, hce⟩
    replace hs := hs.step hce
    replace hch := hch.trans hce.c
    refine ⟨_, _, _, _, rfl, (c_Same hs.a ha hb).mono ?_⟩
    rintro e w27 ⟨t, rfl, ht, hce⟩
    replace hs := hs.step hce
    replace hch := hch.trans hce.c
    have htf : t = false := by cases t; rfl; exact absurd (ht.1 rfl) hw
    subst htf
    refine ⟨_, _, rfl, fun _ w' => w' = w27, err_i (fun e => absurd rfl e) (fun _ => bif_i (fun h => by simp at h) (fun _ => rfl)), ?_⟩
    rintro _ w30 rfl
    have num : ∀ {w' : World} {c : Int}, (LC w₀ w' F L n v E ∧ Chg (· = L) w w') → Calls Pg fn_plaitlaw06_num #[errV c] w' fun e w'' => e = .returned (.int .i64 c) ∧ (LC w₀ w'' F L n v E ∧ Chg (· = L) w w'') := fun h =>
      (c_num06 (h.1.g hg)).mono fun e w'' ⟨he, k⟩ => ⟨he, h.1.nob k, h.2.trans k.weak⟩
    refine bif_i (fun _ => ?_) (fun h => by cases h)
    refine ⟨fun vs w' => vs = [.bool true] ∧ LC w₀ w' F L n v E ∧ Chg (· = L) w w', ?_, ?_⟩
    · refine (num ⟨hs, hch⟩).mono ?_
      rintro e w33 ⟨rfl, h⟩
      refine ⟨_, rfl, bif_i (fun _ => (num h).mono ?_) (fun h => absurd h (by decide))⟩
      clear h
      rintro e w36 ⟨rfl, h⟩
      refine ⟨_, rfl, bif_i (fun _ => (num h).mono ?_) (fun h => absurd h (by decide))⟩
      clear h
      rintro e w39 ⟨rfl, h⟩
      refine ⟨_, rfl, bif_i (fun _ => (num h).mono ?_) (fun h => absurd h (by decide))⟩
      clear h
      rintro e w42 ⟨rfl, h⟩
      refine ⟨_, rfl, bif_i (fun _ => (num h).mono ?_) (fun h => absurd h (by decide))⟩
      clear h
      rintro e w45 ⟨rfl, h⟩
      exact ⟨_, rfl, bif_i (fun _ => bif_i (fun _ => ⟨rfl, h⟩) (fun h => absurd h (by decide))) (fun h => absurd h (by decide))⟩
    · rintro _ b47 w48 ⟨ht, h⟩
      simp only [List.cons.injEq, Value.bool.injEq, and_true] at ht
      subst ht
      exact ⟨rfl, h⟩
  · obtain ⟨hlt, hll, hl0, _⟩ := hs.a.way ha hw
    refine (c_Len hs.a ha hb hw).mono ?_
    rintro e w7 ⟨rfl, hce⟩
    replace hs := hs.step hce
    replace hch := hch.trans hce.c
    replace hia := ia_ce hia hrL hce
    replace hv := hce.c.row hBL hv
    refine ⟨_, _, rfl, (c_Sum hs.a ha hb hw).mono ?_⟩
    rintro e w11 ⟨rfl, hce⟩
    replace hs := hs.step hce
    replace hch := hch.trans hce.c
    replace hia := ia_ce hia hrL hce
    replace hv := hce.c.row hBL hv
    refine ⟨_, _, rfl, (c_Least hs.a ha hb hw).mono ?_⟩
    rintro e w15 ⟨⟨z1, hz1, rfl⟩, hce⟩
    replace hs := hs.step hce
    replace hch := hch.trans hce.c
    replace hia := ia_ce hia hrL hce
    replace hv := hce.c.row hBL hv
    refine ⟨_, _, rfl, (c_Most hs.a ha hb hw).mono ?_⟩
    rintro e w19 ⟨⟨z2, hz2, rfl⟩, hce⟩
    replace hs := hs.step hce
    replace hch := hch.trans hce.c
    replace hia := ia_ce hia hrL hce
    replace hv := hce.c.row hBL hv
    have hLt := hs.a.lt
    refine ⟨_, _, rfl, (op_Road hs ha hb hw).mono ?_⟩
    rintro e w23 ⟨ob, oc, rfl, hio, hoB, hoc, hs, hce⟩
    have hoL : ∀ k, bk ob = some k → k ≠ L := fun k hk => by have := hoB k hk; omega
    replace hch := hch.trans hce.c
    replace hia := ia_ce hia hrL hce
    replace hv := hce.c.row hBL hv
    refine ⟨_, _, _, _, rfl, (c_Same hs.a ha hb).mono ?_⟩
    rintro e w27 ⟨t, rfl, ht, hce⟩
    replace hs := hs.step hce
    replace hch := hch.trans hce.c
    replace hia := ia_ce hia hrL hce
    replace hio := ia_ce hio hoL hce
    replace hv := hce.c.row hBL hv
    obtain rfl := ht.2 ⟨A, hw⟩
    refine ⟨_, _, rfl, fun _ w' => w' = w27, err_i (fun e => absurd rfl e) (fun _ => bif_i (fun h => ?_) (fun _ => rfl)), ?_⟩
    · have : decide ((A.length : Int) > 0) = true := by simpa using hl0
      rw [this] at h; simp at h
    rintro _ w30 rfl
    refine bif_i (fun h => by cases h) (fun _ => ?_)
    refine ⟨errV_isI _, bif_i (fun _ => ⟨errV_isI _, bif_i (fun _ => ⟨errV_isI _, bif_i (fun _ => ⟨errV_isI _, bif_i (fun _ => ⟨errV_isI _, bif_i (fun _ => ?_) (fun h => absurd h (by decide))⟩) (fun h => absurd h (by decide))⟩) (fun h => absurd h (by decide))⟩) (fun h => absurd h (by decide))⟩) (fun h => absurd h (by decide))⟩
    refine bif_i (fun _ => ?_) (fun h => by simp at h)
    have hvi := ia_nums hv
    refine (c_rSum (vc := vc) hia hvi hlt (by omega)).mono ?_
    rintro e w50 ⟨rfl, hc1⟩
    refine ⟨_, rfl, bif_i (fun _ => ?_) (fun h => by simp at h)⟩
    refine (c_rLeast (vc := vc) (hia.nob hc1) (hvi.nob hc1) hlt (by omega) (by omega)).mono ?_
    rintro e w53 ⟨⟨u1, hu1, rfl⟩, hc2⟩
    obtain rfl := hz1.uniq hu1
    replace hc2 := hc1.trans hc2
    refine ⟨_, rfl, bif_i (fun _ => ?_) (fun h => by simp at h)⟩
    refine (c_rMost (vc := vc) (hia.nob hc2) (hvi.nob hc2) hlt (by omega) (by omega)).mono ?_
    rintro e w56 ⟨⟨u2, hu2, rfl⟩, hc3⟩
    obtain rfl := hz2.uniq hu2
    replace hc3 := hc2.trans hc3
    refine ⟨_, rfl, bif_i (fun _ => ?_) (fun h => by simp at h)⟩
    refine (c_ints06 (hio.nob hc3) (hia.nob hc3) (by omega)).mono ?_
    rintro e w59 ⟨rfl, hc4⟩
    exact ⟨_, rfl, by simp, hs.nob (hc3.trans hc4), hch.trans (hc3.trans hc4).weak⟩
end Cut
end Go.Proofs.YtledchlbmilneaaDoor
