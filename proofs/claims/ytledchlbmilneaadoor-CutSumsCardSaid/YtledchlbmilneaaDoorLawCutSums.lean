/-
The law CutSums: what is told of a road is what its nodes have.
Conditions: the package variable of errors is laid out; the acts can be read.
-/
import Derived.Test.YtledchlbmilneaaDoorLawCutNew
import Derived.Test.YtledchlbmilneaaDoorGTold
namespace Go.Proofs.YtledchlbmilneaaDoor
open Go Go.RowKit
set_option linter.unusedVariables false
set_option linter.unusedSimpArgs false
namespace Cut
open Go.Proofs.YtledchlbmilneaaDoor.Seq
theorem c_CutSums {w : World} {n x y : Int} {sb : Option Addr} {sl sc : Nat} {f : Nat → Nat → Int} (hg : LaidG w) (hf : CA w sb sl 4 f) (hfw : ∀ i, i < sl → -9223372036854775808 ≤ f i 3 ∧ f i 3 ≤ 9223372036854775807) :
    Calls Pg fn_plaitlaw06_CutSums #[.int .i64 n, .slice sb sl sc, .agg #[.int .i64 x, .int .i64 y]] w fun e w' => e = .returned (.bool true) ∧ Chg Nobody w w' := by
  refine (calls_plaitlaw06_CutSums _ _ _ _ _ _ _ (fun v' w' => v' = .bool true ∧ Chg Nobody w w') ?_).mono (by rintro e w' ⟨v, rfl, rfl, k⟩; exact ⟨rfl, k⟩)
  unfold sh_plaitlaw06_CutSums
  refine alo_r fun hrow => ⟨by decide, ?_⟩
  have hch : Chg Nobody w (w.alloc (.cells #[.int .i64 x, .int .i64 y] T__2int)) := (Chg.refl _ _).alloc _
  have hf1 := hf.nob hch
  obtain ⟨m, hm0, hm1, he⟩ := size_ex n 1 30 (by omega) (by omega) (by omega)
  rw [he]
  have hg1 := hg.chg hch (fun h => h)
  generalize w.heap.size = C at *
  generalize w.alloc (.cells #[.int .i64 x, .int .i64 y] T__2int) = w5 at *
  refine (c_grown (m := m) (sc := sc) (by omega) (by omega) hf1 hfw).mono ?_
  rintro e w8 ⟨F, L, B, v, E, rfl, hs, hv, hBL, _, _⟩
  replace hrow := hs.c.row (fun h => h) hrow
  refine ⟨_, _, _, _, rfl, bif_i (fun h => by cases h) (fun _ => ?_)⟩
  refine ixA_i (by omega) (ldI_r hrow rfl ?_)
  obtain ⟨hz1, a, ha, hae⟩ := idx_ex x (show 0 < m by omega) (by omega)
  refine ⟨hz1, ixA_i (by omega) (ldI_r hrow rfl ?_)⟩
  obtain ⟨hz2, b, hb, hbe⟩ := idx_ex y (show 0 < m by omega) (by omega)
  refine ⟨hz2, ?_⟩
  rw [hae, hbe]
  replace hs := hs.drew
  replace hv : Row w8.drew.heap B T_int64 (nums m v) := hv
  clear hrow
  generalize w8.drew = w9 at *
  have fin : ∀ {w' : World}, Chg Nobody w5 w' → Calls Pg fn_plaitlaw06_sure #[] w' fun e w'' => e = .returned (.bool true) ∧ Chg Nobody w w'' := fun hc => n_sure06 hg (hch.trans hc)
  have hm := hs.a.small
  by_cases hw : ∃ l, Way E a b l
  · obtain ⟨l, hw⟩ := hw
    obtain ⟨hlt, hll, hl0, _⟩ := hs.a.way ha hw
    have hLt := hs.a.lt
    refine (op_Road hs ha hb hw).mono ?_
    rintro e w16 ⟨ob, oc, rfl, hia, hoB, hoc, hs, hce⟩
    have hoL : ∀ k, bk ob = some k → k ≠ L := fun k hk => by have := hoB k hk; omega
    replace hv := hce.c.row hBL hv
    refine ⟨_, _, _, _, rfl, (c_Same hs.a ha hb).mono ?_⟩
    rintro e w20 ⟨t, rfl, ht, hce⟩
    replace hs := hs.step hce
    replace hia := ia_ce hia hoL hce
    replace hv := hce.c.row hBL hv
    obtain rfl := ht.2 ⟨l, hw⟩
    refine ⟨_, _, rfl, fun _ w' => w' = w20, err_i (fun e => absurd rfl e) (fun _ => ⟨errV_isI _, bif_i (fun h => absurd h (by decide)) (fun _ => rfl)⟩), ?_⟩
    rintro _ w23 rfl
    refine bif_i (fun h => by cases h) (fun _ => ?_)
    refine (c_Len hs.a ha hb hw).mono ?_
    rintro e w35 ⟨rfl, hce⟩
    replace hs := hs.step hce
    replace hia := ia_ce hia hoL hce
    replace hv := hce.c.row hBL hv
    refine ⟨_, _, rfl, (c_Sum hs.a ha hb hw).mono ?_⟩
    rintro e w39 ⟨rfl, hce⟩
    replace hs := hs.step hce
    replace hia := ia_ce hia hoL hce
    replace hv := hce.c.row hBL hv
    refine ⟨_, _, rfl, (c_Least hs.a ha hb hw).mono ?_⟩
    rintro e w43 ⟨⟨z1, hz1, rfl⟩, hce⟩
    replace hs := hs.step hce
    replace hia := ia_ce hia hoL hce
    replace hv := hce.c.row hBL hv
    refine ⟨_, _, rfl, (c_Most hs.a ha hb hw).mono ?_⟩
    rintro e w47 ⟨⟨z2, hz2, rfl⟩, hce⟩
    replace hs := hs.step hce
    replace hia := ia_ce hia hoL hce
    replace hv := hce.c.row hBL hv
    refine ⟨_, _, rfl, errV_isI _, bif_i (fun _ => ⟨errV_isI _, bif_i (fun _ => ⟨errV_isI _, bif_i (fun _ => ⟨errV_isI _, bif_i (fun _ => ?_) (fun h => absurd h (by decide))⟩) (fun h => absurd h (by decide))⟩) (fun h => absurd h (by decide))⟩) (fun h => absurd h (by decide))⟩
    refine bif_i (fun _ => ?_) (fun h => ?_)
    case refine_2 => simp only [b1s] at h; omega
    refine bif_i (fun _ => ?_) (fun h => by simp at h)
    have hvi := ia_nums hv
    refine (c_rSum (vc := m) hia hvi hlt (by omega)).mono ?_
    rintro e w50 ⟨rfl, hc1⟩
    refine ⟨_, rfl, bif_i (fun _ => ?_) (fun h => by simp at h)⟩
    refine (c_rLeast (vc := m) (hia.nob hc1) (hvi.nob hc1) hlt (by omega) (by omega)).mono ?_
    rintro e w53 ⟨⟨u1, hu1, rfl⟩, hc2⟩
    obtain rfl := hz1.uniq hu1
    replace hc2 := hc1.trans hc2
    refine ⟨_, rfl, bif_i (fun _ => ?_) (fun h => by simp at h)⟩
    refine (c_rMost (vc := m) (hia.nob hc2) (hvi.nob hc2) hlt (by omega) (by omega)).mono ?_
    rintro e w56 ⟨⟨u2, hu2, rfl⟩, hc3⟩
    obtain rfl := hz2.uniq hu2
    replace hc3 := hc2.trans hc3
    refine ⟨_, rfl, bif_i (fun _ => ?_) (fun h => by simp at h)⟩
    refine (fin (hs.c.trans hc3)).mono ?_
    rintro e w59 ⟨rfl, hc⟩
    exact ⟨_, rfl, rfl, hc⟩
  · refine (c_Road_no hs.a ha hb hw).mono ?_
    rintro e w16 ⟨rfl, hce⟩
    replace hs := hs.step hce
    refine ⟨_, _, _, _, rfl, (c_Same hs.a ha hb).mono ?_⟩
    rintro e w20 ⟨t, rfl, ht, hce⟩
    replace hs := hs.step hce
    have htf : t = false := by cases t; rfl; exact absurd (ht.1 rfl) hw
    subst htf
    refine ⟨_, _, rfl, fun _ w' => w' = w20, err_i (fun e => absurd rfl e) (fun _ => ⟨errV_isI _, bif_i (fun h => absurd h (by decide)) (fun _ => rfl)⟩), ?_⟩
    rintro _ w23 rfl
    refine bif_i (fun _ => ?_) (fun h => by cases h)
    refine ⟨fun vs w' => vs = [.bool true] ∧ Chg Nobody w w', ?_, ?_⟩
    · refine (c_num06 (hs.g hg1)).mono ?_
      rintro e w26 ⟨rfl, hc⟩
      refine ⟨_, rfl, bif_i (fun _ => (fin (hs.c.trans hc)).mono ?_) (fun h => absurd h (by decide))⟩
      rintro e w29 ⟨rfl, hc⟩
      exact ⟨_, rfl, rfl, hc⟩
    · rintro _ b31 w32 ⟨ht, hc⟩
      simp only [List.cons.injEq, Value.bool.injEq, and_true] at ht
      subst ht
      exact ⟨rfl, hc⟩
end Cut
end Go.Proofs.YtledchlbmilneaaDoor
