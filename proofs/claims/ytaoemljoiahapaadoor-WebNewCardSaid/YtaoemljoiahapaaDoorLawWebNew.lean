/-
The law WebNew: of how many items and ties there can be a web; nothing of a nil one.
Conditions: the package variable of errors is laid out; the numbers are of their kind.
-/
import Derived.Test.YtaoemljoiahapaaDoorWebN
import Derived.Test.YtaoemljoiahapaaDoorGToldW
namespace Go.Proofs.YtaoemljoiahapaaDoor
open Go Go.RowKit
set_option linter.unusedVariables false
set_option linter.unusedSimpArgs false
namespace Web
open Go.Proofs.YtaoemljoiahapaaDoor.Seq Go.Proofs.YtaoemljoiahapaaDoor.Cut
theorem c_WebNew {w : World} {n m : Int} (hg : LaidG w) (hn : -9223372036854775808 ≤ n ∧ n ≤ 9223372036854775807) (hm : -9223372036854775808 ≤ m ∧ m ≤ 9223372036854775807) :
    Calls Pg fn_plaitlaw14_WebNew #[.int .i64 n, .int .i64 m] w fun e w' => e = .returned (.bool true) ∧ Chg Nobody w w' := by
  refine (calls_plaitlaw14_WebNew _ _ _ (fun v' w' => v' = .bool true ∧ Chg Nobody w w') ?_).mono (by rintro e w' ⟨v, rfl, rfl, k⟩; exact ⟨rfl, k⟩)
  unfold sh_plaitlaw14_WebNew
  have num : ∀ {w1 : World} {c : Int} {K : Int → World → Prop}, Chg Nobody w w1 → (∀ w2, Chg Nobody w w2 → K c w2) → Calls Pg fn_plaitlaw14_num #[errV c] w1 fun e w2 => ∃ q : Int, e = .returned (.int .i64 q) ∧ K q w2 := fun hc hk =>
    (c_num14 (hg.chg hc (fun h => h))).mono fun e w2 ⟨he, hc2⟩ => ⟨_, he, hk w2 (hc.trans hc2)⟩
  have sure : ∀ {w1 : World}, Chg Nobody w w1 → Calls Pg fn_plaitlaw14_sure #[] w1 fun e w2 => ∃ b : Bool, e = .returned (.bool b) ∧ (Value.bool b = .bool true ∧ Chg Nobody w w2) := fun hc =>
    (c_sure14 (hg.chg hc (fun h => h))).mono fun e w2 ⟨he, hc2⟩ => ⟨true, he, rfl, hc.trans hc2⟩
  refine w_Same_nil.mono ?_
  rintro e w4 ⟨rfl, h4⟩
  refine ⟨_, _, rfl, w_Linked_nil.mono ?_⟩
  rintro e w8 ⟨rfl, rfl⟩
  refine ⟨_, _, rfl, w_Weakest_nil.mono ?_⟩
  rintro e w12 ⟨rfl, rfl⟩
  refine ⟨_, _, rfl, w_Walk_nil.mono ?_⟩
  rintro e w16 ⟨rfl, h16⟩
  have hc := h4.trans h16
  refine ⟨_, _, _, _, rfl, fun _ w' => Chg Nobody w w', ?_, ?_⟩
  · refine num hc fun w20 hc => bif_i (fun h => by simp at h) (fun _ => num hc fun w23 hc => bif_i (fun h => by simp at h) (fun _ => num hc fun w26 hc => bif_i (fun h => by simp at h) (fun _ => num hc fun w29 hc => bif_i (fun h => by simp at h) (fun _ => ?_))))
    refine w_Split_nil.mono ?_
    rintro e w32 ⟨rfl, k⟩
    refine ⟨_, rfl, num (hc.trans k) fun w35 hc => bif_i (fun h => by simp at h) (fun _ => ?_)⟩
    refine w_Merge_nil.mono ?_
    rintro e w38 ⟨rfl, rfl⟩
    refine ⟨_, rfl, num hc fun w41 hc => bif_i (fun h => by simp at h) (fun _ => ?_)⟩
    refine w_Apart_nil.mono ?_
    rintro e w44 ⟨rfl, k⟩
    refine ⟨_, rfl, num (hc.trans k) fun w47 hc => bif_i (fun h => by simp at h) (fun _ => ?_)⟩
    refine w_Tie_nil.mono ?_
    rintro e w50 ⟨rfl, rfl⟩
    refine ⟨_, rfl, num hc fun w53 hc => bif_i (fun h => by simp at h) (fun _ => ?_)⟩
    refine w_Untie_nil.mono ?_
    rintro e w56 ⟨rfl, rfl⟩
    refine ⟨_, rfl, num hc fun w59 hc => bif_i (fun h => by simp at h) (fun _ => ?_)⟩
    refine w_Tied_nil.mono ?_
    rintro e w62 ⟨rfl, rfl⟩
    exact ⟨_, rfl, bif_i (fun h => by cases h) (fun _ => hc)⟩
  clear hc h16 h4
  rintro _ w64 hc
  refine ⟨fun vs w' => vs = [.bool (decide ((1 ≤ n ∧ n ≤ 4194304) ∧ 1 ≤ m ∧ m ≤ 1048576))] ∧ w' = w64, ?_, ?_⟩
  · refine bif_i (fun h1 => bif_i (fun h2 => bif_i (fun h3 => ⟨?_, rfl⟩) (fun h3 => ⟨?_, rfl⟩)) (fun h2 => ⟨?_, rfl⟩)) (fun h1 => ⟨?_, rfl⟩) <;> simp only [b1s] at *
    · congr 2
      rw [decide_eq_decide]
      omega
    all_goals
      rw [decide_eq_false]
      omega
  rintro _ b66 w67 ⟨hvs, rfl⟩
  simp only [List.cons.injEq, Value.bool.injEq, and_true] at hvs
  subst hvs
  by_cases ok : (1 ≤ n ∧ n ≤ 4194304) ∧ 1 ≤ m ∧ m ≤ 1048576
  · rw [decide_eq_true ok]
    refine ⟨fun _ w' => w' = w67 ∧ n ≤ 2000 ∧ m ≤ 2000, bif_i (fun _ => bif_i (fun _ => sure hc) (fun h1 => bif_i (fun _ => sure hc) (fun h2 => ?_))) (fun h => by cases h), ?_⟩
    · simp only [b1s] at h1 h2
      exact ⟨rfl, by omega, by omega⟩
    rintro _ w75 ⟨rfl, hn2, hm2⟩
    obtain ⟨n, rfl⟩ := Int.eq_ofNat_of_zero_le (show 0 ≤ n by omega)
    obtain ⟨m, rfl⟩ := Int.eq_ofNat_of_zero_le (show 0 ≤ m by omega)
    refine (w_New (n := n) (t := m) (by omega) (by omega) (by omega) (by omega)).mono ?_
    rintro e w78 ⟨W, R, F, L, CF, CL, EB, rfl, k, hb, hw⟩
    have hL : LW w75 w78 W R F L CF CL EB n m (ones n) (fun _ => none) (fun _ => 0) := ⟨k, hb, hw⟩
    refine ⟨_, _, rfl, bif_i (fun h => by cases h) (fun _ => ?_)⟩
    rw [wrap64_in (x := (n : Int) - 1) (by omega) (by omega), wrap64_in (x := (m : Int) - 1) (by omega) (by omega), show (n : Int) - 1 = ((n - 1 : Nat) : Int) by omega, show (m : Int) - 1 = ((m - 1 : Nat) : Int) by omega]
    have hi : (ones n)[n - 1]? = some [n - 1] := by
      unfold ones
      rw [List.getElem?_map, List.getElem?_range (by omega)]; rfl
    have hp := wo_perm1 hi
    refine (w_Walk (x := n - 1) (pre := []) (post := []) (hL.a.perm hp)).mono ?_
    rintro e w91 ⟨ob, oc, rfl, hown, hws⟩
    have hL := hL.step hws
    have hlts := hL.a.lts
    refine ⟨_, _, _, _, rfl, errV_isI _, bif_i (fun _ => ⟨errV_isI _, bif_i (fun _ => ?_) (fun h => absurd h (by decide))⟩) (fun h => absurd h (by decide))⟩
    refine alo_r fun hr => ?_
    have hL := hL.nob ((Chg.refl _ _).alloc (.cells #[.int .i64 ((n - 1 : Nat) : Int)] T_int))
    have hia : IA w91 ob 1 [((n - 1 : Nat) : Int)] := IA.of_own hown (by simp [ivs])
    refine (c_ints14 (hia.alloc (.cells #[.int .i64 ((n - 1 : Nat) : Int)] T_int)) (IA.of_row (A := [((n - 1 : Nat) : Int)]) hr) (by decide)).mono ?_
    rintro e w96 ⟨rfl, k⟩
    have hL := hL.nob k
    refine ⟨_, rfl, bif_i (fun _ => ?_) (fun h => by simp at h)⟩
    refine (w_Untie_no (e := m - 1) hL.a (by omega) rfl).mono ?_
    rintro e w99 ⟨rfl, hws⟩
    have hL := hL.step hws
    refine ⟨_, rfl, (c_num14 ((hg.chg (hc.trans hL.c) (fun h => h)))).mono ?_⟩
    rintro e w102 ⟨rfl, k⟩
    have hL := hL.nob k
    refine ⟨_, rfl, bif_i (fun _ => ?_) (fun h => by simp at h)⟩
    refine (w_Untie_bad hL.a (by omega)).mono ?_
    rintro e w105 ⟨rfl, hws⟩
    have hL := hL.step hws
    exact ⟨_, rfl, num (hc.trans hL.c) fun w108 hc108 => bif_i (fun _ => sure hc108) (fun h => by simp at h)⟩
  · rw [decide_eq_false ok]
    refine ⟨fun _ w' => w' = w67, bif_i (fun h => by cases h) (fun _ => rfl), ?_⟩
    rintro _ w75 rfl
    refine (w_New_bad ok).mono ?_
    rintro e w78 ⟨rfl, rfl⟩
    refine ⟨_, _, rfl, bif_i (fun _ => ⟨fun vs w' => vs = [.bool true] ∧ Chg Nobody w w', ?_, ?_⟩) (fun h => by cases h)⟩
    · refine num hc fun w82 hc => bif_i (fun _ => bif_i (fun _ => ?_) (fun h => by cases h)) (fun h => by simp at h)
      exact (c_sure14 (hg.chg hc (fun h => h))).mono fun e w2 ⟨he, hc2⟩ => ⟨true, he, rfl, hc.trans hc2⟩
    · rintro _ b87 w88 ⟨hvs, hc⟩
      simp only [List.cons.injEq, Value.bool.injEq, and_true] at hvs
      subst hvs
      exact ⟨rfl, hc⟩
end Web
end Go.Proofs.YtaoemljoiahapaaDoor
