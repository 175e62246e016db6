/-
Places that are given (layers 2 and 3's program), as far as a new state needs them: new ones, and none.
Conditions: those that each theorem states.
-/
import Derived.Test.YtdamhidnlfjkdaaGreatDoorGTurn
import Derived.Test.YtdamhidnlfjkdaaGreatDoorVals
import Derived.Test.YtdamhidnlfjkdaaGreatDoorShSlots
import Derived.Test.YtdamhidnlfjkdaaGreatDoorShArena
import Derived.Test.YtdamhidnlfjkdaaGreatDoorShSlices
import Derived.Test.YtdamhidnlfjkdaaGreatDoorShSphere
import Derived.Test.YtdamhidnlfjkdaaGreatDoorShUnite
import Derived.Test.YtdamhidnlfjkdaaGreatDoorShFace
import Derived.Laws.IdiomRangeMap
import Derived.Test.YtdamhidnlfjkdaaGreatDoorShModel
import Derived.Test.YtdamhidnlfjkdaaGreatDoorShLoad
import Derived.Laws.BytesArg
namespace Go.Proofs.YtdamhidnlfjkdaaGreatDoor
open Go Go.RowKit
set_option linter.unusedVariables false
set_option linter.unusedSimpArgs false
namespace Core
open Go.Proofs.YtdamhidnlfjkdaaGreatDoor.Seq Go.Proofs.YtdamhidnlfjkdaaGreatDoor.Cut Go.Proofs.YtdamhidnlfjkdaaGreatDoor.Web
section
variable {w w' : World}
theorem et_level : ET Pg T_sl_slots_level T_slots_level 1 24 := ET.of (by kernel_rfl) (by kernel_rfl)
theorem sl_words {n : Int} (h0 : 0 ≤ n) (h1 : n ≤ 1048576) : Calls Pg fn_slots_words #[.int .i64 n] w fun r w' => r = .returned (.int .i64 ((n + 63) / 64)) ∧ w' = w := by
  refine (calls_slots_words _ _ (fun v' w' => v' = .int .i64 ((n + 63) / 64) ∧ w' = w) ?_).mono (by rintro e w' ⟨v, rfl, rfl, k⟩; exact ⟨rfl, k⟩)
  unfold sh_slots_words
  rw [wrap64_in (x := n + 64) (by omega) (by omega), wrap64_in (x := n + 64 - 1) (by omega) (by omega), Int.tdiv_eq_ediv_of_nonneg (by omega), wrap64_in (by omega) (by omega), show n + 64 - 1 = n + 63 by omega]
  exact ⟨by decide, rfl, rfl⟩
theorem sl_New {n : Int} (h0 : 1 ≤ n) (h1 : n ≤ 1048576) : Calls Pg fn_slots_New #[.int .i64 n] w fun r w' => ∃ S, r = .returned (.tuple #[.pointer (some ⟨S, 0, none⟩), errV 0]) ∧ Chg Nobody w w' := by
  refine (calls_slots_New _ _ (fun v' w' => ∃ S, v' = .tuple #[.pointer (some ⟨S, 0, none⟩), errV 0] ∧ Chg Nobody w w') ?_).mono (by rintro e w' ⟨v, rfl, S, rfl, k⟩; exact ⟨S, rfl, k⟩)
  unfold sh_slots_New
  refine ⟨fun _ w' => w' = w, ?_, ?_⟩
  · refine bif_i (fun h => ?_) (fun _ => bif_i (fun h => ?_) (fun _ => rfl)) <;> simp only [b1s] at h <;> omega
  rintro _ w2 rfl
  refine alo_r fun r0 => ?_
  have hc0 : Chg Nobody w2 (w2.alloc (.cells #[.int .i64 n, .int .i64 0, .slice none 0 0] T_slots_Slots)) := (Chg.refl _ _).alloc _
  have hs0 : (w2.alloc (.cells #[.int .i64 n, .int .i64 0, .slice none 0 0] T_slots_Slots)).heap.size = w2.heap.size + 1 := al_sz _ _
  generalize w2.alloc (.cells #[.int .i64 n, .int .i64 0, .slice none 0 0] T_slots_Slots) = w4 at *
  generalize hS : w2.heap.size = S at *
  let J : Nat → List Value → World → Prop := fun j vs w' => ∃ (m : Int) (b : Option Addr) (l c : Nat) (xs : List Value), vs = [.int .i64 m] ∧ 1 ≤ m ∧ m + l ≤ n ∧ Chg Nobody w2 w' ∧ S + 1 ≤ w'.heap.size ∧ Row w'.heap S T_slots_Slots [.int .i64 n, .int .i64 0, .slice b l c] ∧ Own w' (S + 1) T_slots_level 1 b l c xs ∧ j = m.toNat
  refine ⟨LI J, LM J, ⟨_, n, none, 0, 0, [], rfl, h0, by omega, hc0, by omega, r0, Own.nil, rfl⟩, ?_⟩
  intro _ m w8 hJ
  obtain ⟨m, b, l, c, xs, hvs, hm0, hml, hc, hs8, hr, ho, hj⟩ := hJ.at
  simp only [List.cons.injEq, Value.int.injEq, and_true, true_and] at hvs
  subst hvs
  refine (sl_words (by omega) (by omega)).mono ?_
  rintro r w10 ⟨rfl, rfl⟩
  obtain ⟨k, hk⟩ : ∃ k : Nat, (m + 63) / 64 = k := ⟨((m + 63) / 64).toNat, by omega⟩
  rw [hk]
  refine ⟨_, rfl, by omega, Int.le_refl _, by omega, alo_r fun r1 => ?_⟩
  have et : Int.toNat (k : Int) = k := rfl
  rw [et] at r1 ⊢
  rw [zerosOf_recs] at r1
  have hc1 : Chg Nobody w10 (w10.alloc (.cells (zerosOf #[.int .u64 0] k) T_uint64)) := (Chg.refl _ _).alloc _
  have hs1 : (w10.alloc (.cells (zerosOf #[.int .u64 0] k) T_uint64)).heap.size = w10.heap.size + 1 := al_sz _ _
  generalize w10.alloc (.cells (zerosOf #[.int .u64 0] k) T_uint64) = w13 at *
  refine ⟨fun _ w' => Chg (· = w10.heap.size) w13 w', ?_, ?_⟩
  · refine ⟨by decide, bif_i (fun _ => ?_) (fun _ => Chg.refl _ _)⟩
    have ht : 0 ≤ Int.tmod m 64 := by rw [Int.tmod_eq_emod_of_nonneg (by omega)]; omega
    rw [wrap64_in (by omega) (by omega), show (k : Int) - 1 = ((k - 1 : Nat) : Int) by omega]
    refine ⟨ht, ixS_i (by omega) ?_⟩
    rw [Nat.zero_add, Nat.mul_one]
    exact sto_r r1 (by rw [recs_length (sz := 1) _ (fun _ => rfl)]; omega) rfl fun _ => (Chg.refl _ _).setCell _ _ (.inl rfl)
  intro _ w17 hc17
  have hcc : Chg Nobody w10 w17 := hc1.trans' hc17 fun i e => .inr (by omega)
  have hs17 := hc17.size
  rw [add_mk]
  refine ldS_r (hcc.row (fun h => h) hr) rfl (alo_r fun r2 => ?_)
  have hc2 : Chg Nobody w10 (w17.alloc (.cells #[.slice (some ⟨w10.heap.size, 0, none⟩) k k] T_slots_level)) := hcc.alloc _
  have hs2 : (w17.alloc (.cells #[.slice (some ⟨w10.heap.size, 0, none⟩) k k] T_slots_level)).heap.size = w17.heap.size + 1 := al_sz _ _
  generalize w17.alloc (.cells #[.slice (some ⟨w10.heap.size, 0, none⟩) k k] T_slots_level) = w20 at *
  have ho2 := ho.chg hc2 fun _ _ _ h => h
  obtain ⟨b', c', w22, hrun, ho3, hc3, _⟩ := own_append2 (ty := T_sl_slots_level) et_level ho2 r2 rfl (by intro u hu; simp at hu; subst hu; rfl) (by omega) (by omega) (by omega)
  refine ⟨b', l + 1, c', w22, hrun, ?_⟩
  have hc4 : Chg Nobody w2 w22 := (hc.trans hc2).trans' hc3 fun i e => .inr (by have := (ho2.bk_lt e).1; omega)
  have hr3 := hc3.row (fun e => by have := (ho2.bk_lt e).1; omega) (hc2.row (fun h => h) hr)
  have hs3 := hc3.size
  refine sto_r hr3 (by simp) rfl fun hr4 => ?_
  have hc5 : Chg Nobody w2 (w22.setCell ⟨S, 0 + 2, none⟩ (.slice b' (l + 1) c')) := hc4.setCell _ _ (.inr (show w2.heap.size ≤ S by omega))
  have hc6 : Chg (· = S) w22 (w22.setCell ⟨S, 0 + 2, none⟩ (.slice b' (l + 1) c')) := (Chg.refl _ _).setCell _ _ (.inl rfl)
  have ho4 := ho3.chg hc6 fun g hg _ e => by omega
  have hs4 := hc6.size
  generalize w22.setCell ⟨S, 0 + 2, none⟩ (.slice b' (l + 1) c') = w23 at *
  refine bif_i (fun hle => ⟨S, rfl, hc5⟩) (fun hle => ?_) <;> simp only [b1s] at hle
  refine (sl_words (by omega) (by omega)).mono ?_
  rintro r w25 ⟨rfl, rfl⟩
  refine ⟨_, rfl, LI.again (k := k) ⟨(m + 63) / 64, b', l + 1, c', _, rfl, by omega, by omega, hc5, by omega, hr4, ho4, by rw [hk]; rfl⟩ (by rw [hj]; omega)⟩
theorem sl_New_bad {n : Int} (h : ¬ (1 ≤ n ∧ n ≤ 1048576)) : Calls Pg fn_slots_New #[.int .i64 n] w fun r w' => r = .returned (.tuple #[.pointer none, errV 1]) ∧ w' = w := by
  refine (calls_slots_New _ _ (fun v' w' => v' = .tuple #[.pointer none, errV 1] ∧ w' = w) ?_).mono (by rintro e w' ⟨v, rfl, rfl, k⟩; exact ⟨rfl, k⟩)
  unfold sh_slots_New
  refine ⟨fun _ _ => False, ?_, fun _ _ h => h.elim⟩
  refine bif_i (fun h => ⟨rfl, rfl⟩) (fun h1 => bif_i (fun h => ⟨rfl, rfl⟩) (fun h2 => ?_))
  simp only [b1s] at h1 h2
  omega
/-- An arena of which nothing was ever given. -/
def arow (n S : Nat) : List Value := [.int .i64 n, .slice none 0 0, .pointer (some ⟨S, 0, none⟩), .int .i64 0]
theorem ar_New {n : Nat} (h0 : 1 ≤ n) (h1 : n ≤ 1048576) : Calls Pg fn_arena_New #[.int .i64 n] w fun r w' => ∃ A S, r = .returned (.tuple #[.pointer (some ⟨A, 0, none⟩), errV 0]) ∧ Chg Nobody w w' ∧ w.heap.size ≤ A ∧ Row w'.heap A T_arena_Arena (arow n S) := by
  refine (calls_arena_New _ _ (fun v' w' => ∃ A S, v' = .tuple #[.pointer (some ⟨A, 0, none⟩), errV 0] ∧ Chg Nobody w w' ∧ w.heap.size ≤ A ∧ Row w'.heap A T_arena_Arena (arow n S)) ?_).mono (by rintro e w' ⟨v, rfl, A, S, rfl, k⟩; exact ⟨A, S, rfl, k⟩)
  unfold sh_arena_New
  refine (sl_New (by omega) (by omega)).mono ?_
  rintro r w3 ⟨S, rfl, hc⟩
  refine ⟨_, _, rfl, err_i (fun e => absurd rfl e) (fun _ => alo_r fun r1 => ⟨_, S, rfl, hc.alloc _, hc.size, r1⟩)⟩
theorem ar_New_bad {n : Int} (h : ¬ (1 ≤ n ∧ n ≤ 1048576)) : Calls Pg fn_arena_New #[.int .i64 n] w fun r w' => r = .returned (.tuple #[.pointer none, errV 1]) ∧ w' = w := by
  refine (calls_arena_New _ _ (fun v' w' => v' = .tuple #[.pointer none, errV 1] ∧ w' = w) ?_).mono (by rintro e w' ⟨v, rfl, rfl, k⟩; exact ⟨rfl, k⟩)
  unfold sh_arena_New
  refine (sl_New_bad h).mono ?_
  rintro r w3 ⟨rfl, rfl⟩
  exact ⟨_, _, rfl, err_i (fun _ => ⟨rfl, rfl⟩) (fun e => absurd e (by decide))⟩
theorem clone_nil : Calls Pg fn_slices_Clone__arena_Placearena_Place #[.slice none 0 0] w fun r w' => r = .returned (.slice none 0 0) ∧ w' = w := by
  refine (calls_slices_Clone__arena_Placearena_Place _ _ _ _ (fun v' w' => v' = .slice none 0 0 ∧ w' = w) ?_).mono (by rintro e w' ⟨v, rfl, rfl, k⟩; exact ⟨rfl, k⟩)
  unfold sh_slices_Clone__arena_Placearena_Place
  exact bif_i (fun _ => ⟨rfl, rfl⟩) (fun h => by cases h)
theorem ar_Places {A n S : Nat} (h : Row w.heap A T_arena_Arena (arow n S)) : Calls Pg fn_arena_Arena_Places #[.pointer (some ⟨A, 0, none⟩)] w fun r w' => r = .returned (.slice none 0 0) ∧ w' = w := by
  refine (calls_arena_Arena_Places _ _ (fun v' w' => v' = .slice none 0 0 ∧ w' = w) ?_).mono (by rintro e w' ⟨v, rfl, rfl, k⟩; exact ⟨rfl, k⟩)
  unfold sh_arena_Arena_Places
  refine bif_i (fun h => by cases h) (fun _ => pt_i (ldS_r h rfl (clone_nil.mono ?_)))
  rintro r w4 ⟨rfl, rfl⟩
  exact ⟨_, _, _, rfl, rfl, rfl⟩
theorem ar_Len {A n S : Nat} (h : Row w.heap A T_arena_Arena (arow n S)) : Calls Pg fn_arena_Arena_Len #[.pointer (some ⟨A, 0, none⟩)] w fun r w' => r = .returned (.int .i64 0) ∧ w' = w := by
  refine (calls_arena_Arena_Len _ _ (fun v' w' => v' = .int .i64 0 ∧ w' = w) ?_).mono (by rintro e w' ⟨v, rfl, rfl, k⟩; exact ⟨rfl, k⟩)
  unfold sh_arena_Arena_Len
  exact bif_i (fun h => by cases h) (fun _ => pt_i (ldI_r h rfl ⟨rfl, rfl⟩))
theorem has_nil : Calls Pg fn_slices_ContainsFunc__arena_Placearena_Place #[.slice none 0 0, .func (.func fn_arena_odd) #[] #[]] w fun r w' => r = .returned (.bool false) ∧ w' = w := by
  refine (calls_slices_ContainsFunc__arena_Placearena_Place _ _ _ _ _ (fun v' w' => v' = .bool false ∧ w' = w) ?_).mono (by rintro e w' ⟨v, rfl, rfl, k⟩; exact ⟨rfl, k⟩)
  unfold sh_slices_ContainsFunc__arena_Placearena_Place
  refine (calls_slices_IndexFunc__arena_Placearena_Place _ _ _ _ _ (fun v' w' => v' = .int .i64 (-1) ∧ w' = w) ?_).mono ?_
  · unfold sh_slices_IndexFunc__arena_Placearena_Place
    refine ⟨fun vs w' => w' = w ∧ vs = [.int .i64 0], fun _ _ => 0, ⟨rfl, rfl⟩, ?_⟩
    rintro _ i w5 ⟨rfl, hi⟩
    simp only [List.cons.injEq, Value.int.injEq, and_true, true_and] at hi
    subst hi
    exact bif_i (fun h => by simp only [b1s] at h; omega) (fun _ => ⟨rfl, rfl⟩)
  · rintro r w3 ⟨v, rfl, rfl, rfl⟩
    exact ⟨_, rfl, rfl, rfl⟩
theorem ar_Load {n : Nat} (h0 : 1 ≤ n) (h1 : n ≤ 1048576) : Calls Pg fn_arena_Load #[.int .i64 n, .slice none 0 0] w fun r w' => ∃ A, r = .returned (.tuple #[.pointer (some ⟨A, 0, none⟩), errV 0]) ∧ Chg Nobody w w' := by
  refine (calls_arena_Load _ _ _ _ _ (fun v' w' => ∃ A, v' = .tuple #[.pointer (some ⟨A, 0, none⟩), errV 0] ∧ Chg Nobody w w') ?_).mono (by rintro e w' ⟨v, rfl, A, rfl, k⟩; exact ⟨A, rfl, k⟩)
  unfold sh_arena_Load
  refine (ar_New h0 h1).mono ?_
  rintro r w4 ⟨A, S, rfl, hc, hA, hr⟩
  refine ⟨_, _, rfl, err_i (fun e => absurd rfl e) (fun _ => ⟨fun _ w' => w' = w4, ?_, ?_⟩)⟩
  · refine bif_i (fun h => by simp only [b1s] at h; omega) (fun _ => has_nil.mono ?_)
    rintro r w8 ⟨rfl, rfl⟩
    exact ⟨_, rfl, bif_i (fun h => by cases h) (fun _ => bif_i (fun h => by simp only [b1s] at h; omega) (fun _ => rfl))⟩
  rintro _ w12 rfl
  refine clone_nil.mono ?_
  rintro r w14 ⟨rfl, rfl⟩
  refine ⟨_, _, _, rfl, pt_i ?_⟩
  rw [add_mk]
  refine sto_r hr (by simp [arow]) rfl fun hr2 => ?_
  have hc2 : Chg Nobody w (w14.setCell ⟨A, 0 + 1, none⟩ (.slice none 0 0)) := hc.setCell _ _ (.inr hA)
  generalize w14.setCell ⟨A, 0 + 1, none⟩ (.slice none 0 0) = w17 at *
  refine ⟨fun vs w' => w' = w17 ∧ vs = [.int .i64 0], fun _ _ => 0, ⟨rfl, rfl⟩, ?_⟩
  rintro _ i w21 ⟨rfl, hi⟩
  simp only [List.cons.injEq, Value.int.injEq, and_true, true_and] at hi
  subst hi
  exact bif_i (fun h => by simp only [b1s] at h; omega) (fun _ => ⟨A, rfl, hc2⟩)
end
end Core
end Go.Proofs.YtdamhidnlfjkdaaGreatDoor
/-
Whether a map without anything lies on a sphere (layers 7, 10, 11, 12's program).
Conditions: those that each theorem states.
-/
namespace Go.Proofs.YtdamhidnlfjkdaaGreatDoor
open Go Go.RowKit
set_option linter.unusedVariables false
set_option linter.unusedSimpArgs false
namespace Core
open Go.Proofs.YtdamhidnlfjkdaaGreatDoor.Seq Go.Proofs.YtdamhidnlfjkdaaGreatDoor.Cut Go.Proofs.YtdamhidnlfjkdaaGreatDoor.Web
section
variable {w w' : World} {T TD TL TM N : Nat} {tl : Nat → List Nat} {ob : Option Addr} {oc : Nat}
theorem t_Sizes (h : TB w.heap T TD TL TM N tl) : Calls Pg fn_turn_Turns_Sizes #[.pointer (some ⟨T, 0, none⟩)] w fun r w' => r = .returned (.tuple #[.int .i64 N, .int .i64 N]) ∧ Chg Nobody w w' := by
  refine (calls_turn_Turns_Sizes _ _ (fun v' w' => v' = .tuple #[.int .i64 N, .int .i64 N] ∧ Chg Nobody w w') ?_).mono (by rintro e w' ⟨v, rfl, rfl, k⟩; exact ⟨rfl, k⟩)
  unfold sh_turn_Turns_Sizes
  obtain ⟨o, nx, pv, ls, ms, hr, hq⟩ := h
  have hsz := hr.sz
  have hR : Row w.drew.heap T T_turn_Turns _ := hr.r
  refine bif_i (fun h => by cases h) (fun _ => pt_i ?_)
  rw [add_mk]
  refine ldS_r hR rfl (pt_i (ldS_r hR rfl ⟨by decide, ?_⟩))
  rw [tdiv2, wrap64_in (by omega) (by omega)]
  exact ⟨rfl, (Chg.refl _ _).drew⟩
theorem bc_zero {k : Nat} : recs (fun _ => [Value.bool false]) k = recs (bc fun _ => false) k := rfl
/-- No list tells of any dart. -/
theorem t_odd (h : TB w.heap T TD TL TM 1 tl) : Calls Pg fn_turn_Turns_odd #[.pointer (some ⟨T, 0, none⟩), .slice ob 0 oc] w fun r w' => r = .returned (.bool false) ∧ Chg Nobody w w' := by
  refine (calls_turn_Turns_odd _ _ _ _ _ (fun v' w' => v' = .bool false ∧ Chg Nobody w w') ?_).mono (by rintro e w' ⟨v, rfl, rfl, k⟩; exact ⟨rfl, k⟩)
  unfold sh_turn_Turns_odd
  obtain ⟨o, nx, pv, ls, ms, hr, hq⟩ := h
  refine pt_i (ldS_r hr.r rfl ⟨by omega, Int.le_refl _, by omega, alo_r fun r1 => ?_⟩)
  have hc1 : Chg Nobody w (w.alloc (.cells (zerosOf #[.bool false] (Int.toNat ((2 * 1 : Nat) : Int))) T_bool)) := (Chg.refl _ _).alloc _
  have et : Int.toNat ((2 * 1 : Nat) : Int) = 2 := rfl
  rw [et] at r1 hc1 ⊢
  rw [zerosOf_recs, bc_zero] at r1
  generalize w.alloc (.cells (zerosOf #[.bool false] 2) T_bool) = w5 at *
  refine ⟨fun vs w' => w' = w5 ∧ vs = [.int .i64 0], fun _ _ => 0, ⟨rfl, rfl⟩, ?_⟩
  rintro _ i w9 ⟨rfl, hi⟩
  simp only [List.cons.injEq, Value.int.injEq, and_true, true_and] at hi
  subst hi
  refine bif_i (fun h => by simp only [b1s] at h; omega) (fun _ => ?_)
  let J : Nat → List Value → World → Prop := fun j vs w' => ∃ i : Nat, vs = [.int .i64 i] ∧ i ≤ 2 ∧ w' = w9 ∧ j = 2 - i
  refine ⟨LI J, LM J, ⟨_, 0, rfl, by omega, rfl, rfl⟩, ?_⟩
  intro _ i w25 hJ
  obtain ⟨i, hvs, hin, rfl, hj⟩ := hJ.at
  simp only [List.cons.injEq, Value.int.injEq, and_true, true_and] at hvs
  subst hvs
  refine bif_i (fun hlt => ?_) (fun hlt => ?_) <;> simp only [b1s] at hlt
  · refine ixS_i (by omega) (ldB_r (n := false) r1 (by rw [Nat.zero_add, Nat.mul_one]; exact bc_get (by omega)) ?_)
    have hx : ∃ k : Nat, k < 2 ∧ IntKind.i64.wrap ((BitVec.ofInt (IntKind.bits .i64) (i : Int) ^^^ BitVec.ofInt (IntKind.bits .i64) (1 : Int)).toNat : Int) = k := by
      rcases (by omega : i = 0 ∨ i = 1) with rfl | rfl
      · exact ⟨1, by omega, by decide⟩
      · exact ⟨0, by omega, by decide⟩
    obtain ⟨k, hk, hx⟩ := hx
    rw [hx]
    refine ixS_i hk (ldB_r (n := false) r1 (by rw [Nat.zero_add, Nat.mul_one]; exact bc_get hk) (bif_i (fun h => by cases h) (fun _ => ?_)))
    rw [wrap64_in (by omega) (by omega)]
    exact LI.again (k := 2 - (i + 1)) ⟨i + 1, rfl, by omega, rfl, rfl⟩ (by rw [hj]; omega)
  · refine pt_i ?_
    rw [add_mk]
    exact ldS_r (hc1.row (fun h => h) hr.r) rfl ⟨rfl, hc1⟩
theorem t_Load0 : Calls Pg fn_turn_Load #[.int .i64 1, .int .i64 1, .slice ob 0 oc] w fun r w' => ∃ T TD TL TM, r = .returned (.tuple #[.pointer (some ⟨T, 0, none⟩), errV 0]) ∧ Chg Nobody w w' ∧ TB w'.heap T TD TL TM 1 (fun _ => []) := by
  refine (calls_turn_Load _ _ _ _ _ _ (fun v' w' => ∃ T TD TL TM, v' = .tuple #[.pointer (some ⟨T, 0, none⟩), errV 0] ∧ Chg Nobody w w' ∧ TB w'.heap T TD TL TM 1 (fun _ => [])) ?_).mono (by rintro e w' ⟨v, rfl, a, b, c, d, rfl, k⟩; exact ⟨a, b, c, d, rfl, k⟩)
  unfold sh_turn_Load
  refine (t_New (N := 1) (by omega) (by omega)).mono ?_
  rintro r w5 ⟨T, TD, TL, TM, rfl, hc, hb, ht⟩
  refine ⟨_, _, rfl, err_i (fun e => absurd rfl e) (fun _ => (t_odd ht).mono ?_)⟩
  rintro r w8 ⟨rfl, hc2⟩
  refine ⟨_, rfl, bif_i (fun h => by cases h) (fun _ => ?_)⟩
  refine ⟨fun vs w' => w' = w8 ∧ vs = [.int .i64 0], fun _ _ => 0, ⟨rfl, rfl⟩, ?_⟩
  rintro _ i w9 ⟨rfl, hi⟩
  simp only [List.cons.injEq, Value.int.injEq, and_true, true_and] at hi
  subst hi
  exact bif_i (fun h => by simp only [b1s] at h; omega) (fun _ => ⟨T, TD, TL, TM, rfl, hc.trans hc2, ht.nob hc2⟩)
theorem has_nil_int {f : Value} : Calls Pg fn_slices_ContainsFunc__intint #[.slice none 0 0, f] w fun r w' => r = .returned (.bool false) ∧ w' = w := by
  refine (calls_slices_ContainsFunc__intint _ _ _ _ _ (fun v' w' => v' = .bool false ∧ w' = w) ?_).mono (by rintro e w' ⟨v, rfl, rfl, k⟩; exact ⟨rfl, k⟩)
  unfold sh_slices_ContainsFunc__intint
  refine (calls_slices_IndexFunc__intint _ _ _ _ _ (fun v' w' => v' = .int .i64 (-1) ∧ w' = w) ?_).mono ?_
  · unfold sh_slices_IndexFunc__intint
    refine ⟨fun vs w' => w' = w ∧ vs = [.int .i64 0], fun _ _ => 0, ⟨rfl, rfl⟩, ?_⟩
    rintro _ i w5 ⟨rfl, hi⟩
    simp only [List.cons.injEq, Value.int.injEq, and_true, true_and] at hi
    subst hi
    exact bif_i (fun h => by simp only [b1s] at h; omega) (fun _ => ⟨rfl, rfl⟩)
  · rintro r w3 ⟨v, rfl, rfl, rfl⟩
    exact ⟨_, rfl, rfl, rfl⟩
theorem s_check0 (h : TB w.heap T TD TL TM 1 (fun _ => [])) : Calls Pg fn_sphere_check #[.pointer (some ⟨T, 0, none⟩), .slice none 0 0] w fun r w' => r = .returned (errV 0) ∧ Chg Nobody w w' := by
  refine (calls_sphere_check _ _ _ _ _ (fun v' w' => v' = errV 0 ∧ Chg Nobody w w') ?_).mono (by rintro e w' ⟨v, rfl, rfl, k⟩; exact ⟨rfl, k⟩)
  unfold sh_sphere_check
  refine (t_Sizes h).mono ?_
  rintro r w4 ⟨rfl, hc⟩
  refine ⟨_, _, rfl, alo_r fun r1 => sto_r r1 (by simp) rfl fun r2 => ?_⟩
  have hc2 : Chg Nobody w ((w4.alloc (.cells #[.int .i64 0] T_int)).setCell ⟨w4.heap.size, 0, none⟩ (.int .i64 ((1 : Nat) : Int))) := (hc.alloc _).setCell _ _ (.inr hc.size)
  generalize (w4.alloc (.cells #[.int .i64 0] T_int)).setCell ⟨w4.heap.size, 0, none⟩ (.int .i64 ((1 : Nat) : Int)) = w8 at *
  refine bif_i (fun h => by cases h) (fun _ => has_nil_int.mono ?_)
  rintro r w10 ⟨rfl, rfl⟩
  refine ⟨_, rfl, bif_i (fun h => by cases h) (fun _ => ldI_r (n := ((1 : Nat) : Int)) r2 (by simp) ⟨by omega, Int.le_refl _, by omega, alo_r fun r3 => ?_⟩)⟩
  have et : Int.toNat ((1 : Nat) : Int) = 1 := rfl
  rw [et] at r3 ⊢
  rw [zerosOf_recs, bc_zero] at r3
  have hc3 : Chg Nobody w (w10.alloc (.cells (zerosOf #[.bool false] 1) T_bool)) := hc2.alloc _
  generalize w10.alloc (.cells (zerosOf #[.bool false] 1) T_bool) = w14 at *
  refine ⟨fun vs w' => w' = w14 ∧ vs = [.int .i64 0], fun _ _ => 0, ⟨rfl, rfl⟩, ?_⟩
  rintro _ i w18 ⟨rfl, hi⟩
  simp only [List.cons.injEq, Value.int.injEq, and_true, true_and] at hi
  subst hi
  refine bif_i (fun h => by simp only [b1s] at h; omega) (fun _ => ?_)
  let J : Nat → List Value → World → Prop := fun j vs w' => ∃ i : Nat, vs = [.int .i64 i] ∧ i ≤ 1 ∧ w' = w18 ∧ j = 1 - i
  refine ⟨LI J, LM J, ⟨_, 0, rfl, by omega, rfl, rfl⟩, ?_⟩
  intro _ i w28 hJ
  obtain ⟨i, hvs, hin, rfl, hj⟩ := hJ.at
  simp only [List.cons.injEq, Value.int.injEq, and_true, true_and] at hvs
  subst hvs
  refine bif_i (fun hlt => ?_) (fun _ => ⟨rfl, hc3⟩)
  simp only [b1s] at hlt
  refine ixS_i (by omega) (ldB_r (n := false) r3 (by rw [Nat.zero_add, Nat.mul_one]; exact bc_get (by omega)) ?_)
  refine (t_Degree (v := i) (h.nob hc3) (by omega)).mono ?_
  rintro r w33 ⟨rfl, rfl⟩
  refine ⟨_, _, rfl, err_i (fun e => absurd rfl e) (fun _ => bif_i (fun h => by simp only [b1s] at h; simp at h) (fun _ => ?_))⟩
  rw [wrap64_in (by omega) (by omega)]
  exact LI.again (k := 1 - (i + 1)) ⟨i + 1, rfl, by omega, rfl, rfl⟩ (by rw [hj]; omega)
theorem u_New1 : Calls Pg fn_unite_New #[.int .i64 1] w fun r w' => ∃ G, r = .returned (.tuple #[.pointer (some ⟨G, 0, none⟩), errV 0]) ∧ Chg Nobody w w' := by
  refine (calls_unite_New _ _ (fun v' w' => ∃ G, v' = .tuple #[.pointer (some ⟨G, 0, none⟩), errV 0] ∧ Chg Nobody w w') ?_).mono (by rintro e w' ⟨v, rfl, a, rfl, k⟩; exact ⟨a, rfl, k⟩)
  unfold sh_unite_New
  refine ⟨fun _ w' => w' = w, ?_, ?_⟩
  · exact bif_i (fun h => by simp only [b1s] at h; omega) (fun _ => bif_i (fun h => by simp only [b1s] at h; omega) (fun _ => rfl))
  rintro _ w2 rfl
  have et : Int.toNat (1 : Int) = 1 := rfl
  simp only [et]
  refine ⟨fun vs w' => ∃ G A C E, vs = [.pointer (some ⟨G, 0, none⟩)] ∧ Chg Nobody w2 w' ∧ (w2.heap.size ≤ A ∧ w2.heap.size ≤ C ∧ w2.heap.size ≤ E) ∧ (G ≠ A ∧ G ≠ C ∧ G ≠ E ∧ A ≠ C ∧ A ≠ E ∧ C ≠ E) ∧ Row w'.heap G T_unite_Groups [.slice (some ⟨A, 0, none⟩) 1 1, .slice (some ⟨C, 0, none⟩) 1 1, .slice (some ⟨E, 0, none⟩) 1 1, .slice none 0 0] ∧
    Row w'.heap A T_int32 [.int .i32 0] ∧ Row w'.heap C T_int32 [.int .i32 0] ∧ Row w'.heap E T_int32 [.int .i32 0], ?_, ?_⟩
  · have y0 : (0 : Int) ≤ 1 := by omega
    have y2 : (4 : Int) * 1 ≤ 140737488355328 := by omega
    have ye := Int.le_refl (1 : Int)
    refine ⟨⟨y0, ye, y2, alo_r fun r1 => ⟨⟨y0, ye, y2, alo_r fun r2 => ⟨y0, ye, y2, alo_r fun r3 => alo_r fun r4 => ?_⟩⟩, y0, ye, y2, alo_r fun r2 => ⟨y0, ye, y2, alo_r fun r3 => alo_r fun r4 => ?_⟩⟩⟩,
      ⟨y0, ye, y2, alo_r fun r1 => ⟨⟨y0, ye, y2, alo_r fun r2 => ⟨y0, ye, y2, alo_r fun r3 => alo_r fun r4 => ?_⟩⟩, y0, ye, y2, alo_r fun r2 => ⟨y0, ye, y2, alo_r fun r3 => alo_r fun r4 => ?_⟩⟩⟩,
      y0, ye, y2, alo_r fun r1 => ⟨⟨y0, ye, y2, alo_r fun r2 => ⟨y0, ye, y2, alo_r fun r3 => alo_r fun r4 => ?_⟩⟩, y0, ye, y2, alo_r fun r2 => ⟨y0, ye, y2, alo_r fun r3 => alo_r fun r4 => ?_⟩⟩⟩
    all_goals
      refine ⟨_, _, _, _, rfl, ((((Chg.refl _ _).drew.alloc _).alloc _).alloc _).alloc _, ?_, ?_, r4, by first | exact ((r1.alloc _).alloc _).alloc _ | exact (r2.alloc _).alloc _ | exact r3.alloc _, by first | exact ((r1.alloc _).alloc _).alloc _ | exact (r2.alloc _).alloc _ | exact r3.alloc _, by first | exact ((r1.alloc _).alloc _).alloc _ | exact (r2.alloc _).alloc _ | exact r3.alloc _⟩ <;> simp only [al_sz, dr_sz] <;> omega
  rintro _ p w3 ⟨G, A, C, E, hp, hc, hb, hn, rG, rA, rC, rE⟩
  simp only [List.cons.injEq, Value.pointer.injEq, and_true] at hp
  subst hp
  refine pt_i (ldS_r rG rfl ?_)
  let J : Nat → List Value → World → Prop := fun j vs w' => ∃ i : Nat, vs = [.int .i64 i] ∧ i ≤ 1 ∧ (i = 0 → w' = w3) ∧ Chg Nobody w2 w' ∧ j = 1 - i
  refine ⟨LI J, LM J, ⟨_, 0, rfl, by omega, fun _ => rfl, hc, rfl⟩, ?_⟩
  intro _ i w28 hJ
  obtain ⟨i, hvs, hin, h0, hc4, hj⟩ := hJ.at
  simp only [List.cons.injEq, Value.int.injEq, and_true, true_and] at hvs
  subst hvs
  refine bif_i (fun hlt => ?_) (fun _ => ⟨G, rfl, hc4⟩)
  simp only [b1s] at hlt
  have hi : i = 0 := by omega
  subst hi
  obtain rfl := h0 rfl
  have kG : Row w28.drew.heap G T_unite_Groups _ := rG
  have kA : Row w28.drew.heap A T_int32 _ := rA
  refine pt_i (ldS_r kG rfl (pt_i ?_))
  rw [add_mk]
  refine ldS_r kG rfl (pt_i ?_)
  rw [add_mk]
  refine ldS_r kG rfl (ixS_i (by omega) (sto_r kA (by simp) rfl fun kA2 => ?_))
  have c5 : Chg (· = A) w28.drew _ := (Chg.refl (· = A) w28.drew).setCell ⟨A, 0 + 0 * 1, none⟩ (.int .i32 (IntKind.wrap .i32 ((0 : Nat) : Int))) (.inl rfl)
  have kC := c5.row (by omega) (show Row w28.drew.heap C T_int32 _ from rC)
  have kE := c5.row (by omega) (show Row w28.drew.heap E T_int32 _ from rE)
  have c6 : Chg Nobody w2 _ := hc4.drew.trans' c5 fun k e => .inr (by omega)
  generalize w28.drew.setCell ⟨A, 0 + 0 * 1, none⟩ (.int .i32 (IntKind.wrap .i32 ((0 : Nat) : Int))) = w61 at *
  refine ixS_i (by omega) (sto_r kC (by simp) rfl fun kC2 => ?_)
  have c7 : Chg (· = C) w61 _ := (Chg.refl (· = C) w61).setCell ⟨C, 0 + 0 * 1, none⟩ (.int .i32 1) (.inl rfl)
  have kE2 := c7.row (by omega) kE
  have c8 : Chg Nobody w2 _ := c6.trans' c7 fun k e => .inr (by omega)
  generalize w61.setCell ⟨C, 0 + 0 * 1, none⟩ (.int .i32 1) = w63 at *
  refine ixS_i (by omega) (sto_r kE2 (by simp) rfl fun _ => ?_)
  have c9 : Chg Nobody w2 _ := c8.setCell ⟨E, 0 + 0 * 1, none⟩ (.int .i32 (IntKind.wrap .i32 ((0 : Nat) : Int))) (.inr hb.2.2)
  rw [wrap64_in (by omega) (by omega)]
  exact LI.again (k := 0) ⟨1, rfl, by omega, fun h => (by cases h), c9, rfl⟩ (by rw [hj]; omega)
theorem s_groups0 (h : TB w.heap T TD TL TM 1 (fun _ => [])) : Calls Pg fn_sphere_groups #[.pointer (some ⟨T, 0, none⟩)] w fun r w' => ∃ G, r = .returned (.tuple #[.pointer (some ⟨G, 0, none⟩), errV 0]) ∧ Chg Nobody w w' := by
  refine (calls_sphere_groups _ _ (fun v' w' => ∃ G, v' = .tuple #[.pointer (some ⟨G, 0, none⟩), errV 0] ∧ Chg Nobody w w') ?_).mono (by rintro e w' ⟨v, rfl, a, rfl, k⟩; exact ⟨a, rfl, k⟩)
  unfold sh_sphere_groups
  refine (t_Sizes h).mono ?_
  rintro r w3 ⟨rfl, hc⟩
  refine ⟨_, _, rfl, u_New1.mono ?_⟩
  rintro r w7 ⟨G, rfl, hc2⟩
  refine ⟨_, _, rfl, err_i (fun e => absurd rfl e) (fun _ => ?_)⟩
  let J : Nat → List Value → World → Prop := fun j vs w' => ∃ i : Nat, vs = [.int .i64 i] ∧ i ≤ 1 ∧ w' = w7 ∧ j = 1 - i
  refine ⟨LI J, LM J, ⟨_, 0, rfl, by omega, rfl, rfl⟩, ?_⟩
  intro _ i w12 hJ
  obtain ⟨i, hvs, hin, rfl, hj⟩ := hJ.at
  simp only [List.cons.injEq, Value.int.injEq, and_true, true_and] at hvs
  subst hvs
  refine bif_i (fun hlt => ?_) (fun _ => ⟨G, rfl, hc.trans hc2⟩)
  simp only [b1s] at hlt
  refine (t_Has (e := i) (h.nob (hc.trans hc2)) (by omega)).mono ?_
  rintro r w14 ⟨rfl, rfl⟩
  have hno : decide (Laid (fun _ => []) 1 i) = false := by
    rw [decide_eq_false_iff_not]
    intro k
    have : dl (fun _ => []) 1 = [] := by unfold dl; simp
    unfold Laid at k; rw [this] at k; cases k
  rw [hno]
  refine ⟨_, rfl, bif_i (fun _ => ?_) (fun h => by cases h)⟩
  rw [wrap64_in (by omega) (by omega)]
  exact LI.again (k := 1 - (i + 1)) ⟨i + 1, rfl, by omega, rfl, rfl⟩ (by rw [hj]; omega)
end
end Core
end Go.Proofs.YtdamhidnlfjkdaaGreatDoor
/-
A model without anything can be (layers 11, 12 and 17's program).
Conditions: those that each theorem states.
-/
namespace Go.Proofs.YtdamhidnlfjkdaaGreatDoor
open Go Go.RowKit
set_option linter.unusedVariables false
set_option linter.unusedSimpArgs false
namespace Core
open Go.Proofs.YtdamhidnlfjkdaaGreatDoor.Seq Go.Proofs.YtdamhidnlfjkdaaGreatDoor.Cut Go.Proofs.YtdamhidnlfjkdaaGreatDoor.Web
section
variable {w w' : World} {T TD TL TM n : Nat}
theorem dl_nil0 {N : Nat} : dl (fun _ => []) N = [] := by unfold dl; simp
theorem dE_nil {N x : Nat} (h : x < 2 * N) : dE (fun _ => []) N (x : Int) = 13 := by rw [dE_nat, if_pos h, dl_nil0, if_neg (by simp)]
theorem f_Walk0 {x : Nat} (h : TB w.heap T TD TL TM 1 (fun _ => [])) (hx : x < 2) : Calls Pg fn_face_Walk #[.pointer (some ⟨T, 0, none⟩), .int .i64 x] w fun r w' => r = .returned (.tuple #[.slice none 0 0, errV 13]) ∧ Chg Nobody w w' := by
  refine (calls_face_Walk _ _ _ (fun v' w' => v' = .tuple #[.slice none 0 0, errV 13] ∧ Chg Nobody w w') ?_).mono (by rintro e w' ⟨v, rfl, rfl, k⟩; exact ⟨rfl, k⟩)
  unfold sh_face_Walk
  have e0 := dE_nil (N := 1) (x := x) (by omega)
  refine (calls_face_Next _ _ _ (fun v' w' => v' = .tuple #[.int .i64 0, errV 13] ∧ Chg Nobody w w') ?_).mono ?_
  · unfold sh_face_Next
    refine (t_Origin_bad h (d := x) (by rw [e0]; decide)).mono ?_
    rintro r w4 ⟨rfl, hc⟩
    rw [e0]
    exact ⟨_, _, rfl, err_i (fun _ => ⟨rfl, hc⟩) (fun e => absurd e (by decide))⟩
  · rintro r w4 ⟨v, rfl, rfl, hc⟩
    exact ⟨_, _, rfl, err_i (fun _ => ⟨rfl, hc⟩) (fun e => absurd e (by decide))⟩
theorem f_All0 (h : TB w.heap T TD TL TM 1 (fun _ => [])) : Calls Pg fn_face_All #[.pointer (some ⟨T, 0, none⟩)] w fun r w' => r = .returned (.slice none 0 0) ∧ Chg Nobody w w' := by
  refine (calls_face_All _ _ (fun v' w' => v' = .slice none 0 0 ∧ Chg Nobody w w') ?_).mono (by rintro e w' ⟨v, rfl, rfl, k⟩; exact ⟨rfl, k⟩)
  unfold sh_face_All
  refine (t_Sizes h).mono ?_
  rintro r w3 ⟨rfl, hc⟩
  refine ⟨_, _, rfl, ?_⟩
  have e2 : IntKind.i64.wrap ((2 : Int) * ((1 : Nat) : Int)) = 2 := by decide
  rw [e2]
  refine ⟨by omega, Int.le_refl _, by omega, alo_r fun r1 => ?_⟩
  have et : Int.toNat (2 : Int) = 2 := rfl
  rw [et] at r1 ⊢
  rw [zerosOf_recs, bc_zero] at r1
  have hc1 : Chg Nobody w (w3.alloc (.cells (zerosOf #[.bool false] 2) T_bool)) := hc.alloc _
  have hlt : w3.heap.size < (w3.alloc (.cells (zerosOf #[.bool false] 2) T_bool)).heap.size := by rw [al_sz]; omega
  generalize w3.alloc (.cells (zerosOf #[.bool false] 2) T_bool) = w6 at *
  let J : Nat → List Value → World → Prop := fun j vs w' => ∃ i : Nat, vs = [.slice none 0 0, .int .i64 i] ∧ i ≤ 2 ∧ Chg Nobody w6 w' ∧ j = 2 - i
  refine ⟨LI J, LM J, ⟨_, 0, rfl, by omega, Chg.refl _ _, rfl⟩, ?_⟩
  intro _ b l c i w11 hJ
  obtain ⟨i, hvs, hin, hc2, hj⟩ := hJ.at
  simp only [List.cons.injEq, Value.int.injEq, Value.slice.injEq, and_true, true_and] at hvs
  obtain ⟨⟨rfl, rfl, rfl⟩, rfl⟩ := hvs
  refine bif_i (fun hlt => ?_) (fun hlt => ?_) <;> simp only [b1s] at hlt
  · refine ixS_i (by omega) (ldB_r (n := false) (hc2.row (fun h => h) r1) (by rw [Nat.zero_add, Nat.mul_one]; exact bc_get (by omega)) (bif_i (fun h => by cases h) (fun _ => ?_)))
    refine (f_Walk0 (x := i) (h.nob (hc1.trans hc2)) (by omega)).mono ?_
    rintro r w16 ⟨rfl, hc3⟩
    refine ⟨_, _, _, _, rfl, err_i (fun _ => ?_) (fun e => absurd e (by decide))⟩
    rw [wrap64_in (by omega) (by omega)]
    exact LI.again (k := 2 - (i + 1)) ⟨i + 1, rfl, by omega, hc2.trans hc3, rfl⟩ (by rw [hj]; omega)
  · exact ⟨rfl, hc1.trans hc2⟩
theorem s_each0 (h : TB w.heap T TD TL TM 1 (fun _ => [])) : Calls Pg fn_sphere_each #[.pointer (some ⟨T, 0, none⟩), .slice none 0 0] w fun r w' => ∃ m, r = .returned (.tuple #[.map (some m), errV 0]) ∧ Chg Nobody w w' ∧ w'.heap[m]? = some (.map #[] 0) := by
  refine (calls_sphere_each _ _ _ _ _ (fun v' w' => ∃ m, v' = .tuple #[.map (some m), errV 0] ∧ Chg Nobody w w' ∧ w'.heap[m]? = some (.map #[] 0)) ?_).mono (by rintro e w' ⟨v, rfl, a, rfl, k⟩; exact ⟨a, rfl, k⟩)
  unfold sh_sphere_each
  refine (s_check0 h).mono ?_
  rintro r w3 ⟨rfl, hc⟩
  refine ⟨_, rfl, err_i (fun e => absurd rfl e) (fun _ => (s_groups0 (h.nob hc)).mono ?_)⟩
  rintro r w7 ⟨G, rfl, hc2⟩
  refine ⟨_, _, rfl, err_i (fun e => absurd rfl e) (fun _ => ?_)⟩
  have hc3 : Chg Nobody w (w7.alloc (.map #[] 0)) := (hc.trans hc2).alloc _
  have hm : (w7.alloc (.map #[] 0)).heap[w7.heap.size]? = some (.map #[] 0) := heap_alloc_new _ _
  have hlt : w7.heap.size < (w7.alloc (.map #[] 0)).heap.size := by rw [al_sz]; omega
  refine ⟨some w7.heap.size, w7.alloc (.map #[] 0), rfl, ?_⟩
  generalize w7.alloc (.map #[] 0) = w10 at *
  refine ⟨fun vs w' => w' = w10 ∧ vs = [.int .i64 0], fun _ _ => 0, ⟨rfl, rfl⟩, ?_⟩
  rintro _ i w14 ⟨rfl, hi⟩
  simp only [List.cons.injEq, Value.int.injEq, and_true, true_and] at hi
  subst hi
  refine bif_i (fun h => by simp only [b1s] at h; omega) (fun _ => (f_All0 (h.nob hc3)).mono ?_)
  rintro r w28 ⟨rfl, hc4⟩
  refine ⟨_, _, _, rfl, fun vs w' => w' = w28 ∧ vs = [.int .i64 0], fun _ _ => 0, ⟨rfl, rfl⟩, ?_⟩
  rintro _ i w33 ⟨rfl, hi⟩
  simp only [List.cons.injEq, Value.int.injEq, and_true, true_and] at hi
  subst hi
  refine bif_i (fun h => by simp only [b1s] at h; omega) (fun _ => ⟨_, rfl, hc3.trans hc4, ?_⟩)
  rw [hc4.block _ hlt (fun h => h)]; exact hm
theorem s_Flat0 (h : TB w.heap T TD TL TM 1 (fun _ => [])) : Calls Pg fn_sphere_Flat #[.pointer (some ⟨T, 0, none⟩), .slice none 0 0] w fun r w' => r = .returned (.tuple #[.bool true, errV 0]) ∧ Chg Nobody w w' := by
  refine (calls_sphere_Flat _ _ _ _ _ (fun v' w' => v' = .tuple #[.bool true, errV 0] ∧ Chg Nobody w w') ?_).mono (by rintro e w' ⟨v, rfl, rfl, k⟩; exact ⟨rfl, k⟩)
  unfold sh_sphere_Flat
  refine (s_each0 h).mono ?_
  rintro r w4 ⟨m, rfl, hc, hm⟩
  refine ⟨_, _, rfl, err_i (fun e => absurd rfl e) (fun _ => ⟨_, _, run_range_map w4 T_map_intsphere_Counts T_int T_sphere_Counts m #[] 0 (by kernel_rfl) hm, ?_⟩)⟩
  refine ⟨fun vs w' => w' = w4.alloc (.mapIter (some m) 0 #[] 0) ∧ vs = [], fun _ _ => 0, ⟨rfl, rfl⟩, ?_⟩
  rintro _ w10 ⟨rfl, _⟩
  rcases run_next_map (P := Pg) w4 T_ m 0 0 #[] #[] 0 hm (by simp) (Nat.le_refl _) with ⟨_, h⟩ | ⟨e, he, _⟩
  · exact .inl ⟨_, h, rfl, hc.alloc _⟩
  · simp [leftOf] at he
/-- A model without anything. -/
def mo (n : Nat) : Value := .agg #[.int .i64 n, .slice none 0 0, .slice none 0 0, .slice none 0 0]
def morow (n : Nat) : List Value := [.int .i64 n, .slice none 0 0, .slice none 0 0, .slice none 0 0]
theorem ml_lists (h0 : 1 ≤ n) (h1 : n ≤ 1048576) : Calls Pg fn_model_Model_lists #[mo n] w fun r w' => r = .returned (.bool true) ∧ Chg Nobody w w' := by
  refine (calls_model_Model_lists _ _ _ _ _ _ _ _ _ _ _ (fun v' w' => v' = .bool true ∧ Chg Nobody w w') ?_).mono (by rintro e w' ⟨v, rfl, rfl, k⟩; exact ⟨rfl, k⟩)
  unfold sh_model_Model_lists
  refine alo_r fun r1 => ?_
  have hc : Chg Nobody w (w.alloc (.cells #[.int .i64 n, .slice none 0 0, .slice none 0 0, .slice none 0 0] T_model_Model)) := (Chg.refl _ _).alloc _
  generalize w.alloc (.cells #[.int .i64 n, .slice none 0 0, .slice none 0 0, .slice none 0 0] T_model_Model) = w5 at *
  simp only [add_mk]
  refine ldI_r (n := (n : Int)) r1 rfl (ldS_r r1 rfl ((ar_Load h0 h1).mono ?_))
  rintro r w10 ⟨A, rfl, hc2⟩
  have r2 := hc2.row (fun h => h) r1
  refine ⟨_, _, rfl, err_i (fun e => absurd rfl e) (fun _ => ⟨fun _ w' => Chg Nobody w5 w', ?_, ?_⟩)⟩
  · refine ldI_r (n := (n : Int)) r2 rfl (ldS_r r2 rfl ((ar_Load h0 h1).mono ?_))
    rintro r w17 ⟨A, rfl, hc3⟩
    have r3 := hc3.row (fun h => h) r2
    exact ⟨_, _, rfl, err_i (fun e => absurd rfl e) (fun _ => ldS_r r3 rfl (ldS_r r3 rfl (bif_i (fun h => by cases h) (fun _ => hc2.trans hc3))))⟩
  intro _ w21 hc3
  refine ldS_r (hc3.row (fun h => h) r1) rfl ⟨fun vs w' => w' = w21 ∧ vs = [.int .i64 0], fun _ _ => 0, ⟨rfl, rfl⟩, ?_⟩
  rintro _ i w26 ⟨rfl, hi⟩
  simp only [List.cons.injEq, Value.int.injEq, and_true, true_and] at hi
  subst hi
  exact bif_i (fun h => by simp only [b1s] at h; omega) (fun _ => ⟨trivial, hc.trans hc3⟩)
theorem ml_cycles : Calls Pg fn_model_Model_cycles #[mo n] w fun r w' => ∃ b, r = .returned (.tuple #[.slice b 0 0, .bool true]) ∧ Chg Nobody w w' := by
  refine (calls_model_Model_cycles _ _ _ _ _ _ _ _ _ _ _ (fun v' w' => ∃ b, v' = .tuple #[.slice b 0 0, .bool true] ∧ Chg Nobody w w') ?_).mono (by rintro e w' ⟨v, rfl, a, rfl, k⟩; exact ⟨a, rfl, k⟩)
  unfold sh_model_Model_cycles
  refine alo_r fun r1 => ?_
  simp only [add_mk]
  refine ldS_r r1 rfl ⟨by omega, by omega, by omega, alo_r fun r2 => ldS_r (r1.alloc _) rfl ⟨by decide, by decide, by decide, alo_r fun r3 => ?_⟩⟩
  refine ⟨fun vs w' => w' = _ ∧ vs = [.int .i64 0], fun _ _ => 0, ⟨rfl, rfl⟩, ?_⟩
  rintro _ i w15 ⟨rfl, hi⟩
  simp only [List.cons.injEq, Value.int.injEq, and_true, true_and] at hi
  subst hi
  exact bif_i (fun h => absurd h (by rw [show IntKind.i64.wrap ((2 : Int) * ((0 : Nat) : Int)) = 0 by decide]; decide)) (fun _ => ⟨_, rfl, (((Chg.refl _ _).alloc _).alloc _).alloc _⟩)
theorem ml_flat {b : Option Addr} : Calls Pg fn_model_Model_flat #[mo n, .slice b 0 0] w fun r w' => r = .returned (.bool true) ∧ Chg Nobody w w' := by
  refine (calls_model_Model_flat _ _ _ _ _ _ _ _ _ _ _ _ _ _ (fun v' w' => v' = .bool true ∧ Chg Nobody w w') ?_).mono (by rintro e w' ⟨v, rfl, rfl, k⟩; exact ⟨rfl, k⟩)
  unfold sh_model_Model_flat
  refine alo_r fun r1 => ?_
  have hc : Chg Nobody w (w.alloc (.cells #[.int .i64 n, .slice none 0 0, .slice none 0 0, .slice none 0 0] T_model_Model)) := (Chg.refl _ _).alloc _
  generalize w.alloc (.cells #[.int .i64 n, .slice none 0 0, .slice none 0 0, .slice none 0 0] T_model_Model) = w5 at *
  simp only [add_mk]
  refine ldS_r r1 rfl (ldS_r r1 rfl (t_Load0.mono ?_))
  rintro r w11 ⟨T, TD, TL, TM, rfl, hc2, ht⟩
  refine ⟨_, _, rfl, err_i (fun e => absurd rfl e) (fun _ => ldS_r (hc2.row (fun h => h) r1) rfl ?_)⟩
  refine ⟨fun vs w' => w' = w11 ∧ vs = [.slice none 0 0, .int .i64 0], fun _ _ => 0, ⟨rfl, rfl⟩, ?_⟩
  rintro _ sb sl sc i w18 ⟨rfl, hi⟩
  simp only [List.cons.injEq, Value.int.injEq, Value.slice.injEq, and_true, true_and] at hi
  obtain ⟨⟨rfl, rfl, rfl⟩, rfl⟩ := hi
  refine bif_i (fun h => by simp only [b1s] at h; omega) (fun _ => (s_Flat0 ht).mono ?_)
  rintro r w33 ⟨rfl, hc3⟩
  exact ⟨_, _, rfl, bif_i (fun _ => ⟨errV_isI _, by rw [errV_nil]; rfl, (hc.trans hc2).trans hc3⟩) (fun h => by cases h)⟩
theorem ml_Round (h0 : 1 ≤ n) (h1 : n ≤ 1048576) : Calls Pg fn_model_Round #[mo n] w fun r w' => ∃ b, r = .returned (.tuple #[.slice b 0 0, errV 0]) ∧ Chg Nobody w w' := by
  refine (calls_model_Round _ _ _ _ _ _ _ _ _ _ _ (fun v' w' => ∃ b, v' = .tuple #[.slice b 0 0, errV 0] ∧ Chg Nobody w w') ?_).mono (by rintro e w' ⟨v, rfl, a, rfl, k⟩; exact ⟨a, rfl, k⟩)
  unfold sh_model_Round
  refine alo_r fun r1 => ?_
  have hc : Chg Nobody w (w.alloc (.cells #[.int .i64 n, .slice none 0 0, .slice none 0 0, .slice none 0 0] T_model_Model)) := (Chg.refl _ _).alloc _
  generalize w.alloc (.cells #[.int .i64 n, .slice none 0 0, .slice none 0 0, .slice none 0 0] T_model_Model) = w5 at *
  simp only [add_mk]
  refine ldI_r (n := (n : Int)) r1 rfl (ldS_r r1 rfl (ldS_r r1 rfl (ldS_r r1 rfl ((ml_lists h0 h1).mono ?_))))
  rintro r w11 ⟨rfl, hc2⟩
  have r2 := hc2.row (fun h => h) r1
  refine ⟨_, rfl, bif_i (fun h => by cases h) (fun _ => ldI_r (n := (n : Int)) r2 rfl (ldS_r r2 rfl (ldS_r r2 rfl (ldS_r r2 rfl (ml_cycles.mono ?_)))))⟩
  rintro r w19 ⟨b, rfl, hc3⟩
  have r3 := hc3.row (fun h => h) r2
  refine ⟨_, _, _, _, rfl, bif_i (fun h => by cases h) (fun _ => ldI_r (n := (n : Int)) r3 rfl (ldS_r r3 rfl (ldS_r r3 rfl (ldS_r r3 rfl (ml_flat.mono ?_)))))⟩
  rintro r w26 ⟨rfl, hc4⟩
  exact ⟨_, rfl, bif_i (fun h => by cases h) (fun _ => ⟨b, rfl, ((hc.trans hc2).trans hc3).trans hc4⟩)⟩
theorem ml_Check (h0 : 1 ≤ n) (h1 : n ≤ 1048576) : Calls Pg fn_model_Check #[mo n] w fun r w' => r = .returned (errV 0) ∧ Chg Nobody w w' := by
  refine (calls_model_Check _ _ _ _ _ _ _ _ _ _ _ (fun v' w' => v' = errV 0 ∧ Chg Nobody w w') ?_).mono (by rintro e w' ⟨v, rfl, rfl, k⟩; exact ⟨rfl, k⟩)
  unfold sh_model_Check
  refine alo_r fun r1 => ?_
  have hc : Chg Nobody w (w.alloc (.cells #[.int .i64 n, .slice none 0 0, .slice none 0 0, .slice none 0 0] T_model_Model)) := (Chg.refl _ _).alloc _
  generalize w.alloc (.cells #[.int .i64 n, .slice none 0 0, .slice none 0 0, .slice none 0 0] T_model_Model) = w5 at *
  simp only [add_mk]
  refine ldI_r (n := (n : Int)) r1 rfl (ldS_r r1 rfl (ldS_r r1 rfl (ldS_r r1 rfl ((ml_Round h0 h1).mono ?_))))
  rintro r w11 ⟨b, rfl, hc2⟩
  exact ⟨_, _, _, _, rfl, rfl, hc.trans hc2⟩
end
end Core
end Go.Proofs.YtdamhidnlfjkdaaGreatDoor
/-
A state without anything (layer 18's program): made, told as a model, and as bytes.
Conditions: those that each theorem states.
-/
namespace Go.Proofs.YtdamhidnlfjkdaaGreatDoor
open Go Go.RowKit
set_option linter.unusedVariables false
set_option linter.unusedSimpArgs false
namespace Core
open Go.Proofs.YtdamhidnlfjkdaaGreatDoor.Seq Go.Proofs.YtdamhidnlfjkdaaGreatDoor.Cut Go.Proofs.YtdamhidnlfjkdaaGreatDoor.Web
/-- A state at block S: its two arenas, and its map, of which vertices alone are laid. -/
structure LS (h : Array Obj) (S A1 A2 S1 S2 : Nat) (b : Bk) (n : Nat) (lv : Nat → Bool) : Prop where
  r : Row h S T_load_State [.pointer (some ⟨A1, 0, none⟩), .pointer (some ⟨A2, 0, none⟩), .pointer (some ⟨b.M, 0, none⟩)]
  a1 : Row h A1 T_arena_Arena (arow n S1)
  a2 : Row h A2 T_arena_Arena (arow n S2)
  m : MR h b n lv (fun _ => []) (ones (3 * n)) (fun _ => none) (fun _ => none) (fun _ => 0)
  ne : ¬ b.has S ∧ ¬ b.has A1 ∧ ¬ b.has A2
section
variable {w w' : World} {S A1 A2 S1 S2 n : Nat} {b : Bk} {lv : Nat → Bool}
theorem LS.nob (h : LS w.heap S A1 A2 S1 S2 b n lv) (c : Chg Nobody w w') : LS w'.heap S A1 A2 S1 S2 b n lv :=
  ⟨c.row (fun h => h) h.r, c.row (fun h => h) h.a1, c.row (fun h => h) h.a2, h.m.nob c, h.ne⟩
theorem ld_New (h0 : 1 ≤ n) (h1 : n ≤ 1048576) : Calls Pg fn_load_New #[.int .i64 n] w fun r w' => ∃ S A1 A2 S1 S2 b, r = .returned (.tuple #[.pointer (some ⟨S, 0, none⟩), errV 0]) ∧ Chg Nobody w w' ∧ LS w'.heap S A1 A2 S1 S2 b n (fun _ => false) ∧ ∀ k, b.has k → w.heap.size ≤ k := by
  refine (calls_load_New _ _ (fun v' w' => ∃ S A1 A2 S1 S2 b, v' = .tuple #[.pointer (some ⟨S, 0, none⟩), errV 0] ∧ Chg Nobody w w' ∧ LS w'.heap S A1 A2 S1 S2 b n (fun _ => false) ∧ ∀ k, b.has k → w.heap.size ≤ k) ?_).mono (by rintro e w' ⟨v, rfl, a, b, c, d, e, f, rfl, k⟩; exact ⟨a, b, c, d, e, f, rfl, k⟩)
  unfold sh_load_New
  refine (ar_New h0 h1).mono ?_
  rintro r w3 ⟨A1, S1, rfl, hc1, hA1, r1⟩
  refine ⟨_, _, rfl, err_i (fun e => absurd rfl e) (fun _ => (ar_New h0 h1).mono ?_)⟩
  rintro r w7 ⟨A2, S2, rfl, hc2, hA2, r2⟩
  refine ⟨_, _, rfl, err_i (fun e => absurd rfl e) (fun _ => (core_New h0 h1).mono ?_)⟩
  rintro r w11 ⟨b, rfl, hc3, hb, hm⟩
  refine ⟨_, _, rfl, err_i (fun e => absurd rfl e) (fun _ => alo_r fun r3 => ?_)⟩
  have l1 := r1.lt
  have l2 := r2.lt
  have s2 := hc2.size
  have s3 := hc3.size
  have s1 := hc1.size
  refine ⟨_, A1, A2, S1, S2, b, rfl, ((hc1.trans hc2).trans hc3).alloc _, ⟨r3, ((hc2.trans hc3).row (fun h => h) r1).alloc _, (hc3.row (fun h => h) r2).alloc _, hm.nob ((Chg.refl _ _).alloc _), fun k => ?_, fun k => ?_, fun k => ?_⟩, fun k hk => by have := hb k hk; omega⟩
  · have hx : ∀ k, b.has k → k < w11.heap.size := by
      intro k hk
      have lt := hm.t.lt
      obtain ⟨_, f, _⟩ := hm.w.f
      obtain ⟨_, g, _⟩ := hm.f
      have g1 := hm.v.lt
      have g2 := hm.k.lt
      have g3 := hm.r.lt
      have g4 := hm.w.r.lt
      have g5 := hm.w.a.r.lt
      have g6 := hm.w.a.a.lt
      have g7 := f.lt
      have g8 := hm.w.e.lt
      have g9 := g.lt
      unfold Bk.has at hk; omega
    have := hx _ k
    omega
  · have := hb _ k; omega
  · have := hb _ k; omega
theorem ld_New_bad {n : Int} (h : ¬ (1 ≤ n ∧ n ≤ 1048576)) : Calls Pg fn_load_New #[.int .i64 n] w fun r w' => r = .returned (.tuple #[.pointer none, errV 1]) ∧ w' = w := by
  refine (calls_load_New _ _ (fun v' w' => v' = .tuple #[.pointer none, errV 1] ∧ w' = w) ?_).mono (by rintro e w' ⟨v, rfl, rfl, k⟩; exact ⟨rfl, k⟩)
  unfold sh_load_New
  refine (ar_New_bad h).mono ?_
  rintro r w3 ⟨rfl, rfl⟩
  exact ⟨_, _, rfl, err_i (fun _ => ⟨rfl, rfl⟩) (fun e => absurd e (by decide))⟩
/-- Four cells written, and read again. -/
theorem mo_io {A : Nat} {u : World} {x y : Int} {e : TypeId} {E : Value} {R : Value → World → Prop} (r : Row u.heap A e [.int .i64 y, .slice none 0 0, .slice none 0 0, .slice none 0 0])
    (k : ∀ u', Chg (· = A) u u' → R (.tuple #[.agg #[.int .i64 x, .slice none 0 0, .slice none 0 0, .slice none 0 0], E]) u') :
    sto ⟨A, 0, none⟩ (.int .i64 x) u fun u1 => sto ⟨A, 0 + 1, none⟩ (.slice none 0 0) u1 fun u2 => sto ⟨A, 0 + 2, none⟩ (.slice none 0 0) u2 fun u3 => sto ⟨A, 0 + 3, none⟩ (.slice none 0 0) u3 fun u4 =>
      ldI .i64 ⟨A, 0, none⟩ u4 fun n10 => ldS ⟨A, 0 + 1, none⟩ u4 fun b1 l1 c1 => ldS ⟨A, 0 + 2, none⟩ u4 fun b2 l2 c2 => ldS ⟨A, 0 + 3, none⟩ u4 fun b3 l3 c3 => R (.tuple #[.agg #[.int .i64 n10, .slice b1 l1 c1, .slice b2 l2 c2, .slice b3 l3 c3], E]) u4 := by
  refine sto_r r (by simp) rfl fun r3 => sto_r r3 (by simp) rfl fun r4 => sto_r r4 (by simp) rfl fun r5 => sto_r r5 (by simp) rfl fun r6 => ldI_r (n := x) r6 rfl (ldS_r r6 rfl (ldS_r r6 rfl (ldS_r r6 rfl (k _ ?_))))
  exact ((((Chg.refl (· = A) u).setCell ⟨A, 0, none⟩ (.int .i64 x) (.inl rfl)).setCell ⟨A, 0 + 1, none⟩ (.slice none 0 0) (.inl rfl)).setCell ⟨A, 0 + 2, none⟩ (.slice none 0 0) (.inl rfl)).setCell ⟨A, 0 + 3, none⟩ (.slice none 0 0) (.inl rfl)
/-- Four cells written. -/
theorem mo_w {A : Nat} {u : World} {x y : Int} {e : TypeId} {K : World → Prop} (r : Row u.heap A e [.int .i64 y, .slice none 0 0, .slice none 0 0, .slice none 0 0])
    (k : ∀ u', Chg (· = A) u u' → Row u'.heap A e [.int .i64 x, .slice none 0 0, .slice none 0 0, .slice none 0 0] → K u') :
    sto ⟨A, 0, none⟩ (.int .i64 x) u fun u1 => sto ⟨A, 0 + 1, none⟩ (.slice none 0 0) u1 fun u2 => sto ⟨A, 0 + 2, none⟩ (.slice none 0 0) u2 fun u3 => sto ⟨A, 0 + 3, none⟩ (.slice none 0 0) u3 K := by
  refine sto_r r (by simp) rfl fun r3 => sto_r r3 (by simp) rfl fun r4 => sto_r r4 (by simp) rfl fun r5 => sto_r r5 (by simp) rfl fun r6 => k _ ?_ r6
  exact ((((Chg.refl (· = A) u).setCell ⟨A, 0, none⟩ (.int .i64 x) (.inl rfl)).setCell ⟨A, 0 + 1, none⟩ (.slice none 0 0) (.inl rfl)).setCell ⟨A, 0 + 2, none⟩ (.slice none 0 0) (.inl rfl)).setCell ⟨A, 0 + 3, none⟩ (.slice none 0 0) (.inl rfl)
theorem whole_yes (h : LS w.heap S A1 A2 S1 S2 b n lv) : Calls Pg fn_load_State_whole #[.pointer (some ⟨S, 0, none⟩)] w fun r w' => r = .returned (.bool true) ∧ w' = w := by
  refine (calls_load_State_whole _ _ (fun v' w' => v' = .bool true ∧ w' = w) ?_).mono (by rintro e w' ⟨v, rfl, rfl, k⟩; exact ⟨rfl, k⟩)
  unfold sh_load_State_whole
  rw [show (⟨S, 0, none⟩ : Addr) = ⟨S, 0, none⟩ from rfl]
  exact bif_i (fun _ => pt_i (ldP_r h.r rfl (bif_i (fun _ => pt_i (ldP_r (o := 1) h.r rfl (bif_i (fun _ => pt_i (ldP_r (o := 2) h.r rfl ⟨rfl, rfl⟩)) (fun h => by cases h)))) (fun h => by cases h)))) (fun h => by cases h)
theorem whole_no {p : Option Addr} (h : p = none ∨ ∃ S, p = some ⟨S, 0, none⟩ ∧ Row w.heap S T_load_State [.pointer none, .pointer none, .pointer none]) : Calls Pg fn_load_State_whole #[.pointer p] w fun r w' => r = .returned (.bool false) ∧ w' = w := by
  refine (calls_load_State_whole _ _ (fun v' w' => v' = .bool false ∧ w' = w) ?_).mono (by rintro e w' ⟨v, rfl, rfl, k⟩; exact ⟨rfl, k⟩)
  unfold sh_load_State_whole
  rcases h with rfl | ⟨S, rfl, r⟩
  · exact bif_i (fun h => by cases h) (fun _ => ⟨rfl, rfl⟩)
  · exact bif_i (fun _ => pt_i (ldP_r r rfl (bif_i (fun h => by cases h) (fun _ => ⟨rfl, rfl⟩)))) (fun h => by cases h)
theorem ld_Model_no {p : Option Addr} (h : p = none ∨ ∃ S, p = some ⟨S, 0, none⟩ ∧ Row w.heap S T_load_State [.pointer none, .pointer none, .pointer none]) : Calls Pg fn_load_State_Model #[.pointer p] w fun r w' => r = .returned (.tuple #[mo 0, errV 1]) ∧ Chg Nobody w w' := by
  refine (calls_load_State_Model _ _ (fun v' w' => v' = .tuple #[mo 0, errV 1] ∧ Chg Nobody w w') ?_).mono (by rintro e w' ⟨v, rfl, rfl, k⟩; exact ⟨rfl, k⟩)
  unfold sh_load_State_Model
  refine alo_r fun r1 => ?_
  refine (whole_no (h.imp id fun ⟨S, h1, h2⟩ => ⟨S, h1, h2.alloc _⟩)).mono ?_
  rintro r w4 ⟨rfl, rfl⟩
  refine ⟨_, rfl, bif_i (fun _ => ?_) (fun h => by cases h)⟩
  rw [add_mk, add_mk, add_mk]
  exact mo_io (R := fun v' w' => v' = .tuple #[mo 0, errV 1] ∧ Chg Nobody w w') (x := 0) (E := errV 1) r1 fun u hu => ⟨rfl, ((Chg.refl _ _).alloc _).trans' hu fun k e => .inr (by omega)⟩
/-- What is told of a state of which vertices alone are laid. -/
theorem ld_Model (h0 : 1 ≤ n) (h1 : n ≤ 1048576) (h : LS w.heap S A1 A2 S1 S2 b n lv) : Calls Pg fn_load_State_Model #[.pointer (some ⟨S, 0, none⟩)] w fun r w' => (cV lv n = 0 → r = .returned (.tuple #[mo n, errV 0])) ∧ (cV lv n ≠ 0 → r = .returned (.tuple #[mo 0, errV 17])) ∧ Chg Nobody w w' := by
  refine (calls_load_State_Model _ _ (fun v' w' => (cV lv n = 0 → v' = .tuple #[mo n, errV 0]) ∧ (cV lv n ≠ 0 → v' = .tuple #[mo 0, errV 17]) ∧ Chg Nobody w w') ?_).mono (by rintro e w' ⟨v, rfl, k1, k2, k3⟩; exact ⟨fun j => by rw [k1 j], fun j => by rw [k2 j], k3⟩)
  unfold sh_load_State_Model
  have e0 : ∀ {i : Nat}, cE (fun _ => []) i = 0 := sm_all fun e _ => if_neg fun k => (by unfold Laid at k; rw [dl_nil0] at k; cases k)
  have e1 : ∀ {i : Nat}, cB (fun _ => none) i = 0 := sm_all fun _ _ => rfl
  refine alo_r fun r1 => ?_
  have hc1 : Chg Nobody w (w.alloc (.cells #[.int .i64 0, .slice none 0 0, .slice none 0 0, .slice none 0 0] T_model_Model)) := (Chg.refl _ _).alloc _
  generalize w.alloc (.cells #[.int .i64 0, .slice none 0 0, .slice none 0 0, .slice none 0 0] T_model_Model) = w2 at *
  generalize hX : w.heap.size = X at *
  have hs := h.nob hc1
  simp only [add_mk]
  refine (whole_yes hs).mono ?_
  rintro r w4 ⟨rfl, rfl⟩
  refine ⟨_, rfl, bif_i (fun h => by cases h) (fun _ => pt_i (ldP_r hs.r rfl ((c_Room hs.m).mono ?_)))⟩
  rintro r w17 ⟨rfl, rfl⟩
  have hd : LS w17.drew.heap S A1 A2 S1 S2 b n lv := hs
  refine ⟨_, rfl, fun vs w' => ∃ Y, vs = [.pointer (some ⟨Y, 0, none⟩)] ∧ Chg Nobody w17 w' ∧ Row w'.heap Y T_model_Model (morow n), ?_, ?_⟩
  · refine pt_i (ldP_r hd.r rfl (pt_i (ldP_r hd.r rfl ⟨(ar_Places hd.a1).mono ?_, alo_r fun r2 => ?_⟩)))
    · rintro r w24 ⟨rfl, rfl⟩
      refine ⟨_, _, _, rfl, by first | (rw [add_mk, hd.r.cell]; rfl) | (rw [hd.r.cell]; rfl), (ar_Places hd.a2).mono ?_, alo_r fun r2 => ?_⟩
      · rintro r w27 ⟨rfl, rfl⟩
        refine ⟨_, _, _, rfl, alo_r fun r2 => mo_w r2 fun u hu ru => ⟨_, rfl, ?_, ru⟩⟩
        exact ((Chg.refl _ _).drew.alloc _).trans' hu fun k e => .inr (by rw [e]; exact Nat.le_refl _)
      · have hd2 := hd.nob ((Chg.refl _ w17.drew).alloc (.cells #[.int .i64 0, .slice none 0 0, .slice none 0 0, .slice none 0 0] T_model_Model))
        refine ⟨by first | (rw [add_mk, hd2.r.cell]; rfl) | (rw [hd2.r.cell]; rfl), (ar_Places hd2.a2).mono ?_⟩
        rintro r w27 ⟨rfl, rfl⟩
        refine ⟨_, _, _, rfl, mo_w r2 fun u hu ru => ⟨_, rfl, ?_, ru⟩⟩
        exact ((Chg.refl _ _).drew.alloc _).trans' hu fun k e => .inr (by rw [e]; exact Nat.le_refl _)
    · have hd2 := hd.nob ((Chg.refl _ w17.drew).alloc (.cells #[.int .i64 0, .slice none 0 0, .slice none 0 0, .slice none 0 0] T_model_Model))
      refine ⟨by first | (rw [add_mk, hd2.r.cell]; rfl) | (rw [hd2.r.cell]; rfl), by first | (rw [add_mk, hd2.r.cell]; rfl) | (rw [hd2.r.cell]; rfl), (ar_Places hd2.a1).mono ?_⟩
      rintro r w24 ⟨rfl, rfl⟩
      refine ⟨_, _, _, rfl, by first | (rw [add_mk, hd2.r.cell]; rfl) | (rw [hd2.r.cell]; rfl), (ar_Places hd2.a2).mono ?_⟩
      rintro r w27 ⟨rfl, rfl⟩
      refine ⟨_, _, _, rfl, mo_w r2 fun u hu ru => ⟨_, rfl, ?_, ru⟩⟩
      exact ((Chg.refl _ _).drew.alloc _).trans' hu fun k e => .inr (by rw [e]; exact Nat.le_refl _)
  rintro _ p w57 ⟨Y, hp, hc2, rY⟩
  simp only [List.cons.injEq, Value.pointer.injEq, and_true] at hp
  subst hp
  refine pt_i ?_
  rw [add_mk]
  refine ldS_r rY rfl ⟨fun vs w' => w' = w57 ∧ vs = [.int .i64 0], fun _ _ => 0, ⟨rfl, rfl⟩, ?_⟩
  rintro _ i w64 ⟨rfl, hi⟩
  simp only [List.cons.injEq, Value.int.injEq, and_true, true_and] at hi
  subst hi
  refine bif_i (fun h => by simp only [b1s] at h; omega) (fun _ => ?_)
  have hs3 := hs.nob hc2
  refine pt_i (ldP_r hs3.r rfl ((c_Counts hs3.m).mono ?_))
  rintro r w140 ⟨rfl, hc3⟩
  rw [e0, e1]
  refine ⟨_, _, _, _, rfl, alo_r fun r4 => ?_⟩
  simp only [add_mk]
  have hc4 : Chg Nobody w (w140.alloc (.cells #[.int .i64 0, .int .i64 0, .int .i64 0, .int .i64 0] T_sphere_Counts)) := ((hc1.trans hc2).trans hc3).alloc _
  have hc5 : Chg Nobody w64 (w140.alloc (.cells #[.int .i64 0, .int .i64 0, .int .i64 0, .int .i64 0] T_sphere_Counts)) := hc3.alloc _
  have lY := rY.lt
  have lS := hs3.r.lt
  have l1 := hs3.a1.lt
  have l2 := hs3.a2.lt
  have s3 := hc3.size
  have s2 := hc2.size
  have lX := r1.lt
  generalize w140.alloc (.cells #[.int .i64 0, .int .i64 0, .int .i64 0, .int .i64 0] T_sphere_Counts) = w143 at *
  generalize hZ : w140.heap.size = Z at *
  have al : ∀ (u : World) (x0 x1 x2 x3 : Int) (K : World → Prop), Row u.heap Z T_sphere_Counts [.int .i64 0, .int .i64 0, .int .i64 0, .int .i64 0] → (∀ u', Chg (· = Z) u u' → Row u'.heap Z T_sphere_Counts [.int .i64 x0, .int .i64 x1, .int .i64 x2, .int .i64 x3] → K u') →
      sto ⟨Z, 0, none⟩ (.int .i64 x0) u fun u1 => sto ⟨Z, 0 + 1, none⟩ (.int .i64 x1) u1 fun u2 => sto ⟨Z, 0 + 2, none⟩ (.int .i64 x2) u2 fun u3 => sto ⟨Z, 0 + 3, none⟩ (.int .i64 x3) u3 K := by
    intro u x0 x1 x2 x3 K r k
    refine sto_r r (by simp) rfl fun r3 => sto_r r3 (by simp) rfl fun r4 => sto_r r4 (by simp) rfl fun r5 => sto_r r5 (by simp) rfl fun r6 => k _ ?_ r6
    exact ((((Chg.refl (· = Z) u).setCell ⟨Z, 0, none⟩ (.int .i64 x0) (.inl rfl)).setCell ⟨Z, 0 + 1, none⟩ (.int .i64 x1) (.inl rfl)).setCell ⟨Z, 0 + 2, none⟩ (.int .i64 x2) (.inl rfl)).setCell ⟨Z, 0 + 3, none⟩ (.int .i64 x3) (.inl rfl)
  refine al _ _ _ _ _ _ r4 fun u hu ru => ?_
  have cu : Chg Nobody w64 u := hc5.trans' hu fun k e => .inr (by omega)
  have cwu : Chg Nobody w u := (hc1.trans hc2).trans cu
  have hsu : LS u.drew.heap S A1 A2 S1 S2 b n lv := hs3.nob cu.drew
  have rud : Row u.drew.heap Z T_sphere_Counts _ := ru
  have rXu : Row u.drew.heap X T_model_Model _ := cu.row (fun h => h) (hc2.row (fun h => h) r1)
  have rYu : Row u.drew.heap Y T_model_Model _ := cu.row (fun h => h) rY
  refine ldI_r (n := cV lv n) rud rfl (pt_i (ldP_r hsu.r rfl ((ar_Len hsu.a1).mono ?_)))
  rintro r w152 ⟨rfl, rfl⟩
  refine ⟨_, rfl, by rw [rud.cell]; rfl, bif_i (fun hv => ?_) (fun hv => ?_)⟩ <;> simp only [b1s] at hv
  · refine mo_io (R := fun v' w' => (cV lv n = 0 → v' = .tuple #[mo n, errV 0]) ∧ (cV lv n ≠ 0 → v' = .tuple #[mo 0, errV 17]) ∧ Chg Nobody w w') (x := 0) (E := errV 17) rXu fun u2 hu2 => ⟨fun k => absurd k hv, fun _ => rfl, ?_⟩
    exact cwu.drew.trans' hu2 fun k e => .inr (by rw [e, ← hX]; exact Nat.le_refl _)
  refine ldI_r (n := 0) rud rfl (pt_i (ldP_r hsu.r rfl ((ar_Len hsu.a2).mono ?_)))
  rintro r w137 ⟨rfl, rfl⟩
  refine ⟨_, rfl, by rw [rud.cell]; rfl, bif_i (fun h => by cases h) (fun _ => ?_)⟩
  refine ldI_r (n := (n : Int)) rYu rfl (ldS_r rYu rfl (ldS_r rYu rfl (ldS_r rYu rfl ((ml_Check h0 h1).mono ?_))))
  rintro r w152 ⟨rfl, hc6⟩
  have rX2 := hc6.row (fun h => h) rXu
  have rY2 := hc6.row (fun h => h) rYu
  refine ⟨_, rfl, err_i (fun e => absurd rfl e) (fun _ => ?_)⟩
  refine ldI_r (n := (n : Int)) rY2 rfl (ldS_r rY2 rfl (ldS_r rY2 rfl (ldS_r rY2 rfl ?_)))
  refine mo_io (R := fun v' w' => (cV lv n = 0 → v' = .tuple #[mo n, errV 0]) ∧ (cV lv n ≠ 0 → v' = .tuple #[mo 0, errV 17]) ∧ Chg Nobody w w') (x := n) (E := errV 0) rX2 fun u2 hu2 => ⟨fun _ => rfl, fun k => absurd hv k, ?_⟩
  exact (cwu.drew.trans hc6).trans' hu2 fun k e => .inr (by rw [e, ← hX]; exact Nat.le_refl _)
end
end Core
end Go.Proofs.YtdamhidnlfjkdaaGreatDoor
/-
A state without anything as bytes (layers 17 and 18's program).
Conditions: those that each theorem states.
-/
namespace Go.Proofs.YtdamhidnlfjkdaaGreatDoor
open Go Go.RowKit
set_option linter.unusedVariables false
set_option linter.unusedSimpArgs false
namespace Core
open Go.Proofs.YtdamhidnlfjkdaaGreatDoor.Seq Go.Proofs.YtdamhidnlfjkdaaGreatDoor.Cut Go.Proofs.YtdamhidnlfjkdaaGreatDoor.Web
section
variable {w w' : World} {S A1 A2 S1 S2 n base : Nat} {b : Bk} {lv : Nat → Bool}
theorem et_byte : ET Pg T_sl_uint8 T_uint8 1 1 := ET.of (by kernel_rfl) (by kernel_rfl)
/-- A number's four bytes. -/
def en4 (x : Int) : List Value := [.int .u8 (IntKind.wrap .u8 (Int.fdiv x (2 ^ (min (Int.toNat (24 : Int)) (IntKind.bits .u32))))), .int .u8 (IntKind.wrap .u8 (Int.fdiv x (2 ^ (min (Int.toNat (16 : Int)) (IntKind.bits .u32))))), .int .u8 (IntKind.wrap .u8 (Int.fdiv x (2 ^ (min (Int.toNat (8 : Int)) (IntKind.bits .u32))))), .int .u8 (IntKind.wrap .u8 x)]
theorem m_number {xs : List Int} {sb ob : Option Addr} {sc ol oc : Nat} {ys : List Value} (hs : VA w sb xs.length 1 (xs.map (.int .u32))) (ho : Own w base T_uint8 1 ob ol oc ys) (hb : base ≤ w.heap.size) (ha : ∀ g, bk sb = some g → bk ob ≠ some g ∧ g < w.heap.size) (hl : ol + 4 * xs.length ≤ 1000000) :
    Calls Pg fn_model_number #[.slice ob ol oc, .slice sb xs.length sc] w fun r w' => ∃ b' c', r = .returned (.slice b' (ol + 4 * xs.length) c') ∧ Own w' base T_uint8 1 b' (ol + 4 * xs.length) c' (ys ++ xs.flatMap en4) ∧ Chg (fun i => base ≤ i) w w' := by
  refine (calls_model_number _ _ _ _ _ _ _ (fun v' w' => ∃ b' c', v' = .slice b' (ol + 4 * xs.length) c' ∧ Own w' base T_uint8 1 b' (ol + 4 * xs.length) c' (ys ++ xs.flatMap en4) ∧ Chg (fun i => base ≤ i) w w') ?_).mono (by rintro e w' ⟨v, rfl, a, b, rfl, k⟩; exact ⟨a, b, rfl, k⟩)
  unfold sh_model_number
  let J : Nat → List Value → World → Prop := fun j vs w' => ∃ (i : Nat) (b' : Option Addr) (c' : Nat), vs = [.slice b' (ol + 4 * i) c', .int .i64 i] ∧ i ≤ xs.length ∧ Own w' base T_uint8 1 b' (ol + 4 * i) c' (ys ++ (xs.take i).flatMap en4) ∧ Chg (fun i => base ≤ i) w w' ∧ VA w' sb xs.length 1 (xs.map (.int .u32)) ∧ (∀ g, bk sb = some g → bk b' ≠ some g ∧ g < w'.heap.size) ∧ base ≤ w'.heap.size ∧ j = xs.length - i
  refine ⟨LI J, LM J, ⟨_, 0, ob, oc, rfl, by omega, by simpa using ho, Chg.refl _ _, hs, ha, hb, rfl⟩, ?_⟩
  intro _ sb4 l4 c4 i w6 hJ
  obtain ⟨i, b', c', hvs, hin, ho2, hc2, hs2, ha2, hb2, hj⟩ := hJ.at
  simp only [List.cons.injEq, Value.int.injEq, Value.slice.injEq, and_true, true_and] at hvs
  obtain ⟨⟨rfl, rfl, rfl⟩, rfl⟩ := hvs
  refine bif_i (fun hlt => ?_) (fun hlt => ?_) <;> simp only [b1s] at hlt
  · have hi : i < xs.length := by omega
    refine hs2.ix hi fun g o e cs hr hg hcs => ?_
    have hx := hcs 0 (by omega)
    rw [Nat.mul_one, Nat.add_zero, Nat.add_zero, List.getElem?_map, List.getElem?_eq_getElem hi, Option.map_some] at hx
    refine ldI_r (n := xs[i]) hr hx ⟨by decide, by decide, by decide, alo_r fun r1 => ?_⟩
    have hb3 : base ≤ (w6.alloc (.cells (en4 xs[i]).toArray T_uint8)).heap.size := by rw [al_sz]; omega
    obtain ⟨b2, c2, w12, hrun, ho3, hc3, hbk⟩ := own_appendV (sc := 4) (ty := T_sl_uint8) et_byte (ho2.alloc (.cells (en4 xs[i]).toArray T_uint8)) (VA.of_row (sz := 1) (l := 4) r1 rfl) (by intro u hu; simp at hu; rcases hu with rfl | rfl | rfl | rfl <;> rfl) (by omega) hb3 (by omega) (by omega)
    refine ⟨b2, _, c2, w12, hrun, ?_⟩
    rw [wrap64_in (by omega) (by omega)]
    have hs3 := hc3.size
    rw [al_sz] at hs3 hbk
    refine LI.again (k := xs.length - (i + 1)) ⟨i + 1, b2, c2, ?_, by omega, ?_, ?_, ?_, ?_, by omega, rfl⟩ (by rw [hj]; omega)
    · rw [show ol + 4 * (i + 1) = ol + 4 * i + 4 by omega]; rfl
    · rw [show ol + 4 * (i + 1) = ol + 4 * i + 4 by omega, List.take_succ_eq_append_getElem hi, List.flatMap_append, ← List.append_assoc, show ([xs[i]] : List Int).flatMap en4 = en4 xs[i] by simp]
      exact ho3
    · exact (hc2.alloc _).trans (hc3.mono fun k hk e => (ho2.bk_lt e).1)
    · exact (hs2.alloc _).keep hc3 fun g _ hg e => (ha2 g hg).1 e
    · intro g hg
      have := ha2 g hg
      refine ⟨fun e => ?_, by omega⟩
      rcases hbk with k | k
      · exact this.1 (k ▸ e)
      · rw [k] at e; cases e; omega
  · have hi : i = xs.length := by omega
    subst hi
    rw [List.take_length] at ho2
    exact ⟨_, _, rfl, ho2, hc2⟩
/-- The bytes of a model without anything, of one place. -/
theorem m_encoded : Calls Pg fn_model_encoded #[mo 1] w fun r w' => ∃ b' c', r = .returned (.slice b' 12 c') ∧ Own w' w.heap.size T_uint8 1 b' 12 c' (([1, 0, 0] : List Int).flatMap en4) ∧ Chg Nobody w w' := by
  refine (calls_model_encoded _ _ _ _ _ _ _ _ _ _ _ (fun v' w' => ∃ b' c', v' = .slice b' 12 c' ∧ Own w' w.heap.size T_uint8 1 b' 12 c' (([1, 0, 0] : List Int).flatMap en4) ∧ Chg Nobody w w') ?_).mono (by rintro e w' ⟨v, rfl, a, b, rfl, k⟩; exact ⟨a, b, rfl, k⟩)
  unfold sh_model_encoded
  refine alo_r fun r1 => ?_
  have hc : Chg Nobody w (w.alloc (.cells #[.int .i64 (1 : Nat), .slice none 0 0, .slice none 0 0, .slice none 0 0] T_model_Model)) := (Chg.refl _ _).alloc _
  generalize w.alloc (.cells #[.int .i64 (1 : Nat), .slice none 0 0, .slice none 0 0, .slice none 0 0] T_model_Model) = w5 at *
  have s1 := hc.size
  rw [add_mk]
  refine ldI_r (n := ((1 : Nat) : Int)) r1 rfl (ldS_r r1 rfl (alo_r fun r2 => ?_))
  have e1 : IntKind.wrap .u32 ((1 : Nat) : Int) = 1 := by decide
  have e2 : IntKind.wrap .u32 ((0 : Nat) : Int) = 0 := by decide
  rw [e1, e2] at r2 ⊢
  have hc2 : Chg Nobody w5 (w5.alloc (.cells #[.int .u32 1, .int .u32 0] T_uint32)) := (Chg.refl _ _).alloc _
  have s2 : (w5.alloc (.cells #[.int .u32 1, .int .u32 0] T_uint32)).heap.size = w5.heap.size + 1 := al_sz _ _
  generalize w5.alloc (.cells #[.int .u32 1, .int .u32 0] T_uint32) = w9 at *
  refine (m_number (base := w9.heap.size) (xs := [1, 0]) (ob := none) (oc := 0) (VA.of_row r2 rfl) Own.nil (Nat.le_refl _) (fun g hg => ⟨fun h => (by cases h), by simp only [bk_some, Option.some.injEq] at hg; omega⟩) (by simp)).mono ?_
  rintro r w11 ⟨b1, c1, rfl, ho, hc3⟩
  have hc3' : Chg Nobody w9 w11 := hc3.mono fun k hk e => absurd (show w9.heap.size ≤ k from e) (by omega)
  have r3 := hc3'.row (fun h => h) (hc2.row (fun h => h) r1)
  have s3 := hc3'.size
  refine ⟨_, _, _, rfl, ldS_r r3 rfl ⟨fun vs w' => w' = w11 ∧ vs = [.slice b1 8 c1, .int .i64 0], fun _ _ => 0, ⟨rfl, rfl⟩, ?_⟩⟩
  rintro _ sb sl sc i w18 ⟨rfl, hi⟩
  simp only [List.cons.injEq, Value.int.injEq, Value.slice.injEq, and_true, true_and] at hi
  obtain ⟨⟨rfl, rfl, rfl⟩, rfl⟩ := hi
  refine bif_i (fun h => by simp only [b1s] at h; omega) (fun _ => ?_)
  rw [add_mk]
  refine ldS_r r3 rfl (alo_r fun r4 => ?_)
  rw [e2] at r4 ⊢
  have hc4 : Chg Nobody w18 (w18.alloc (.cells #[.int .u32 0] T_uint32)) := (Chg.refl _ _).alloc _
  have s4 : (w18.alloc (.cells #[.int .u32 0] T_uint32)).heap.size = w18.heap.size + 1 := al_sz _ _
  have ho4 := ho.alloc (.cells #[.int .u32 0] T_uint32)
  generalize w18.alloc (.cells #[.int .u32 0] T_uint32) = w33 at *
  refine (m_number (base := w9.heap.size) (xs := [0]) (VA.of_row r4 rfl) ho4 (by omega) (fun g hg => ⟨fun h => ?_, by simp only [bk_some, Option.some.injEq] at hg; omega⟩) (by simp)).mono ?_
  · have := (ho.bk_lt h).2
    simp only [bk_some, Option.some.injEq] at hg; omega
  rintro r w35 ⟨b2, c2, rfl, ho5, hc5⟩
  have hc5' : Chg Nobody w9 w35 := (hc3'.trans hc4).trans' hc5 fun k e => .inr e
  have r5 := hc5'.row (fun h => h) (hc2.row (fun h => h) r1)
  refine ⟨_, _, _, rfl, ldS_r r5 rfl ⟨fun vs w' => w' = w35 ∧ vs = [.slice b2 12 c2, .int .i64 0], fun _ _ => 0, ⟨rfl, rfl⟩, ?_⟩⟩
  rintro _ sb sl sc i w42 ⟨rfl, hi⟩
  simp only [List.cons.injEq, Value.int.injEq, Value.slice.injEq, and_true, true_and] at hi
  obtain ⟨⟨rfl, rfl, rfl⟩, rfl⟩ := hi
  refine bif_i (fun h => by simp only [b1s] at h; omega) (fun _ => ⟨_, _, rfl, ho5.mono (by omega), (hc.trans hc2).trans hc5'⟩)
theorem m_Encode : Calls Pg fn_model_Encode #[mo 1] w fun r w' => ∃ b' c', r = .returned (.tuple #[.slice b' 12 c', errV 0]) ∧ Own w' w.heap.size T_uint8 1 b' 12 c' (([1, 0, 0] : List Int).flatMap en4) ∧ Chg Nobody w w' := by
  refine (calls_model_Encode _ _ _ _ _ _ _ _ _ _ _ (fun v' w' => ∃ b' c', v' = .tuple #[.slice b' 12 c', errV 0] ∧ Own w' w.heap.size T_uint8 1 b' 12 c' (([1, 0, 0] : List Int).flatMap en4) ∧ Chg Nobody w w') ?_).mono (by rintro e w' ⟨v, rfl, a, b, rfl, k⟩; exact ⟨a, b, rfl, k⟩)
  unfold sh_model_Encode
  refine alo_r fun r1 => ?_
  have hc : Chg Nobody w (w.alloc (.cells #[.int .i64 (1 : Nat), .slice none 0 0, .slice none 0 0, .slice none 0 0] T_model_Model)) := (Chg.refl _ _).alloc _
  generalize w.alloc (.cells #[.int .i64 (1 : Nat), .slice none 0 0, .slice none 0 0, .slice none 0 0] T_model_Model) = w5 at *
  have s1 := hc.size
  rw [add_mk, add_mk, add_mk]
  refine ldI_r (n := ((1 : Nat) : Int)) r1 rfl (ldS_r r1 rfl (ldS_r r1 rfl (ldS_r r1 rfl ((ml_Check (by omega) (by omega)).mono ?_))))
  rintro r w11 ⟨rfl, hc2⟩
  have r2 := hc2.row (fun h => h) r1
  have s2 := hc2.size
  refine ⟨_, rfl, err_i (fun e => absurd rfl e) (fun _ => ?_)⟩
  refine ldI_r (n := ((1 : Nat) : Int)) r2 rfl (ldS_r r2 rfl (ldS_r r2 rfl (ldS_r r2 rfl (m_encoded.mono ?_))))
  rintro r w18 ⟨b1, c1, rfl, ho, hc3⟩
  exact ⟨_, _, _, rfl, _, _, rfl, ho.mono (by omega), (hc.trans hc2).trans hc3⟩
theorem ld_Dump_no {p : Option Addr} (h : p = none ∨ ∃ S, p = some ⟨S, 0, none⟩ ∧ Row w.heap S T_load_State [.pointer none, .pointer none, .pointer none]) : Calls Pg fn_load_State_Dump #[.pointer p] w fun r w' => r = .returned (.tuple #[.slice none 0 0, errV 1]) ∧ Chg Nobody w w' := by
  refine (calls_load_State_Dump _ _ (fun v' w' => v' = .tuple #[.slice none 0 0, errV 1] ∧ Chg Nobody w w') ?_).mono (by rintro e w' ⟨v, rfl, rfl, k⟩; exact ⟨rfl, k⟩)
  unfold sh_load_State_Dump
  refine (ld_Model_no h).mono ?_
  rintro r w6 ⟨rfl, hc⟩
  refine ⟨_, _, _, _, _, _, _, _, _, _, _, rfl, alo_r fun r1 => ?_⟩
  rw [add_mk, add_mk, add_mk]
  refine mo_w r1 fun u hu ru => err_i (fun _ => ⟨rfl, (hc.alloc _).trans' hu fun k e => .inr (by rw [e]; exact hc.size)⟩) (fun e => absurd e (by decide))
theorem ld_Dump (h : LS w.heap S A1 A2 S1 S2 b 1 (fun _ => false)) : Calls Pg fn_load_State_Dump #[.pointer (some ⟨S, 0, none⟩)] w fun r w' => ∃ b' c', r = .returned (.tuple #[.slice b' 12 c', errV 0]) ∧ Own w' w.heap.size T_uint8 1 b' 12 c' (([1, 0, 0] : List Int).flatMap en4) ∧ Chg Nobody w w' := by
  refine (calls_load_State_Dump _ _ (fun v' w' => ∃ b' c', v' = .tuple #[.slice b' 12 c', errV 0] ∧ Own w' w.heap.size T_uint8 1 b' 12 c' (([1, 0, 0] : List Int).flatMap en4) ∧ Chg Nobody w w') ?_).mono (by rintro e w' ⟨v, rfl, a, b, rfl, k⟩; exact ⟨a, b, rfl, k⟩)
  unfold sh_load_State_Dump
  refine (ld_Model (by omega) (by omega) h).mono ?_
  rintro r w6 ⟨hr, _, hc⟩
  obtain rfl := hr (sm_all fun _ _ => rfl)
  have s1 := hc.size
  refine ⟨_, _, _, _, _, _, _, _, _, _, _, rfl, alo_r fun r1 => ?_⟩
  rw [add_mk, add_mk, add_mk]
  refine mo_w r1 fun u hu ru => err_i (fun e => absurd rfl e) (fun _ => ?_)
  have hcu : Chg Nobody w u := (hc.alloc _).trans' hu fun k e => .inr (by rw [e]; exact hc.size)
  have s2 := hcu.size
  refine ldI_r (n := ((1 : Nat) : Int)) ru rfl (ldS_r ru rfl (ldS_r ru rfl (ldS_r ru rfl (m_Encode.mono ?_))))
  rintro r w20 ⟨b1, c1, rfl, ho, hc3⟩
  exact ⟨_, _, _, _, rfl, _, _, rfl, ho.mono (by omega), hcu.trans hc3⟩
end
end Core
end Go.Proofs.YtdamhidnlfjkdaaGreatDoor
