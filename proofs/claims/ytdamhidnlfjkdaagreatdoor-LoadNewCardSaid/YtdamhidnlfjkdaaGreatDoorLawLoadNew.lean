/-
The law LoadNew: of how many places there can be a state; of a nil one, and one without its parts, the error; of parts that don't fit too.
Conditions: the package variable of errors is laid out.
-/
import Derived.Test.YtdamhidnlfjkdaaGreatDoorGLoad
import Derived.Test.YtdamhidnlfjkdaaGreatDoorLawP18
namespace Go.Proofs.YtdamhidnlfjkdaaGreatDoor
open Go Go.RowKit
set_option linter.unusedVariables false
set_option linter.unusedSimpArgs false
namespace Core
open Go.Proofs.YtdamhidnlfjkdaaGreatDoor.Seq Go.Proofs.YtdamhidnlfjkdaaGreatDoor.Cut Go.Proofs.YtdamhidnlfjkdaaGreatDoor.Web
theorem c_sure18 {w : World} : Calls Pg fn_plaitlaw18_sure #[] w fun e w' => e = .returned (.bool true) ∧ Chg Nobody w w' := by
  refine (calls_plaitlaw18_sure _ (fun v' w' => v' = .bool true ∧ Chg Nobody w w') ?_).mono (by rintro e w' ⟨v, rfl, rfl, k⟩; exact ⟨rfl, k⟩)
  unfold sh_plaitlaw18_sure
  refine (ld_New (n := 1) (by omega) (by omega)).mono ?_
  rintro r w2 ⟨S, A1, A2, S1, S2, b, rfl, hc, hs, _⟩
  refine ⟨_, _, rfl, err_i (fun e => absurd rfl e) (fun _ => bif_i (fun h => by cases h) (fun _ => (ld_Dump hs).mono ?_))⟩
  rintro r w6 ⟨b', c', rfl, ho, hc2⟩
  refine ⟨_, _, _, _, rfl, errV_isI _, ?_⟩
  rw [errV_nil]
  refine bif_i (fun _ => ?_) (fun h => by cases h)
  obtain ⟨g, cs, rfl, _, hr, ht, _⟩ := ho.get (by omega)
  have e0 : (([1, 0, 0] : List Int).flatMap en4) = ([0, 0, 0, 1, 0, 0, 0, 0, 0, 0, 0, 0] : List Int).map (Value.int .u8) := by rfl
  rw [e0] at ht
  have hconv := run_convert_bytes_arg (P := Pg) w6 T_sl_uint8 T_uint8 (by kernel_rfl) (by kernel_rfl) g 0 12 c' [0, 0, 0, 1, 0, 0, 0, 0, 0, 0, 0, 0] rfl (fun i hi => by
    rw [hr.cell, Nat.zero_add, own_cell ht (by omega), List.getElem?_map, List.getElem?_eq_getElem (by simpa using hi), Option.map_some, List.getD_eq_getElem?_getD, List.getElem?_eq_getElem (by simpa using hi)]
    rfl) T_string (by kernel_rfl)
  refine ⟨_, _, hconv, ?_, hc.trans hc2⟩
  rw [show strOfNums [0, 0, 0, 1, 0, 0, 0, 0, 0, 0, 0, 0] = ByteArray.mk #[0, 0, 0, 1, 0, 0, 0, 0, 0, 0, 0, 0] from rfl, beq_self_eq_true]
set_option maxHeartbeats 1000000 in
theorem c_LoadNew {w : World} {n : Int} (hg : LaidG w) (hn : -9223372036854775808 ≤ n ∧ n ≤ 9223372036854775807) :
    Calls Pg fn_plaitlaw18_LoadNew #[.int .i64 n] w fun e w' => e = .returned (.bool true) ∧ Chg Nobody w w' := by
  refine (calls_plaitlaw18_LoadNew _ _ (fun v' w' => v' = .bool true ∧ Chg Nobody w w') ?_).mono (by rintro e w' ⟨v, rfl, rfl, k⟩; exact ⟨rfl, k⟩)
  unfold sh_plaitlaw18_LoadNew
  have num : ∀ {w1 : World} {c : Int} {K : Int → World → Prop}, Chg Nobody w w1 → (∀ w2, Chg Nobody w1 w2 → Chg Nobody w w2 → K c w2) → Calls Pg fn_plaitlaw18_num #[errV c] w1 fun e w2 => ∃ q : Int, e = .returned (.int .i64 q) ∧ K q w2 := fun hc hk =>
    (c_num18 (hg.chg hc (fun h => h))).mono fun e w2 ⟨he, hc2⟩ => ⟨_, he, hk w2 hc2 (hc.trans hc2)⟩
  have sure : ∀ {w1 : World}, Chg Nobody w w1 → Calls Pg fn_plaitlaw18_sure #[] w1 fun e w2 => ∃ b : Bool, e = .returned (.bool b) ∧ (Value.bool b = .bool true ∧ Chg Nobody w w2) := fun hc =>
    c_sure18.mono fun e w2 ⟨he, hc2⟩ => ⟨true, he, rfl, hc.trans hc2⟩
  refine (ld_Model_no (.inl rfl)).mono ?_
  rintro e w6 ⟨rfl, h6⟩
  refine ⟨_, _, _, _, _, _, _, _, _, _, _, rfl, alo_r fun r1 => ?_⟩
  rw [add_mk, add_mk, add_mk]
  refine mo_w r1 fun w13 h13 _ => ?_
  have c13 : Chg Nobody w w13 := (h6.alloc _).trans' h13 fun k e => .inr (by rw [e]; exact h6.size)
  refine (ld_Dump_no (.inl rfl)).mono ?_
  rintro e w16 ⟨rfl, h16⟩
  refine ⟨_, _, _, _, rfl, alo_r fun r2 => ?_⟩
  have c19 : Chg Nobody w (w16.alloc (.cells #[.pointer none, .pointer none, .pointer none] T_load_State)) := (c13.trans h16).alloc _
  generalize w16.alloc (.cells #[.pointer none, .pointer none, .pointer none] T_load_State) = w19 at *
  refine (ld_Model_no (.inr ⟨_, rfl, r2⟩)).mono ?_
  rintro e w25 ⟨rfl, h25⟩
  refine ⟨_, _, _, _, _, _, _, _, _, _, _, rfl, alo_r fun r3 => ?_⟩
  rw [add_mk, add_mk, add_mk]
  refine mo_w r3 fun w32 h32 _ => ?_
  have c32 : Chg Nobody w w32 := ((c19.trans h25).alloc _).trans' h32 fun k e => .inr (by rw [e]; exact (c19.trans h25).size)
  refine ⟨fun _ w' => Chg Nobody w w', num c32 fun w35 _ c35 => bif_i (fun h => by cases h) (fun _ => num c35 fun w38 _ c38 => bif_i (fun h => by cases h) (fun _ => num c38 fun w41 _ c41 => bif_i (fun h => by cases h) (fun _ => c41))), ?_⟩
  intro _ w43 c43
  refine ⟨fun _ w' => (1 ≤ n ∧ n ≤ 1048576) ∧ Chg Nobody w w', ?_, ?_⟩
  · refine bif_i (fun h1 => ?_) (fun h1 => bif_i (fun h2 => ?_) (fun h2 => ⟨?_, c43⟩)) <;> simp only [b1s] at *
    · refine (ld_New_bad (by omega)).mono ?_
      rintro e w47 ⟨rfl, rfl⟩
      exact ⟨_, _, rfl, num c43 fun w50 _ c50 => bif_i (fun _ => bif_i (fun _ => sure c50) (fun h => by cases h)) (fun h => by cases h)⟩
    · refine (ld_New_bad (by omega)).mono ?_
      rintro e w47 ⟨rfl, rfl⟩
      exact ⟨_, _, rfl, num c43 fun w50 _ c50 => bif_i (fun _ => bif_i (fun _ => sure c50) (fun h => by cases h)) (fun h => by cases h)⟩
    · omega
  rintro _ w65 ⟨hn1, c65⟩
  obtain ⟨k, hk, hk1, hk2⟩ : ∃ k : Nat, (if (2000 : Int) < n then (2000 : Int) else n) = (k : Int) ∧ 1 ≤ k ∧ k ≤ 1048576 := by
    split
    · exact ⟨2000, rfl, by omega, by omega⟩
    · exact ⟨n.toNat, by omega, by omega, by omega⟩
  rw [hk]
  refine (ld_New hk1 hk2).mono ?_
  rintro e w68 ⟨S, A1, A2, S1, S2, b, rfl, h68, hs, hbs⟩
  refine ⟨_, _, rfl, fun _ w' => w' = w68, err_i (fun e => absurd rfl e) (fun _ => bif_i (fun h => by cases h) (fun _ => rfl)), ?_⟩
  rintro _ w71 rfl
  have c71 := c65.trans h68
  refine (ld_Model hk1 hk2 hs).mono ?_
  rintro e w77 ⟨he, _, h77⟩
  obtain rfl := he (sm_all fun _ _ => rfl)
  refine ⟨_, _, _, _, _, _, _, _, _, _, _, rfl, alo_r fun r4 => ?_⟩
  rw [add_mk, add_mk, add_mk]
  refine mo_w r4 fun w84 h84 r84 => err_i (fun e => absurd rfl e) (fun _ => ?_)
  have d84 : Chg Nobody w71 w84 := (h77.alloc _).trans' h84 fun k e => .inr (by rw [e]; exact h77.size)
  have c84 := c71.trans d84
  have hs2 := hs.nob d84
  refine ldI_r (n := (k : Int)) r84 rfl (bif_i (fun h => by simp at h) (fun _ => ldS_r r84 rfl (ldS_r r84 rfl (ldS_r r84 rfl (bif_i (fun h => absurd h (by decide)) (fun _ => pt_i ?_))))))
  rw [add_mk]
  refine ldP_r hs2.r rfl ((c_AddVertex (v := 0) hs2.m (by omega) rfl).mono ?_)
  rintro e w92 ⟨rfl, h92⟩
  have hne := hs2.ne
  have hch : ∀ k, b.ch k → b.has k := fun k => by unfold Bk.ch Bk.has; rintro (h | h | h | (h | h | h) | (h | h | h) | h) <;> subst h <;> simp
  have hs3 : LS w92.heap S A1 A2 S1 S2 b k (upd (fun _ => false) 0 true) := ⟨h92.c.row (fun e => hne.1 (hch _ e)) hs2.r, h92.c.row (fun e => hne.2.1 (hch _ e)) hs2.a1, h92.c.row (fun e => hne.2.2 (hch _ e)) hs2.a2, h92.a, hne⟩
  have c92 : Chg Nobody w w92 := by
    have s65 := c65.size
    exact c84.trans' h92.c fun i e => .inr (Nat.le_trans s65 (hbs i (hch i e)))
  refine ⟨_, rfl, err_i (fun e => absurd rfl e) (fun _ => (ld_Model hk1 hk2 hs3).mono ?_)⟩
  rintro e w99 ⟨_, he, h99⟩
  have e1 : cV (upd (fun _ => false) 0 true) k ≠ 0 := by
    have h2 := sm_at (n := k) (e := 0) (f := fun u => if upd (fun _ => false) 0 true u then (1 : Int) else 0) (g := fun u => 0) (by omega) fun i hi => by rw [upd_ne _ _ hi]; rfl
    unfold cV
    rw [h2, sm_zero, upd_same]; decide
  obtain rfl := he e1
  refine ⟨_, _, _, _, _, _, _, _, _, _, _, rfl, alo_r fun r5 => ?_⟩
  rw [add_mk, add_mk, add_mk]
  refine mo_w r5 fun w106 h106 _ => ?_
  have c106 : Chg Nobody w w106 := ((c92.trans h99).alloc _).trans' h106 fun k e => .inr (by rw [e]; exact (c92.trans h99).size)
  exact num c106 fun w108 _ c108 => bif_i (fun _ => sure c108) (fun h => by cases h)
end Core
end Go.Proofs.YtdamhidnlfjkdaaGreatDoor
