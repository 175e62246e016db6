/-
The law WebRuns: whatever is merged, split, tied and untied: faces, what is linked, the weakest ties, and the errors.
Conditions: the package variable of errors is laid out; the acts can be read.
-/
import Derived.Test.YtaoemljoiahapaaGreatDoorGToldW
namespace Go.Proofs.YtaoemljoiahapaaGreatDoor
open Go Go.RowKit
set_option linter.unusedVariables false
set_option linter.unusedSimpArgs false
namespace Web
open Go.Proofs.YtaoemljoiahapaaGreatDoor.Seq Go.Proofs.YtaoemljoiahapaaGreatDoor.Cut
section
variable {lc : Nat → Prop} {w₀ w w' : World} {W R F L CF CL EB n t : Nat} {fl fc tl tc : Nat} {fb tb : Option Addr}
/-- A tie is tied just where the reference has it. -/
theorem c_tied_at {e : Int} (hs : ST lc w₀ w W R F L CF CL EB n t fb fl tb tl tc) : Calls Pg fn_web_Web_Tied #[.pointer (some ⟨W, 0, none⟩), .int .i64 e] w fun r w' => w' = w ∧ ∃ z : Bool, r = .returned (.bool z) ∧
    Calls Pg fn_plaitref14_At #[.agg #[.int .i64 (n : Nat), .int .i64 (t : Nat), .slice fb fl fc, .slice tb tl tc], .int .i64 e] w fun r w' => ∃ k : Int, r = .returned (.int .i64 k) ∧ (z = decide (k ≥ 0)) ∧ Chg Nobody w w' := by
  obtain ⟨X, D, key, T, hL, hR⟩ := hs
  have hat : ∀ (z : Bool), ((∃ (i : Nat) (t : Ti), T[i]? = some t ∧ (t.e : Int) = e) ↔ z = true) → Calls Pg fn_plaitref14_At #[.agg #[.int .i64 (n : Nat), .int .i64 (t : Nat), .slice fb fl fc, .slice tb tl tc], .int .i64 e] w fun r w' => ∃ k : Int, r = .returned (.int .i64 k) ∧ (z = decide (k ≥ 0)) ∧ Chg Nobody w w' := by
    intro z hz
    have htl := hR.tl_le
    refine (c_At14 hR.t (by omega)).mono ?_
    rintro r w' ⟨k, rfl, hc, hk⟩
    refine ⟨k, rfl, ?_, hc⟩
    rcases hk with ⟨i, t, rfl, hi, he⟩ | ⟨rfl, hn⟩
    · rw [hz.1 ⟨i, t, hi, he⟩]; simp
    · cases z with
      | false => simp
      | true =>
        obtain ⟨i, t, hi, he⟩ := hz.2 rfl
        exact absurd he (hn t (List.mem_of_getElem? hi))
  by_cases he : 0 ≤ e ∧ e < t
  · obtain ⟨i, rfl⟩ := Int.eq_ofNat_of_zero_le he.1
    refine (w_Tied (e := i) hL.a (by omega)).mono ?_
    rintro r w' ⟨rfl, rfl⟩
    refine ⟨rfl, _, rfl, hat _ ?_⟩
    constructor
    · rintro ⟨j, s, hj, hs⟩
      have := (hR.r.to s (List.mem_of_getElem? hj)).1
      rw [show s.e = i by omega] at this
      rw [this]; rfl
    · intro h
      cases hD : D i with
      | none => rw [hD] at h; cases h
      | some ab =>
        obtain ⟨s, hs, hse⟩ := hR.r.of i ab.1 ab.2 hD
        obtain ⟨j, hj⟩ := List.getElem?_of_mem hs
        exact ⟨j, s, hj, by omega⟩
  · refine (w_Tied_bad hL.a he).mono ?_
    rintro r w' ⟨rfl, rfl⟩
    refine ⟨rfl, _, rfl, hat _ ?_⟩
    constructor
    · rintro ⟨j, s, hj, hs⟩
      have := (hR.d _ _ _ (hR.r.to s (List.mem_of_getElem? hj)).1).1
      exact absurd ⟨by omega, by omega⟩ he
    · intro h; cases h
end
theorem c_WebRuns {w : World} {n : Int} {sb : Option Addr} {sl sc : Nat} {f : Nat → Nat → Int} (hg : LaidG w) (hf : CA w sb sl 5 f) (hfw : ∀ i, i < sl → -9223372036854775808 ≤ f i 4 ∧ f i 4 ≤ 9223372036854775807) :
    Calls Pg fn_plaitlaw14_WebRuns #[.int .i64 n, .slice sb sl sc] w fun e w' => e = .returned (.bool true) ∧ Chg Nobody w w' := by
  refine (calls_plaitlaw14_WebRuns _ _ _ _ _ (fun v' w' => v' = .bool true ∧ Chg Nobody w w') ?_).mono (by rintro e w' ⟨v, rfl, rfl, k⟩; exact ⟨rfl, k⟩)
  unfold sh_plaitlaw14_WebRuns
  obtain ⟨m, hm0, hm1, he⟩ := size_ex n 1 14 (by omega) (by omega) (by omega)
  rw [he]
  refine ⟨by decide, ?_⟩
  refine (w_New (n := m) (t := 8) (by omega) (by omega) (by omega) (by omega)).mono ?_
  rintro e w8 ⟨W, R, F, L, CF, CL, EB, rfl, hc, hb, hw⟩
  have hL : LW w w8 W R F L CF CL EB m 8 (ones m) (fun _ => none) (fun _ => 0) := ⟨hc, hb, hw⟩
  refine ⟨_, _, rfl, fun _ w' => w' = w8, err_i (fun e => absurd rfl e) (fun _ => bif_i (fun h => by cases h) (fun _ => rfl)), ?_⟩
  rintro _ w11 rfl
  have hwb := wbad_ge hL.a
  refine (c_New14 (n := m) (m := 8) (bad := bd L CL EB Nobody) (by omega) (fun k hk hb => hb.elim (hwb k hk) (fun e => e))).mono ?_
  rintro e w16 ⟨fb, fc, rfl, hfr, hc16⟩
  replace hL := hL.nob hc16
  refine ⟨_, _, _, _, _, _, _, _, rfl, ?_⟩
  refine alo1 fun B w19 hB hc19 rB => st4 rB rfl rfl rfl rfl rfl fun w23 hc23 rB => ?_
  have hcB : Chg Nobody w16 w23 := hc19.trans' hc23 (fun i e => .inr (by omega))
  have hfr2 : RF w16 (bd L CL EB (· = B)) fb m (ones m) := RF.grow hfr (FX.of_wb hL.a).ne (by omega) (fun k hk hb => by
    rcases hb with hb | rfl
    · exact .inl hb
    · omega)
  have hlts := hL.a.lts
  have hs16 := hL.c.size
  have hBl := rB.lt
  have hst : ST (· = B) w w23 W R F L CF CL EB m 8 fb m none 0 0 := st_new (hL.nob hcB) (hfr2.nob hcB) (by omega)
  have hne : ∀ k, wbad L CL EB k → k ≠ B := by
    rintro k (h | h | h) <;> omega
  have hlc : ∀ k, k = B → w.heap.size ≤ k ∧ k ≠ W ∧ k ≠ R ∧ k ≠ F ∧ k ≠ L ∧ k ≠ CF ∧ k ≠ CL ∧ k ≠ EB := by
    rintro k h
    omega
  clear hL hfr hfr2 hc23 hc19 hcB hw hc hc16
  -- both stand, and the reference's is in its record
  let P : World → Prop := fun w' => ∃ (fb : Option Addr) (fl fc : Nat) (tb : Option Addr) (tl tc : Nat), ST (· = B) w w' W R F L CF CL EB m 8 fb fl tb tl tc ∧ Row w'.heap B T_plaitref14_Web [.int .i64 (m : Int), .int .i64 8, .slice fb fl fc, .slice tb tl tc]
  refine ⟨fun _ w' => P w', ?_, ?_⟩
  · let J : Nat → List Value → World → Prop := fun j vs w' => ∃ (i : Nat), vs = [.int .i64 i] ∧ i ≤ 70 ∧ P w' ∧ j = 70 - i
    refine ⟨LI J, LM J, ⟨_, 0, rfl, by omega, ⟨fb, m, fc, none, 0, 0, hst, rB⟩, rfl⟩, ?_⟩
    clear hst rB
    intro _ i w24 hJ
    obtain ⟨i, hvs, hi, hP, hj⟩ := hJ.at
    simp only [List.cons.injEq, Value.int.injEq, and_true, true_and] at hvs
    subst hvs
    refine ⟨fun _ w' => w' = w24 ∧ i < sl ∧ i < 70, ?_, ?_⟩
    · refine bif_i (fun h1 => bif_i (fun h2 => ?_) (fun h2 => hP)) (fun h1 => hP)
      simp only [b1s] at h1 h2
      exact ⟨rfl, by omega, by omega⟩
    rintro _ w26 ⟨rfl, hil, hi70⟩
    obtain ⟨fb, fl, fc, tb, tl, tc, hst, rB⟩ := hP
    have rBd : Row (World.drew w26).heap B T_plaitref14_Web [.int .i64 (m : Int), .int .i64 8, .slice fb fl fc, .slice tb tl tc] := rB
    have hsd := hst.nob ((Chg.refl _ _).drew)
    have hBd := rBd.lt
    -- what comes behind an act
    have after : ∀ {w57 : World}, P w57 → ∀ {b : Bool}, b = true →
        bif (!b) then (
        (Value.bool false = .bool true ∧ Chg Nobody w (World.drew w57))) else (
        ldI .i64 ⟨B, 0, none⟩ (World.drew w57) fun n56_58 =>
        ldI .i64 (Addr.add ⟨B, 0, none⟩ 1) (World.drew w57) fun n56_59 =>
        ldS (Addr.add ⟨B, 0, none⟩ 2) (World.drew w57) fun s56_60b s56_60l s56_60c =>
        ldS (Addr.add ⟨B, 0, none⟩ 3) (World.drew w57) fun s56_61b s56_61l s56_61c =>
        ixS sb sl (i : Int) 5 fun a59_62 =>
        ldI .i64 (a59_62.add 2) (World.drew w57) fun n61_63 =>
        ixS sb sl (i : Int) 5 fun a64_64 =>
        ldI .i64 (a64_64.add 1) (World.drew w57) fun n66_65 =>
        Calls Pg fn_plaitlaw14_told #[(Value.pointer (some ⟨W, 0, none⟩)), (Value.agg #[(Value.int .i64 n56_58), (Value.int .i64 n56_59), (Value.slice s56_60b s56_60l s56_60c), (Value.slice s56_61b s56_61l s56_61c)]), (Value.int .i64 n61_63), (Value.int .i64 n66_65)] (World.drew w57) fun e68 w67 => ∃ b67_66 : Bool, e68 = .returned (Value.bool b67_66) ∧
        bif (!b67_66) then (
        (Value.bool false = .bool true ∧ Chg Nobody w w67)) else (
        ixS sb sl (i : Int) 5 fun a74_69 =>
        ldI .i64 (a74_69.add 3) w67 fun n76_70 =>
        ldI .i64 ⟨B, 0, none⟩ w67 fun n78_71 =>
        ldI .i64 (Addr.add ⟨B, 0, none⟩ 1) w67 fun n78_72 =>
        ldS (Addr.add ⟨B, 0, none⟩ 2) w67 fun s78_73b s78_73l s78_73c =>
        ldS (Addr.add ⟨B, 0, none⟩ 3) w67 fun s78_74b s78_74l s78_74c =>
        ixS sb sl (i : Int) 5 fun a81_75 =>
        ldI .i64 (a81_75.add 3) w67 fun n83_76 =>
        Calls Pg fn_web_Web_Tied #[(Value.pointer (some ⟨W, 0, none⟩)), (Value.int .i64 n76_70)] w67 fun e79 w78 => ∃ b77_77 : Bool, e79 = .returned (Value.bool b77_77) ∧
        World.cell? w78 (a81_75.add 3) = some (Value.int .i64 n83_76) ∧ World.cell? w78 ⟨B, 0, none⟩ = some (Value.int .i64 n78_71) ∧ World.cell? w78 (Addr.add ⟨B, 0, none⟩ 1) = some (Value.int .i64 n78_72) ∧ World.cell? w78 (Addr.add ⟨B, 0, none⟩ 2) = some (Value.slice s78_73b s78_73l s78_73c) ∧ World.cell? w78 (Addr.add ⟨B, 0, none⟩ 3) = some (Value.slice s78_74b s78_74l s78_74c) ∧
        Calls Pg fn_plaitref14_At #[(Value.agg #[(Value.int .i64 n78_71), (Value.int .i64 n78_72), (Value.slice s78_73b s78_73l s78_73c), (Value.slice s78_74b s78_74l s78_74c)]), (Value.int .i64 n83_76)] w78 fun e82 w81 => ∃ n84_80 : Int, e82 = .returned (Value.int .i64 n84_80) ∧
        bif (!(b77_77 == (decide (n84_80 ≥ (0 : Int))))) then (
        (Value.bool false = .bool true ∧ Chg Nobody w w81)) else (
        (LI J [(Value.int .i64 (IntKind.wrap .i64 ((i : Int) + (1 : Int))))] w81 ∧ LM J [(Value.int .i64 (IntKind.wrap .i64 ((i : Int) + (1 : Int))))] w81 < LM J [(Value.int .i64 (i : Int))] w26)))) := by
      intro w57 hP57 b hb1
      obtain ⟨fb, fl, fc, tb, tl, tc, hst, rB⟩ := hP57
      subst hb1
      have rB5 : Row (World.drew w57).heap B T_plaitref14_Web [.int .i64 (m : Int), .int .i64 8, .slice fb fl fc, .slice tb tl tc] := rB
      have hst5 := hst.nob ((Chg.refl _ _).drew)
      refine bif_i (fun h => by cases h) (fun _ => ld4 rB5 ?_)
      have hcell : ∀ {w' : World}, ST (· = B) w w' W R F L CF CL EB m 8 fb fl tb tl tc → ∀ {k : Nat} {K : Int → Addr → Prop}, k < 5 → (∀ a : Addr, w'.cell? (a.add k) = some (.int .i64 (f i k)) → K (f i k) a) → ixS sb sl (i : Int) 5 fun a => ldI .i64 (a.add k) w' fun x => K x a := by
        intro w' hst k K hk hK
        exact (hf.nob hst.c).ix hil (fun a _ hc => ⟨_, hc k hk, hK a (hc k hk)⟩)
      refine hcell hst5 (k := 2) (by omega) fun _ _ => hcell hst5 (k := 1) (by omega) fun _ _ => ?_
      refine (c_told14 (fc := fc) hg hst5 (fun k hk => by subst hk; exact rB5.lt)).mono ?_
      rintro e w67 ⟨rfl, hst6, hcd⟩
      have rB6 := hcd.row (fun h => hne B h rfl) rB5
      refine ⟨_, rfl, bif_i (fun h => by cases h) (fun _ => ?_)⟩
      refine hcell hst6 (k := 3) (by omega) fun _ _ => ld4 rB6 (hcell hst6 (k := 3) (by omega) fun a ha => ?_)
      refine (c_tied_at (fc := fc) hst6).mono ?_
      rintro e w78 ⟨rfl, z, rfl, hat⟩
      refine ⟨_, rfl, ha, rB6.cell 0, rB6.cellA 1, rB6.cellA 2, rB6.cellA 3, hat.mono ?_⟩
      rintro e w81 ⟨k, rfl, rfl, hc⟩
      refine ⟨_, rfl, bif_i (fun h => by simp at h) (fun _ => ?_)⟩
      rw [wrap64_in (by omega) (by omega)]
      exact LI.again (k := 70 - (i + 1)) ⟨i + 1, rfl, by omega, ⟨fb, fl, fc, tb, tl, tc, hst6.nob hc, hc.row (fun h => h) rB6⟩, rfl⟩ (by rw [hj]; omega)
    refine ld4 rBd ?_
    refine ((hf.nob hst.c).drew).ix hil fun a ha hcell => ?_
    refine ⟨_, hcell 0 (by omega), ⟨_, hcell 1 (by omega), ⟨_, hcell 2 (by omega), ⟨_, hcell 3 (by omega), ⟨_, hcell 4 (by omega), ?_⟩⟩⟩⟩⟩
    refine ⟨?_, ?_⟩
    · refine (c_do (fc := fc) hg hsd (fun k hk => by subst hk; exact hBd) (hfw i hil)).mono ?_
      rintro e w42 ⟨fb', fl', fc', tb', tl', tc', rfl, hst', hcd⟩
      have rB' := hcd.row (fun h => hne B h rfl) rBd
      refine ⟨_, _, _, _, _, _, _, _, _, rfl, ?_⟩
      refine alo1 fun Q w45 hQ hc45 rQ => st4 rQ rfl rfl rfl rfl rfl fun w49 hc49 rQ => ld4 rQ ?_
      have hcQ : Chg Nobody w42 w49 := hc45.trans' hc49 (fun i e => .inr (by omega))
      refine st4 (hcQ.row (fun h => h) rB') rfl rfl rfl rfl rfl fun w57 hc57 rB'' => ?_
      exact after ⟨fb', fl', fc', tb', tl', tc', (hst'.nob hcQ).put hc57 hlc, rB''⟩ rfl
    · refine alo1 fun Q w84 hQ hc84 rQ => ?_
      have rB84 := hc84.row (fun h => h) rBd
      have hk : ∀ k, w84.cell? (a.add k) = (World.drew w26).cell? (a.add k) := fun k => Seq.cell_eq (hc84.block _ (by rw [add_block]; exact ha) (fun h => h))
      have hQB : Q ≠ B := by omega
      have hQl := rQ.lt
      have hBl2 := rB84.lt
      have hst84 : ST (fun k => k = B ∨ k = Q) w w84 W R F L CF CL EB m 8 fb fl tb tl tc := (hsd.grow (lc' := fun k => k = B ∨ k = Q) (fun k hk => hk.imp id fun e => by omega)).nob hc84
      have hQw : ∀ k, (k = B ∨ k = Q) → w.heap.size ≤ k ∧ k ≠ W ∧ k ≠ R ∧ k ≠ F ∧ k ≠ L ∧ k ≠ CF ∧ k ≠ CL ∧ k ≠ EB := by
        have h1 : ∀ (X : List (List Nat)) (D : Nat → Option (Nat × Nat)) (key : Nat → Int), LW w (World.drew w26) W R F L CF CL EB m 8 X D key → w.heap.size ≤ (World.drew w26).heap.size ∧ W < (World.drew w26).heap.size ∧ R < (World.drew w26).heap.size ∧ F < (World.drew w26).heap.size ∧ L < (World.drew w26).heap.size ∧ CF < (World.drew w26).heap.size ∧ CL < (World.drew w26).heap.size ∧ EB < (World.drew w26).heap.size := fun X D key h => ⟨h.c.size, h.a.lts⟩
        obtain ⟨X, D, key, T, h2, _⟩ := hsd
        have h3 := h1 _ _ _ h2
        rintro k (rfl | rfl)
        · exact hlc k rfl
        · omega
      refine ⟨by rw [show a = a.add 0 from rfl, hk]; exact hcell 0 (by omega), by rw [hk]; exact hcell 1 (by omega), by rw [hk]; exact hcell 2 (by omega), by rw [hk]; exact hcell 3 (by omega), by rw [hk]; exact hcell 4 (by omega), rB84.cell 0, rB84.cellA 1, rB84.cellA 2, rB84.cellA 3, ?_⟩
      refine (c_do (fc := fc) hg hst84 (fun k hk => by rcases hk with rfl | rfl <;> omega) (hfw i hil)).mono ?_
      rintro e w90 ⟨fb', fl', fc', tb', tl', tc', rfl, hst', hcd⟩
      have hQne : ∀ k, wbad L CL EB k → k ≠ Q := by
        have := hQw Q (.inr rfl)
        rintro k (h | h | h) <;> omega
      have rB' := hcd.row (fun h => hne B h rfl) rB84
      have rQ' := hcd.row (fun h => hQne Q h rfl) rQ
      refine ⟨_, _, _, _, _, _, _, _, _, rfl, ?_⟩
      refine st4 rQ' rfl rfl rfl rfl rfl fun w95 hc95 rQ => ld4 rQ ?_
      refine st4 (hc95.row (fun h => hQB h.symm) rB') rfl rfl rfl rfl rfl fun w103 hc103 rB'' => ?_
      exact after ⟨fb', fl', fc', tb', tl', tc', ((hst'.put (hc95.mono fun k _ e => .inr e) hQw).put (hc103.mono fun k _ e => .inl e) hQw).weak (fun k hk => .inl hk), rB''⟩ rfl
  rintro _ w129 hP
  let J2 : Nat → List Value → World → Prop := fun j vs w' => ∃ (i : Nat), vs = [.int .i64 i] ∧ i ≤ m ∧ P w' ∧ j = m - i
  refine ⟨LI J2, LM J2, ⟨_, 0, rfl, by omega, hP, rfl⟩, ?_⟩
  intro _ i w133 hJ
  obtain ⟨i, hvs, hi, ⟨fb, fl, fc, tb, tl, tc, hst, rB⟩, hj⟩ := hJ.at
  simp only [List.cons.injEq, Value.int.injEq, and_true, true_and] at hvs
  subst hvs
  refine bif_i (fun h1 => ?_) (fun h1 => sure_fin hg hst.c)
  simp only [b1s] at h1
  refine ld4 rB ?_
  refine (c_told14 (fc := fc) hg hst (fun k hk => by subst hk; exact rB.lt)).mono ?_
  rintro e w139 ⟨rfl, hst6, hcd⟩
  have rB6 := hcd.row (fun h => hne B h rfl) rB
  refine ⟨_, rfl, bif_i (fun h => by cases h) (fun _ => ?_)⟩
  rw [wrap64_in (by omega) (by omega)]
  exact LI.again (k := m - (i + 1)) ⟨i + 1, rfl, by omega, ⟨fb, fl, fc, tb, tl, tc, hst6, rB6⟩, rfl⟩ (by rw [hj]; omega)
end Web
end Go.Proofs.YtaoemljoiahapaaGreatDoor
