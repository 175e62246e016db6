/-
The law WebApart: of a face that is split, whatever ties there are, two are made that are not linked; merged again they are as they were.
Conditions: the package variable of errors is laid out; the acts can be read.
-/
import Derived.Test.YtaoemljoiahapaaGreatDoorGToldW
namespace Go.Proofs.YtaoemljoiahapaaGreatDoor
open Go Go.RowKit
set_option linter.unusedVariables false
set_option linter.unusedSimpArgs false
namespace Web
open Go.Proofs.YtaoemljoiahapaaGreatDoor.Seq Go.Proofs.YtaoemljoiahapaaGreatDoor.Cut
theorem c_WebApart {w : World} {n x y : Int} {sb : Option Addr} {sl sc : Nat} {f : Nat → Nat → Int} (hg : LaidG w) (hf : CA w sb sl 5 f) (hfw : ∀ i, i < sl → -9223372036854775808 ≤ f i 4 ∧ f i 4 ≤ 9223372036854775807) :
    Calls Pg fn_plaitlaw14_WebApart #[.int .i64 n, .slice sb sl sc, .agg #[.int .i64 x, .int .i64 y]] w fun e w' => e = .returned (.bool true) ∧ Chg Nobody w w' := by
  refine (calls_plaitlaw14_WebApart _ _ _ _ _ _ _ (fun v' w' => v' = .bool true ∧ Chg Nobody w w') ?_).mono (by rintro e w' ⟨v, rfl, rfl, k⟩; exact ⟨rfl, k⟩)
  unfold sh_plaitlaw14_WebApart
  obtain ⟨m, hm0, hm1, he⟩ := size_ex n 2 14 (by omega) (by omega) (by omega)
  rw [he]
  refine alo1 fun A w5 hA hc5 rA => ⟨by decide, ?_⟩
  have rA : Row w5.heap A T__2int [.int .i64 x, .int .i64 y] := rA
  have hg5 := hg.chg hc5 (fun h => h)
  have hAl := rA.lt
  refine (w_New (n := m) (t := 8) (by omega) (by omega) (by omega) (by omega)).mono ?_
  rintro e w8 ⟨W, R, F, L, CF, CL, EB, rfl, hc, hb, hw⟩
  have hL : LW w5 w8 W R F L CF CL EB m 8 (ones m) (fun _ => none) (fun _ => 0) := ⟨hc, hb, hw⟩
  have rA := hc.row (fun h => h) rA
  refine ⟨_, _, rfl, fun _ w' => w' = w8, err_i (fun e => absurd rfl e) (fun _ => bif_i (fun h => by cases h) (fun _ => rfl)), ?_⟩
  rintro _ w11 rfl
  have hwb := wbad_ge hL.a
  refine (c_New14 (n := m) (m := 8) (bad := bd L CL EB Nobody) (by omega) (fun k hk hb => hb.elim (hwb k hk) (fun e => e))).mono ?_
  rintro e w16 ⟨fb, fc, rfl, hfr, hc16⟩
  replace hL := hL.nob hc16
  have rA := hc16.row (fun h => h) rA
  refine ⟨_, _, _, _, _, _, _, _, rfl, ?_⟩
  refine alo1 fun B w19 hB hc19 rB => st4 rB rfl rfl rfl rfl rfl fun w23 hc23 rB => ?_
  have hcB : Chg Nobody w16 w23 := hc19.trans' hc23 (fun i e => .inr (by omega))
  have hfr2 : RF w16 (bd L CL EB (· = B)) fb m (ones m) := RF.grow hfr (FX.of_wb hL.a).ne (by omega) (fun k hk hb => by
    rcases hb with hb | rfl
    · exact .inl hb
    · omega)
  have hlts := hL.a.lts
  have hs16 := hL.c.size
  have hBl := rB.lt
  have hst : ST (· = B) w5 w23 W R F L CF CL EB m 8 fb m none 0 0 := st_new (hL.nob hcB) (hfr2.nob hcB) (by omega)
  have rA := hcB.row (fun h => h) rA
  have hne : ∀ k, wbad L CL EB k → k ≠ A ∧ k ≠ B := by
    rintro k (h | h | h) <;> omega
  have hlc : ∀ k, k = B → w5.heap.size ≤ k ∧ k ≠ W ∧ k ≠ R ∧ k ≠ F ∧ k ≠ L ∧ k ≠ CF ∧ k ≠ CL ∧ k ≠ EB := by
    rintro k h
    omega
  have hAB : A ≠ B := by omega
  clear hL hfr hfr2 hc23 hc19 hcB hw hc hc16
  refine ⟨fun _ w' => (∃ fb fl tb tl tc, ST (· = B) w5 w' W R F L CF CL EB m 8 fb fl tb tl tc) ∧ Row w'.heap A T__2int [.int .i64 x, .int .i64 y], ?_, ?_⟩
  · let J : Nat → List Value → World → Prop := fun j vs w' => ∃ (i : Nat) (fb : Option Addr) (fl fc : Nat) (tb : Option Addr) (tl tc : Nat), vs = [.int .i64 i] ∧ i ≤ 50 ∧ ST (· = B) w5 w' W R F L CF CL EB m 8 fb fl tb tl tc ∧ Row w'.heap B T_plaitref14_Web [.int .i64 (m : Int), .int .i64 8, .slice fb fl fc, .slice tb tl tc] ∧
      Row w'.heap A T__2int [.int .i64 x, .int .i64 y] ∧ j = 50 - i
    refine ⟨LI J, LM J, ⟨_, 0, fb, m, fc, none, 0, 0, rfl, by omega, hst, rB, rA, rfl⟩, ?_⟩
    clear hst rA rB
    intro _ i w28 hJ
    obtain ⟨i, fb, fl, fc, tb, tl, tc, hvs, hi, hst, rB, rA, hj⟩ := hJ.at
    simp only [List.cons.injEq, Value.int.injEq, and_true, true_and] at hvs
    subst hvs
    have rBd : Row (World.drew w28).heap B T_plaitref14_Web [.int .i64 (m : Int), .int .i64 8, .slice fb fl fc, .slice tb tl tc] := rB
    have rAd : Row (World.drew w28).heap A T__2int [.int .i64 x, .int .i64 y] := rA
    have hsd := hst.nob ((Chg.refl _ _).drew)
    refine bif_i (fun h1 => bif_i (fun h2 => ?_) (fun h2 => ⟨⟨_, _, _, _, _, hst⟩, rA⟩)) (fun h1 => ⟨⟨_, _, _, _, _, hst⟩, rA⟩)
    simp only [b1s] at h1 h2
    refine ld4 rBd ?_
    refine ((hf.nob (hc5.trans hst.c)).drew).ix (by omega) fun a ha hcell => ?_
    refine ⟨_, hcell 0 (by omega), ⟨_, hcell 1 (by omega), ⟨_, hcell 2 (by omega), ⟨_, hcell 3 (by omega), ⟨_, hcell 4 (by omega), ?_⟩⟩⟩⟩⟩
    refine (c_do (fc := fc) hg5 hsd (fun k hk => by subst hk; exact rBd.lt) (hfw i (by omega))).mono ?_
    rintro e w44 ⟨fb', fl', fc', tb', tl', tc', rfl, hst', hcd⟩
    have rB' := hcd.row (fun h => (hne B h).2 rfl) rBd
    have rA' := hcd.row (fun h => (hne A h).1 rfl) rAd
    refine ⟨_, _, _, _, _, _, _, _, _, rfl, st4 rB' rfl rfl rfl rfl rfl fun w49 hc49 rB'' => ?_⟩
    rw [wrap64_in (by omega) (by omega)]
    exact LI.again (k := 50 - (i + 1)) ⟨i + 1, fb', fl', fc', tb', tl', tc', rfl, by omega, hst'.put hc49 hlc, rB'', hc49.row (fun e => hAB e) rA', rfl⟩ (by rw [hj]; omega)
  rintro _ w50 ⟨⟨fb, fl, tb, tl, tc, hst⟩, rA⟩
  have rA : Row (World.drew w50).heap A T__2int [.int .i64 x, .int .i64 y] := rA
  replace hst := hst.nob ((Chg.refl _ _).drew)
  generalize World.drew w50 = w51 at *
  refine ixA_i (by omega) (ldI_r rA rfl ?_)
  obtain ⟨hz1, a, haM, hae⟩ := idx_ex x (show 0 < m by omega) (by omega)
  refine ⟨hz1, ixA_i (by omega) (ldI_r rA rfl ?_)⟩
  obtain ⟨hz2, b, hbM, hbe⟩ := idx_ex y (show 0 < m by omega) (by omega)
  refine ⟨hz2, ?_⟩
  rw [hae, hbe]
  obtain ⟨X, D, key, T, hL, hR⟩ := hst
  have hFX := hR.x
  clear hR rA
  obtain ⟨i, Ax, kx, hx1, hx2⟩ := hFX.at haM
  obtain ⟨hsplit, hdrop⟩ := split_at hx2
  have hp := perm_one hx1
  have hAle := hFX.each (List.mem_of_getElem? hx1)
  have hcw : ∀ {w' : World} {X'}, LW w5 w' W R F L CF CL EB m 8 X' D key → Chg Nobody w w' := fun h => hc5.trans h.c
  have hwalk := w_Walk (x := a) (pre := Ax.take kx) (post := Ax.drop (kx + 1)) (q' := wo X i i X.length) (by rw [← hsplit]; exact hL.a.perm hp)
  rw [← hsplit] at hwalk
  refine hwalk.mono ?_
  rintro e w57 ⟨ob, oc, rfl, hown, hws⟩
  have hwb51 := wbad_ge hL.a
  have keepO : ∀ {w1 w2 : World}, Chg (wbad L CL EB) w1 w2 → Own w1 w51.heap.size T_int 1 ob Ax.length oc (ivs (a :: Ax.drop (kx + 1) ++ Ax.take kx)) → Own w2 w51.heap.size T_int 1 ob Ax.length oc (ivs (a :: Ax.drop (kx + 1) ++ Ax.take kx)) := fun c h => h.keep c fun k hk e => hwb51 k (h.bk_lt hk).1 e
  replace hL := hL.step hws
  have hL1 : LW w5 w57 W R F L CF CL EB m 8 (Ax :: wo X i i X.length) D key := hL
  clear hL hws
  refine ⟨_, _, _, _, rfl, err_i (fun e => absurd rfl e) (fun _ => ?_)⟩
  have haA := List.mem_of_getElem? hx2
  have yes : ∀ {w' : World}, Chg Nobody w w' → Calls Pg fn_plaitlaw14_sure #[] w' fun e w'' => ∃ b : Bool, e = .returned (.bool b) ∧ ([Value.bool b] = [.bool true] ∧ Chg Nobody w w'') := fun hc =>
    (c_sure14 (hg.chg hc (fun h => h))).mono fun e w'' ⟨he, hc'⟩ => ⟨true, he, rfl, hc.trans hc'⟩
  have endj : ∀ (b : Bool) (w' : World), ([Value.bool b] = [Value.bool true] ∧ Chg Nobody w w') → (Value.bool b = Value.bool true ∧ Chg Nobody w w') := fun b w' ⟨h1, h2⟩ => ⟨by simpa using h1, h2⟩
  by_cases hab : a = b
  · subst hab
    refine (w_Split_same hL1.a haA).mono ?_
    rintro e w60 ⟨rfl, hws⟩
    replace hL1 := hL1.step hws
    refine ⟨_, rfl, err_i (fun _ => ?_) (fun e => by omega)⟩
    refine (w_Same_yes hL1.a haA haA).mono ?_
    rintro e w64 ⟨rfl, hws⟩
    replace hL1 := hL1.step hws
    refine ⟨_, _, rfl, fun vs w' => vs = [.bool true] ∧ Chg Nobody w w', ⟨errV_isI _, bif_i (fun _ => bif_i (fun _ => ?_) (fun h => by simp at h)) (fun h => absurd h (by decide))⟩, fun _ => endj⟩
    refine (c_num14 (hL1.g hg5)).mono ?_
    rintro e w68 ⟨rfl, hc⟩
    replace hL1 := hL1.nob hc
    exact ⟨_, rfl, bif_i (fun _ => yes (hcw hL1)) (fun h => by simp at h)⟩
  have hbne : ((a : Int) == (b : Int)) = false := by
    rw [beq_eq_false_iff_ne]; omega
  by_cases hbA : b ∈ Ax
  case neg =>
    obtain ⟨j, Ay, ky, hy1, hy2⟩ := hFX.at hbM
    have hij : i ≠ j := fun e => by subst e; rw [hx1] at hy1; cases hy1; exact hbA (List.mem_of_getElem? hy2)
    have hp2 := wo_perm2 hx1 hy1 hij
    have hbB := List.mem_of_getElem? hy2
    have hL2 : LW w5 w57 W R F L CF CL EB m 8 (Ax :: Ay :: wo X i j X.length) D key := ⟨hL1.c, hL1.b, hL1.a.perm (hp.symm.trans hp2)⟩
    refine (w_Split_apart hL2.a haA hbB).mono ?_
    rintro e w60 ⟨rfl, hws⟩
    replace hL2 := hL2.step hws
    refine ⟨_, rfl, err_i (fun _ => ?_) (fun e => by omega)⟩
    refine (w_Same_no hL2.a haA hbB).mono ?_
    rintro e w64 ⟨rfl, hws⟩
    replace hL2 := hL2.step hws
    refine ⟨_, _, rfl, fun vs w' => vs = [.bool true] ∧ Chg Nobody w w', ⟨errV_isI _, bif_i (fun _ => bif_i (fun h => by rw [hbne] at h; cases h) (fun _ => bif_i (fun _ => ?_) (fun h => ?_))) (fun h => absurd h (by decide))⟩, fun _ => endj⟩
    · refine (c_num14 (hL2.g hg5)).mono ?_
      rintro e w80 ⟨rfl, hc⟩
      replace hL2 := hL2.nob hc
      exact ⟨_, rfl, bif_i (fun _ => bif_i (fun _ => yes (hcw hL2)) (fun h => by cases h)) (fun h => by simp at h)⟩
    · simp only [b1s] at h; omega
  -- one face in two, and one again
  have hm2 : b ∈ Ax.drop (kx + 1) ++ Ax.take kx := by
    rw [hsplit] at hbA
    simp only [List.mem_append, List.mem_cons] at hbA ⊢
    rcases hbA with h | h | h
    · exact .inr h
    · exact absurd h.symm hab
    · exact .inl h
  obtain ⟨mid, rest, hs⟩ := List.append_of_mem hm2
  have hL2 : LW w5 w57 W R F L CF CL EB m 8 ((Ax.take kx ++ a :: Ax.drop (kx + 1)) :: wo X i i X.length) D key := by rw [← hsplit]; exact hL1
  refine (w_SplitN hL2.a hs).mono ?_
  rintro e w60 ⟨rfl, hws, hnr⟩
  replace hL2 := hL2.step hws
  replace hown := keepO hws.c hown
  obtain ⟨nd1, nd2, nd3, nd4⟩ := hL2.a.nodup
  refine ⟨_, rfl, err_i (fun e => absurd rfl e) (fun _ => ?_)⟩
  refine (w_Linked hL2.a haM hbM).mono ?_
  rintro e w89 ⟨ok, rfl, hok, hws⟩
  replace hL2 := hL2.step hws
  replace hown := keepO hws.c hown
  have hokf : ok = false := by
    cases ok with
    | false => rfl
    | true => exact absurd (hok.1 rfl) hnr
  subst hokf
  refine ⟨_, _, rfl, err_i (fun e => absurd rfl e) (fun _ => bif_i (fun h => by cases h) (fun _ => ?_))⟩
  refine (w_Merge (pra := []) (prb := []) hL2.a hnr).mono ?_
  rintro e w92 ⟨rfl, hws⟩
  replace hL2 := hL2.step hws
  replace hown := keepO hws.c hown
  refine ⟨_, rfl, err_i (fun e => absurd rfl e) (fun _ => ?_)⟩
  have e1 : (a :: mid ++ []) ++ (b :: rest ++ []) = [] ++ a :: (Ax.drop (kx + 1) ++ Ax.take kx) := by rw [hs]; simp
  rw [e1] at hL2
  refine (w_Walk hL2.a).mono ?_
  rintro e w96 ⟨qb, qc, rfl, hown2, hws⟩
  replace hL2 := hL2.step hws
  replace hown := keepO hws.c hown
  refine ⟨_, _, _, _, rfl, errV_isI _, bif_i (fun _ => ?_) (fun h => absurd h (by decide))⟩
  have hlen : ([] ++ a :: (Ax.drop (kx + 1) ++ Ax.take kx)).length = Ax.length := by
    conv => rhs; rw [hsplit]
    simp; omega
  have hia1 : IA w96 ob Ax.length (Seq.ints (a :: Ax.drop (kx + 1) ++ Ax.take kx)) := IA.of_own hown (by simp [ivs, Function.comp_def])
  have hia2 : IA w96 qb ([] ++ a :: (Ax.drop (kx + 1) ++ Ax.take kx)).length (Seq.ints (a :: Ax.drop (kx + 1) ++ Ax.take kx)) := IA.of_own hown2 (by simp [ivs, Function.comp_def])
  refine (c_ints14 hia1 hia2 (by omega)).mono ?_
  rintro e w99 ⟨rfl, hc⟩
  replace hL2 := hL2.nob hc
  exact ⟨_, rfl, bif_i (fun _ => sure_fin hg (hcw hL2)) (fun h => by simp at h)⟩
end Web
end Go.Proofs.YtaoemljoiahapaaGreatDoor
