/-
The law RingRuns: whatever is merged, split and turned, all that is told of each cycle is what lists tell.
Conditions: the package variable of errors is laid out; the acts can be read.
-/
import Derived.Test.YtledchlbmilneaaDoorLawTold05
namespace Go.Proofs.YtledchlbmilneaaDoor
open Go Go.RowKit
set_option linter.unusedVariables false
set_option linter.unusedSimpArgs false
namespace Seq
/-- What stands between two steps: the cycles and the lists. -/
structure RQ (w₀ w : World) (R F L m : Nat) (X : List (List Nat)) (b : Option Addr) (l : Nat) : Prop where
  s : LR w₀ w R F L m (fun _ => 0) X
  r : RF w (fun k => k = L) b l X
section
variable {w₀ w w' : World} {R F L m : Nat} {X X' : List (List Nat)} {b b' : Option Addr} {l l' c : Nat}
theorem RQ.nob (h : RQ w₀ w R F L m X b l) (k : Chg Nobody w w') : RQ w₀ w' R F L m X b l := ⟨h.s.nob k, h.r.nob k⟩
theorem RQ.drew (h : RQ w₀ w R F L m X b l) : RQ w₀ w.drew R F L m X b l := h.nob (Chg.refl _ _).drew
theorem RQ.as (h : RQ w₀ w R F L m X b l) (p : X.Perm X') (k : RS w w' R F L m (fun _ => 0) X') : RQ w₀ w' R F L m X b l :=
  ⟨(h.s.step k).perm p.symm, h.r.keep k.chg (fun i e => e)⟩
theorem RQ.hbad (h : RQ w₀ w R F L m X b l) : ∀ k, w.heap.size ≤ k → ¬ k = L := fun k hk e => by have := h.s.a.a.lt; omega
end
theorem c_RingRuns {w : World} {n : Int} {sb : Option Addr} {sl sc : Nat} {f : Nat → Nat → Int} (hg : LaidG w) (hf : CA w sb sl 3 f) :
    Calls Pg fn_plaitlaw05_RingRuns #[.int .i64 n, .slice sb sl sc] w fun e w' => e = .returned (.bool true) ∧ Chg Nobody w w' := by
  refine (calls_plaitlaw05_RingRuns _ _ _ _ _ (fun v' w' => v' = .bool true ∧ Chg Nobody w w') ?_).mono (by rintro e w' ⟨v, rfl, rfl, k⟩; exact ⟨rfl, k⟩)
  unfold sh_plaitlaw05_RingRuns
  refine ⟨by decide, ?_⟩
  obtain ⟨m, hm0, hm1, he⟩ := size_ex n 1 20 (by omega) (by omega) (by omega)
  rw [he]
  refine (rg_New (n := m) (by omega) (by omega)).mono ?_
  rintro e w4 ⟨R, F, L, rfl, hc, hR, hF, hL, ha⟩
  have hs : LR w w4 R F L m (fun _ => 0) (ones m) := ⟨hc, hR, hF, hL, ha⟩
  refine ⟨_, _, rfl, fun _ w' => w' = w4, err_i (fun e => absurd rfl e) (fun _ => bif_i (fun h => by cases h) (fun _ => rfl)), ?_⟩
  rintro _ w7 rfl
  have hlt4 := hs.a.a.lt
  refine (c_rNew (bad := fun k => k = L) (m := m) (by omega) (fun k hk e => by omega)).mono ?_
  rintro e w9 ⟨b0, c0, rfl, hrf, hc9⟩
  replace hs := hs.nob hc9
  refine ⟨_, _, _, rfl, ?_⟩
  let J : Nat → List Value → World → Prop := fun j vs w' => ∃ (i : Nat) (X : List (List Nat)) (b : Option Addr) (l c : Nat), vs = [.slice b l c, .int .i64 i] ∧ i ≤ 80 ∧ RQ w w' R F L m X b l ∧ j = 80 - i
  refine ⟨LI J, LM J, ⟨_, 0, _, _, _, _, rfl, by omega, ⟨hs, hrf⟩, rfl⟩, ?_⟩
  clear hs hrf hc ha hc9
  intro _ s13b s13l s13c n14 w15 hJ
  obtain ⟨i, X, b, l, c, hvs, hi, hrp, hj⟩ := hJ.at
  simp only [List.cons.injEq, Value.slice.injEq, Value.int.injEq, and_true, true_and] at hvs
  obtain ⟨⟨rfl, rfl, rfl⟩, rfl⟩ := hvs
  refine ⟨fun _ w' => w' = w15 ∧ i < sl ∧ i < 80, ?_, ?_⟩
  · have fin : Calls Pg fn_plaitlaw05_sure #[] w15 fun e w20 => ∃ b233_19 : Bool, e = .returned (.bool b233_19) ∧ ((Value.bool b233_19) = .bool true ∧ Chg Nobody w w20) := by
      refine c_sure05.mono ?_
      rintro e w20 ⟨rfl, hc⟩
      exact ⟨_, rfl, rfl, hrp.s.c.trans hc⟩
    refine bif_i (fun h1 => bif_i (fun h2 => ?_) (fun _ => fin)) (fun _ => fin)
    simp only [bne_iff_ne, ne_eq, bne_eq_false_iff_eq, Bool.not_eq_true, beq_iff_eq, beq_eq_false_iff_ne, decide_eq_true_eq, decide_eq_false_iff_not, Bool.not_eq_true', Bool.not_eq_false'] at h1 h2
    exact ⟨rfl, by omega, by omega⟩
  rintro _ w23 ⟨rfl, hil, hi80⟩
  have hf24 := (hf.nob hrp.s.c).drew
  replace hrp := hrp.drew
  refine hf24.rd (k := 1) hil (by omega) ?_
  refine hf24.rd (k := 2) hil (by omega) ?_
  generalize f i 1 = av at *
  generalize f i 2 = bv at *
  have again : ∀ (w' : World) (X' : List (List Nat)) (b' : Option Addr) (l' c' : Nat), RQ w w' R F L m X' b' l' →
      LI J [.slice b' l' c', .int .i64 (IntKind.wrap .i64 ((i : Int) + 1))] w' ∧ LM J [.slice b' l' c', .int .i64 (IntKind.wrap .i64 ((i : Int) + 1))] w' < LM J [.slice s13b s13l s13c, .int .i64 (i : Int)] w23 := by
    intro w' X' b' l' c' h
    rw [wrap64_in (x := (i : Int) + 1) (by omega) (by omega)]
    exact LI.again (k := 80 - (i + 1)) ⟨i + 1, X', b', l', c', rfl, by omega, h, rfl⟩ (by rw [hj]; omega)
  generalize w23.drew = w24 at *
  refine ⟨fun _ w' => ((0 ≤ av ∧ av < m) ∧ (0 ≤ bv ∧ bv < m)) ∧ w' = w24, ?_, ?_⟩
  · have out : ¬ ((0 ≤ av ∧ av < m) ∧ (0 ≤ bv ∧ bv < m)) →
        Calls Pg fn_ring_Rings_Merge #[.pointer (some ⟨R, 0, none⟩), .int .i64 av, .int .i64 bv] w24 fun e31 w30 => ∃ v77_29 : Value, e31 = .returned v77_29 ∧
        Calls Pg fn_plaitlaw05_num #[v77_29] w30 fun e34 w33 => ∃ n78_32 : Int, e34 = .returned (.int .i64 n78_32) ∧
        bif (n78_32 != (12 : Int)) then (Value.bool false = .bool true ∧ Chg Nobody w w33) else (
        Calls Pg fn_ring_Rings_Split #[.pointer (some ⟨R, 0, none⟩), .int .i64 av, .int .i64 bv] w33 fun e37 w36 => ∃ v84_35 : Value, e37 = .returned v84_35 ∧
        Calls Pg fn_plaitlaw05_num #[v84_35] w36 fun e40 w39 => ∃ n85_38 : Int, e40 = .returned (.int .i64 n85_38) ∧
        bif (n85_38 != (12 : Int)) then (Value.bool false = .bool true ∧ Chg Nobody w w39) else (
        LI J [.slice s13b s13l s13c, .int .i64 (IntKind.wrap .i64 ((i : Int) + 1))] w39 ∧ LM J [.slice s13b s13l s13c, .int .i64 (IntKind.wrap .i64 ((i : Int) + 1))] w39 < LM J [.slice s13b s13l s13c, .int .i64 (i : Int)] w23)) := by
      intro hbad
      refine (rg_Merge_bad hrp.s.a hbad).mono ?_
      rintro e w30 ⟨rfl, hrs⟩
      replace hrp := hrp.as (List.Perm.refl _) hrs
      refine ⟨_, rfl, (c_num05 (hrp.s.g hg)).mono ?_⟩
      rintro e w33 ⟨rfl, hc⟩
      replace hrp := hrp.nob hc
      refine ⟨_, rfl, bif_i (fun h => absurd h (by decide)) (fun _ => ?_)⟩
      refine (rg_Split_bad hrp.s.a hbad).mono ?_
      rintro e w36 ⟨rfl, hrs⟩
      replace hrp := hrp.as (List.Perm.refl _) hrs
      refine ⟨_, rfl, (c_num05 (hrp.s.g hg)).mono ?_⟩
      rintro e w39 ⟨rfl, hc⟩
      exact ⟨_, rfl, bif_i (fun h => absurd h (by decide)) (fun _ => again _ _ _ _ _ (hrp.nob hc))⟩
    refine bif_i (fun h => ?_) (fun h1 => ?_)
    · simp only [bne_iff_ne, ne_eq, bne_eq_false_iff_eq, Bool.not_eq_true, beq_iff_eq, beq_eq_false_iff_ne, decide_eq_true_eq, decide_eq_false_iff_not, Bool.not_eq_true', Bool.not_eq_false'] at h; exact out (by omega)
    refine bif_i (fun h => ?_) (fun h2 => ?_)
    · simp only [bne_iff_ne, ne_eq, bne_eq_false_iff_eq, Bool.not_eq_true, beq_iff_eq, beq_eq_false_iff_ne, decide_eq_true_eq, decide_eq_false_iff_not, Bool.not_eq_true', Bool.not_eq_false'] at h; exact out (by omega)
    refine bif_i (fun h => ?_) (fun h3 => ?_)
    · simp only [bne_iff_ne, ne_eq, bne_eq_false_iff_eq, Bool.not_eq_true, beq_iff_eq, beq_eq_false_iff_ne, decide_eq_true_eq, decide_eq_false_iff_not, Bool.not_eq_true', Bool.not_eq_false'] at h; exact out (by omega)
    refine bif_i (fun h => ?_) (fun h4 => ?_)
    · simp only [bne_iff_ne, ne_eq, bne_eq_false_iff_eq, Bool.not_eq_true, beq_iff_eq, beq_eq_false_iff_ne, decide_eq_true_eq, decide_eq_false_iff_not, Bool.not_eq_true', Bool.not_eq_false'] at h; exact out (by omega)
    simp only [bne_iff_ne, ne_eq, bne_eq_false_iff_eq, Bool.not_eq_true, beq_iff_eq, beq_eq_false_iff_ne, decide_eq_true_eq, decide_eq_false_iff_not, Bool.not_eq_true', Bool.not_eq_false'] at h1 h2 h3 h4
    exact ⟨by omega, rfl⟩
  rintro _ w77 ⟨⟨⟨ha0, ham⟩, hb0, hbm⟩, rfl⟩
  obtain ⟨x, rfl⟩ : ∃ x : Nat, av = x := ⟨av.toNat, by omega⟩
  obtain ⟨y, rfl⟩ : ∃ y : Nat, bv = y := ⟨bv.toNat, by omega⟩
  refine ⟨fun vs w' => ∃ code X' b' l' c', vs = [errV code, .slice b' l' c', .int .i64 code] ∧ RQ w w' R F L m X' b' l', ?_, ?_⟩
  · -- the act itself
    refine hf24.rd0 hil (by omega) ⟨by decide, ?_⟩
    have hS := hrp.s.small
    have hm := hS.m
    have hlX := hrp.r.1
    have hl : s13l ≤ m := by rw [← hlX]; exact hS.len
    have hAl : ∀ A ∈ X, A.length ≤ 10000000 := fun A hA => by have := hS.each A hA; omega
    obtain ⟨ia, A, ka, hA, hxa⟩ := hS.at (x := x) (by omega)
    obtain ⟨ib, A2, kb, hA2, hyb⟩ := hS.at (x := y) (by omega)
    have hka := (List.getElem?_eq_some_iff.1 hxa).1
    have hp := wo_perm1 hA
    rw [hlX] at hp
    obtain ⟨hsp, hdr⟩ := split_at hxa
    obtain ⟨hsp2, hdr2⟩ := split_at hyb
    have hsA := hrp.s.perm hp
    refine ⟨fun vs w' => ∃ t, vs = [.bool t] ∧ w' = w77, bif_i (fun _ => ⟨_, rfl, rfl⟩) (fun _ => bif_i (fun _ => ⟨_, rfl, rfl⟩) (fun _ => ⟨_, rfl, rfl⟩)), ?_⟩
    rintro _ b82 w83 ⟨t, ht, rfl⟩
    refine bif_i (fun _ => ?_) (fun _ => ?_)
    · -- split
      by_cases hii : ia = ib
      · subst hii
        rw [hA] at hA2; injection hA2 with hA2; subst hA2
        by_cases hxy : x = y
        · subst hxy
          refine (rg_Split_same hsA.a (List.mem_of_getElem? hxa)).mono ?_
          rintro e w85 ⟨rfl, hrs⟩
          replace hrp := hrp.as hp hrs
          refine ⟨_, rfl, (c_rSplit05_same (c := s13c) hrp.r hS.nd hA hxa (by omega) hAl).mono ?_⟩
          rintro e w89 ⟨rfl, hc⟩
          exact ⟨_, _, _, _, rfl, _, _, _, _, _, rfl, hrp.nob hc⟩
        · have hym : y ∈ A.drop (ka + 1) ++ A.take ka := by
            have := List.mem_of_getElem? hyb
            rw [hsp] at this
            simp only [List.mem_append, List.mem_cons] at this ⊢
            rcases this with h | h | h
            · exact .inr h
            · exact absurd h.symm hxy
            · exact .inl h
          obtain ⟨mid, rest, hmr⟩ := List.append_of_mem hym
          have hsp' := rg_Split (w := w83) (R := R) (F := F) (L := L) (n := m) (v := fun _ => 0) (a := x) (b := y) (pre := A.take ka) (post := A.drop (ka + 1)) (q := wo X ia ia s13l) (by rw [← hsp]; exact hsA.a) hmr
          refine hsp'.mono ?_
          rintro e w85 ⟨rfl, hrs⟩
          have hs' := hsA.a
          have hs' : LR w w85 R F L m (fun _ => 0) ((x :: mid) :: (y :: rest) :: wo X ia ia s13l) := LR.step hsA hrs
          have hr' := hrp.r.keep hrs.chg (fun i e => e)
          have hsz := hrs.chg.size
          refine ⟨_, rfl, (c_rSplit05 (c := s13c) (mid := mid) (rest := rest) hr' hS.nd hS.ne hA hxa (by rw [hdr]; simp [hmr]) (by omega) hAl (fun k hk => hrp.hbad k (by omega))).mono ?_⟩
          rintro e w89 ⟨rb, rl, rc, rfl, hrf, hc⟩
          exact ⟨_, _, _, _, rfl, _, _, _, _, _, rfl, (hs'.nob hc).perm (List.perm_append_comm (l₁ := [x :: mid, y :: rest])), hrf⟩
      · have hp2 := wo_perm2 hA hA2 hii
        rw [hlX] at hp2
        refine (rg_Split_apart (hrp.s.perm hp2).a (List.mem_of_getElem? hxa) (List.mem_of_getElem? hyb)).mono ?_
        rintro e w85 ⟨rfl, hrs⟩
        replace hrp := hrp.as hp2 hrs
        refine ⟨_, rfl, (c_rSplit05_apart (c := s13c) hrp.r hS.nd hA hxa hA2 hyb hii (by omega) hAl).mono ?_⟩
        rintro e w89 ⟨rfl, hc⟩
        exact ⟨_, _, _, _, rfl, _, _, _, _, _, rfl, hrp.nob hc⟩
    refine bif_i (fun _ => ?_) (fun _ => ?_)
    · -- apart
      rcases hw : A.drop (ka + 1) ++ A.take ka with _ | ⟨z, rest⟩
      · obtain ⟨h1, h2⟩ := List.append_eq_nil_iff.1 hw
        rw [h1, h2] at hsp
        have hA1 : A = [x] := by simpa using hsp
        subst hA1
        refine (rg_Apart_alone hsA.a).mono ?_
        rintro e w92 ⟨rfl, hrs⟩
        replace hrp := hrp.as hp hrs
        refine ⟨_, rfl, (c_rApart05_alone (c := s13c) hrp.r hS.nd hA (by omega) hAl).mono ?_⟩
        rintro e w89 ⟨rfl, hc⟩
        exact ⟨_, _, _, _, rfl, _, _, _, _, _, rfl, hrp.nob hc⟩
      · have hap := rg_Apart (w := w83) (R := R) (F := F) (L := L) (n := m) (v := fun _ => 0) (x := x) (y := z) (rest := rest) (pre := A.take ka) (post := A.drop (ka + 1)) (q := wo X ia ia s13l) (by rw [← hsp]; exact hsA.a) hw
        refine hap.mono ?_
        rintro e w92 ⟨rfl, hrs⟩
        have hs' : LR w w92 R F L m (fun _ => 0) ([x] :: (z :: rest) :: wo X ia ia s13l) := LR.step hsA hrs
        have hr' := hrp.r.keep hrs.chg (fun i e => e)
        have hsz := hrs.chg.size
        refine ⟨_, rfl, (c_rApart05 (c := s13c) (y := z) (rest := rest) hr' hS.nd hS.ne hA hxa (by rw [hdr]; simp [hw]) (by omega) hAl (fun k hk => hrp.hbad k (by omega))).mono ?_⟩
        rintro e w89 ⟨rb, rl, rc, rfl, hrf, hc⟩
        exact ⟨_, _, _, _, rfl, _, _, _, _, _, rfl, (hs'.nob hc).perm (List.perm_append_comm (l₁ := [[x], z :: rest])), hrf⟩
    refine bif_i (fun _ => ?_) (fun _ => ?_)
    · -- turned
      have htu := rg_Turn (w := w83) (R := R) (F := F) (L := L) (n := m) (v := fun _ => 0) (x := x) (pre := A.take ka) (post := A.drop (ka + 1)) (q := wo X ia ia s13l) (by rw [← hsp]; exact hsA.a)
      rw [← hdr] at htu
      refine htu.mono ?_
      rintro e w99 ⟨rfl, hrs⟩
      have hs' : LR w w99 R F L m (fun _ => 0) ((A.drop ka ++ A.take ka) :: wo X ia ia s13l) := LR.step hsA hrs
      have hr' := hrp.r.keep hrs.chg (fun i e => e)
      have hsz := hrs.chg.size
      refine ⟨_, rfl, (c_rTurn05 (c := s13c) hr' hS.nd hS.ne hA hxa (by omega) hAl (fun k hk => hrp.hbad k (by omega))).mono ?_⟩
      rintro e w89 ⟨rb, rl, rc, rfl, hrf, hc⟩
      exact ⟨_, _, _, rfl, 0, _, _, _, _, rfl, (hs'.nob hc).perm (List.perm_append_comm (l₁ := [A.drop ka ++ A.take ka])), hrf⟩
    · -- merged
      by_cases hii : ia = ib
      · subst hii
        rw [hA] at hA2; injection hA2 with hA2; subst hA2
        refine (rg_Merge_same hsA.a (List.mem_of_getElem? hxa) (List.mem_of_getElem? hyb)).mono ?_
        rintro e w85 ⟨rfl, hrs⟩
        replace hrp := hrp.as hp hrs
        refine ⟨_, rfl, (c_rMerge05_no (c := s13c) hrp.r hS.nd hA hxa hyb (by omega) hAl).mono ?_⟩
        rintro e w89 ⟨rfl, hc⟩
        exact ⟨_, _, _, _, rfl, _, _, _, _, _, rfl, hrp.nob hc⟩
      · have hp2 := wo_perm2 hA hA2 hii
        rw [hlX] at hp2
        have hsB := hrp.s.perm hp2
        have hme := rg_Merge (w := w83) (R := R) (F := F) (L := L) (n := m) (v := fun _ => 0) (a := x) (b := y) (pra := A.take ka) (poa := A.drop (ka + 1)) (prb := A2.take kb) (pob := A2.drop (kb + 1)) (q := wo X ia ib s13l) (by rw [← hsp, ← hsp2]; exact hsB.a)
        rw [← hdr, ← hdr2] at hme
        refine hme.mono ?_
        rintro e w85 ⟨rfl, hrs⟩
        have hs' : LR w w85 R F L m (fun _ => 0) (((A.drop ka ++ A.take ka) ++ (A2.drop kb ++ A2.take kb)) :: wo X ia ib s13l) := LR.step hsB hrs
        have hr' := hrp.r.keep hrs.chg (fun i e => e)
        have hsz := hrs.chg.size
        refine ⟨_, rfl, (c_rMerge05 (c := s13c) hr' hS.nd hS.ne hA hxa hA2 hyb hii (by omega) hAl (fun k hk => hrp.hbad k (by omega))).mono ?_⟩
        rintro e w89 ⟨rb, rl, rc, rfl, hrf, hc⟩
        exact ⟨_, _, _, _, rfl, _, _, _, _, _, rfl, (hs'.nob hc).perm (List.perm_append_comm (l₁ := [(A.drop ka ++ A.take ka) ++ (A2.drop kb ++ A2.take kb)])), hrf⟩
  -- what is told
  clear hrp
  rintro _ v111 s112b s112l s112c n113 w114 ⟨code, X', b', l', c', hvs, hrp⟩
  simp only [List.cons.injEq, Value.slice.injEq, Value.int.injEq, and_true, true_and] at hvs
  obtain ⟨rfl, ⟨rfl, rfl, rfl⟩, rfl⟩ := hvs
  refine ⟨fun _ w' => RQ w w' R F L m X' s112b s112l, ?_, ?_⟩
  · refine (c_num05 (hrp.s.g hg)).mono ?_
    rintro e w117 ⟨rfl, hc⟩
    replace hrp := hrp.nob hc
    refine ⟨_, rfl, bif_i (fun h => by simp at h) (fun _ => ?_)⟩
    refine (c_told05 (c := s112c) hrp.s hrp.r rfl (by omega)).mono ?_
    rintro e w120 ⟨rfl, hs', hc⟩
    refine ⟨_, rfl, bif_i (fun h => by cases h) (fun _ => ⟨hs', hrp.r.keep hc (fun i e => e)⟩)⟩
  clear hrp
  rintro _ w122 hrp
  have hS := hrp.s.small
  have hm := hS.m
  have hlX := hrp.r.1
  have hl : s112l ≤ m := by rw [← hlX]; exact hS.len
  have hAl : ∀ A ∈ X', A.length ≤ 100000000 := fun A hA => by have := hS.each A hA; omega
  obtain ⟨ia, A, ka, hA, hxa⟩ := hS.at (x := x) (by omega)
  obtain ⟨ib, A2, kb, hA2, hyb⟩ := hS.at (x := y) (by omega)
  refine (c_rFind (c := s112c) hrp.r hS.nd hA hxa (by omega) (fun A hA => by have := hAl A hA; omega)).mono ?_
  rintro e w125 ⟨rfl, hc⟩
  replace hrp := hrp.nob hc
  refine ⟨_, _, rfl, ?_⟩
  refine (c_rFind (c := s112c) hrp.r hS.nd hA2 hyb (by omega) (fun A hA => by have := hAl A hA; omega)).mono ?_
  rintro e w129 ⟨rfl, hc⟩
  replace hrp := hrp.nob hc
  refine ⟨_, _, rfl, ?_⟩
  have hsame : Calls Pg fn_ring_Rings_Same #[.pointer (some ⟨R, 0, none⟩), .int .i64 x, .int .i64 y] w129 fun e w' => e = .returned (.tuple #[.bool (decide (ia = ib)), errV 0]) ∧ ∃ q, X'.Perm q ∧ RS w129 w' R F L m (fun _ => 0) q := by
    by_cases hii : ia = ib
    · subst hii
      rw [hA] at hA2; injection hA2 with hA2; subst hA2
      refine (rg_Same_yes (hrp.s.perm (wo_perm1 hA)).a (List.mem_of_getElem? hxa) (List.mem_of_getElem? hyb)).mono ?_
      rintro e w' ⟨rfl, has⟩
      exact ⟨by simp, _, wo_perm1 hA, has⟩
    · refine (rg_Same_no (hrp.s.perm (wo_perm2 hA hA2 hii)).a (List.mem_of_getElem? hxa) (List.mem_of_getElem? hyb)).mono ?_
      rintro e w' ⟨rfl, has⟩
      exact ⟨by simp [hii], _, wo_perm2 hA hA2 hii, has⟩
  refine hsame.mono ?_
  rintro e w133 ⟨rfl, q, hp, has⟩
  replace hrp := hrp.as hp has
  refine ⟨_, _, rfl, err_i (fun e => absurd rfl e) (fun _ => ?_)⟩
  refine bif_i (fun h => ?_) (fun _ => again _ _ _ _ _ hrp)
  exfalso
  by_cases hii : ia = ib
  · simp [hii] at h
  · have : ¬ (ia : Int) = ib := by omega
    simp [hii, this] at h
end Seq
end Go.Proofs.YtledchlbmilneaaDoor
