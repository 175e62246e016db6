/-
The reference of layer 5: a list split, an item taken out.
Conditions: those that each theorem states.
-/
import Derived.Test.YtledchlbmilneaaDoorLawRef05
namespace Go.Proofs.YtledchlbmilneaaDoor
open Go Go.RowKit
set_option linter.unusedVariables false
set_option linter.unusedSimpArgs false
namespace Seq
section
variable {w w' : World} {bad : Nat → Prop} {b : Option Addr} {l c i j k k2 x y : Nat} {X : List (List Nat)} {A A2 mid rest : List Nat}
theorem c_rSplit05_same (h : RF w bad b l X) (hn : X.flatten.Nodup) (hA : X[i]? = some A) (hx : A[k]? = some x) (hl : l ≤ 10000000) (hAl : ∀ A ∈ X, A.length ≤ 10000000) :
    Calls Pg fn_plaitref05_Split #[.slice b l c, .int .i64 x, .int .i64 x] w fun e w' => e = .returned (.tuple #[.slice b l c, .int .i64 20]) ∧ Chg Nobody w w' := by
  refine (calls_plaitref05_Split _ _ _ _ _ _ (fun v' w' => v' = .tuple #[.slice b l c, .int .i64 20] ∧ Chg Nobody w w') ?_).mono (by rintro e w' ⟨v, rfl, rfl, k⟩; exact ⟨rfl, k⟩)
  unfold sh_plaitref05_Split
  refine (c_rFind h hn hA hx (by omega) (fun B hB => by have := hAl B hB; omega)).mono ?_
  rintro e w5 ⟨rfl, hc⟩
  refine ⟨_, _, rfl, ?_⟩
  refine (c_rFind (h.nob hc) hn hA hx (by omega) (fun B hB => by have := hAl B hB; omega)).mono ?_
  rintro e w9 ⟨rfl, hc2⟩
  exact ⟨_, _, rfl, bif_i (fun _ => ⟨rfl, hc.trans hc2⟩) (fun h => by simp at h)⟩
theorem c_rSplit05_apart (h : RF w bad b l X) (hn : X.flatten.Nodup) (hA : X[i]? = some A) (hx : A[k]? = some x) (hA2 : X[j]? = some A2) (hy : A2[k2]? = some y) (hij : i ≠ j) (hl : l ≤ 10000000) (hAl : ∀ A ∈ X, A.length ≤ 10000000) :
    Calls Pg fn_plaitref05_Split #[.slice b l c, .int .i64 x, .int .i64 y] w fun e w' => e = .returned (.tuple #[.slice b l c, .int .i64 21]) ∧ Chg Nobody w w' := by
  refine (calls_plaitref05_Split _ _ _ _ _ _ (fun v' w' => v' = .tuple #[.slice b l c, .int .i64 21] ∧ Chg Nobody w w') ?_).mono (by rintro e w' ⟨v, rfl, rfl, k⟩; exact ⟨rfl, k⟩)
  unfold sh_plaitref05_Split
  refine (c_rFind h hn hA hx (by omega) (fun B hB => by have := hAl B hB; omega)).mono ?_
  rintro e w5 ⟨rfl, hc⟩
  refine ⟨_, _, rfl, ?_⟩
  refine (c_rFind (h.nob hc) hn hA2 hy (by omega) (fun B hB => by have := hAl B hB; omega)).mono ?_
  rintro e w9 ⟨rfl, hc2⟩
  refine ⟨_, _, rfl, bif_i (fun h => ?_) (fun _ => bif_i (fun _ => ⟨rfl, hc.trans hc2⟩) (fun h => ?_))⟩
  · simp only [bne_iff_ne, ne_eq, bne_eq_false_iff_eq, Bool.not_eq_true, beq_iff_eq, beq_eq_false_iff_ne, decide_eq_true_eq, decide_eq_false_iff_not, Bool.not_eq_true', Bool.not_eq_false'] at h
    have : x = y := by omega
    subst this
    exact absurd (flat_idx hn hA hA2 hx hy).1 hij
  · simp only [bne_iff_ne, ne_eq, bne_eq_false_iff_eq, Bool.not_eq_true, beq_iff_eq, beq_eq_false_iff_ne, decide_eq_true_eq, decide_eq_false_iff_not, Bool.not_eq_true', Bool.not_eq_false'] at h; omega
theorem c_rSplit05 (h : RF w bad b l X) (hn : X.flatten.Nodup) (hne : ∀ A ∈ X, A ≠ []) (hA : X[i]? = some A) (hx : A[k]? = some x) (hW : A.drop k ++ A.take k = x :: mid ++ y :: rest) (hl : l ≤ 10000000) (hAl : ∀ A ∈ X, A.length ≤ 10000000) (hbad : ∀ k, w.heap.size ≤ k → ¬ bad k) :
    Calls Pg fn_plaitref05_Split #[.slice b l c, .int .i64 x, .int .i64 y] w fun e w' => ∃ rb rl rc, e = .returned (.tuple #[.slice rb rl rc, .int .i64 0]) ∧ RF w' bad rb rl (wo X i i l ++ [x :: mid, y :: rest]) ∧ Chg Nobody w w' := by
  refine (calls_plaitref05_Split _ _ _ _ _ _ (fun v' w' => ∃ rb rl rc, v' = .tuple #[.slice rb rl rc, .int .i64 0] ∧ RF w' bad rb rl (wo X i i l ++ [x :: mid, y :: rest]) ∧ Chg Nobody w w') ?_).mono (by rintro e w' ⟨v, rfl, a, b, c, rfl, k⟩; exact ⟨a, b, c, rfl, k⟩)
  unfold sh_plaitref05_Split
  have hAm := List.mem_of_getElem? hA
  have hlA := hAl A hAm
  have hkl := (List.getElem?_eq_some_iff.1 hx).1
  have hfl := from_len hx
  have hnA : A.Nodup := List.Sublist.nodup (List.sublist_flatten_of_mem hAm) hn
  have hp : (A.drop k ++ A.take k).Perm A := by
    refine List.perm_append_comm.trans ?_
    rw [List.take_append_drop]
  have hnW : (x :: mid ++ y :: rest).Nodup := by rw [← hW]; exact hp.nodup_iff.2 hnA
  have hyA : y ∈ A := by rw [← hp.mem_iff, hW]; simp
  obtain ⟨k2, hy⟩ := List.getElem?_of_mem hyA
  have hxy : x ≠ y := by rintro rfl; simp at hnW
  refine (c_rFind h hn hA hx (by omega) (fun B hB => by have := hAl B hB; omega)).mono ?_
  rintro e w5 ⟨rfl, hc⟩
  refine ⟨_, _, rfl, ?_⟩
  refine (c_rFind (h.nob hc) hn hA hy (by omega) (fun B hB => by have := hAl B hB; omega)).mono ?_
  rintro e w9 ⟨rfl, hc2⟩
  have hch := hc.trans hc2
  refine ⟨_, _, rfl, bif_i (fun h => ?_) (fun _ => bif_i (fun h => by simp at h) (fun _ => ?_))⟩
  · simp only [bne_iff_ne, ne_eq, bne_eq_false_iff_eq, Bool.not_eq_true, beq_iff_eq, beq_eq_false_iff_ne, decide_eq_true_eq, decide_eq_false_iff_not, Bool.not_eq_true', Bool.not_eq_false'] at h; omega
  have h9 := h.nob hch
  refine h9.rd hA fun eb ec hia hok hle => ?_
  refine (c_from hia hkl hle (by omega)).mono ?_
  rintro e w14 ⟨fb, fc, rfl, hof, hc14⟩
  rw [from_ivs, hW] at hof
  refine ⟨_, _, _, rfl, ?_⟩
  have hlen : A.length = (x :: mid ++ y :: rest).length := by rw [← hW, hfl]
  have hiW : IA w14 fb A.length (ints (x :: mid ++ y :: rest)) := IA.of_own hof (by simp [ivs, Function.comp_def])
  have hcap := hof.cap
  let J : Nat → List Value → World → Prop := fun j vs w' => ∃ t : Nat, vs = [.int .i64 t] ∧ t ≤ mid.length + 1 ∧ w' = w14 ∧ j = A.length - t
  refine ⟨LI J, LM J, ⟨_, 0, rfl, by omega, rfl, rfl⟩, ?_⟩
  intro _ n18 w19 hJ
  obtain ⟨t, hvs, ht, rfl, hj⟩ := hJ.at
  simp only [List.cons.injEq, Value.int.injEq, and_true, true_and] at hvs
  subst hvs
  have hlen2 : A.length = mid.length + 1 + (rest.length + 1) := by rw [hlen]; simp; omega
  obtain ⟨u, hu⟩ : ∃ u, (x :: mid ++ y :: rest)[t]? = some u := ⟨_, List.getElem?_eq_getElem (by rw [← hlen]; omega)⟩
  refine hiW.rd (x := (u : Int)) (by rw [List.getElem?_map, hu]; rfl) ?_
  have hyt : (x :: mid ++ y :: rest)[mid.length + 1]? = some y := by
    rw [List.getElem?_append_right (by simp)]; simp
  refine bif_i (fun hc3 => ?_) (fun hc3 => ?_) <;> simp only [bne_iff_ne, ne_eq, bne_eq_false_iff_eq, Bool.not_eq_true, beq_iff_eq, beq_eq_false_iff_ne, decide_eq_true_eq, decide_eq_false_iff_not, Bool.not_eq_true', Bool.not_eq_false'] at hc3
  · rw [wrap64_in (by omega) (by omega)]
    refine LI.again (k := A.length - (t + 1)) ⟨t + 1, rfl, ?_, rfl, rfl⟩ (by rw [hj]; omega)
    have : t ≠ mid.length + 1 := by rintro rfl; rw [hyt] at hu; injection hu with hu; exact hc3 (by rw [hu])
    omega
  · have huy : u = y := by omega
    subst huy
    have htm : t = mid.length + 1 := idx_uniq hnW hu hyt
    subst htm
    clear hJ hj J hu
    have hch2 := hch.trans hc14
    have hsz := hch.size
    have hs14 := hc14.size
    refine ⟨by omega, by omega, by omega, by omega, by omega, by omega, ?_⟩
    rw [show Int.toNat ((mid.length + 1 : Nat) : Int) = mid.length + 1 by omega, if_neg (by omega), map_add0, Nat.sub_zero]
    have hTl : (x :: mid).length = mid.length + 1 := rfl
    have hDl : (u :: rest).length = A.length - (mid.length + 1) := by rw [hlen2]; simp
    have hpre := hiW.pre (k := mid.length + 1) (by omega)
    have hpost := hiW.post (k := mid.length + 1) (by omega)
    have eT : (ints (x :: mid ++ u :: rest)).take (mid.length + 1) = ints (x :: mid) := by rw [← List.map_take]; congr 1; exact List.take_left (l₁ := x :: mid)
    have eD : (ints (x :: mid ++ u :: rest)).drop (mid.length + 1) = ints (u :: rest) := by rw [← List.map_drop]; congr 1; exact List.drop_left (l₁ := x :: mid)
    rw [eT] at hpre
    rw [eD] at hpost
    rw [if_neg (by omega)]
    have halves : ∀ (w' : World) (bad' : Nat → Prop), Chg Nobody w19 w' → (∀ i, i < w19.heap.size → bad' i → bad i) → OX w' bad' [.slice fb (mid.length + 1) (mid.length + 1), .slice (Option.map (fun a => Addr.add a ((mid.length + 1) * 1)) fb) (A.length - (mid.length + 1)) (fc - (mid.length + 1))] [x :: mid, u :: rest] := by
      intro w' bad' hcw hb
      have hbb : ∀ k, bk fb = some k → ¬ bad' k := fun k hk hb' => by
        obtain ⟨h1, h2⟩ := hof.bk_lt hk
        exact hbad k (by omega) (hb k h2 hb')
      have h1 : El w' bad' (.slice fb (mid.length + 1) (mid.length + 1)) (x :: mid) := ⟨fb, mid.length + 1, rfl, hpre.nob hcw, hbb, Nat.le_refl _, by simp⟩
      have h2 : El w' bad' (.slice (Option.map (fun a => Addr.add a ((mid.length + 1) * 1)) fb) (A.length - (mid.length + 1)) (fc - (mid.length + 1))) (u :: rest) := by
        refine ⟨_, fc - (mid.length + 1), by rw [hDl], by rw [hDl]; exact hpost.nob hcw, fun k' hk' => ?_, by rw [hDl]; omega, by simp⟩
        have : bk (Option.map (fun a => Addr.add a ((mid.length + 1) * 1)) fb) = bk fb := by
          cases fb with
          | none => rfl
          | some a => simp [bk, add_block]
        rw [this] at hk'
        exact hbb k' hk'
      exact OX.app (OX.one h1) (OX.one h2)
    have h19 := h9.nob hc14
    refine ⟨?_, ?_⟩
    · refine (c_tail (c := c) (Y := [x :: mid, u :: rest]) (m := 2) h19.drew hne hl (fun k hk => hbad k (by have : w19.drew.heap.size = w19.heap.size := rfl; omega)) (fun w' bad' h1 h2 => halves w' bad' ((Chg.refl _ w19).drew.trans h1) h2) rfl (by omega) (by omega)).mono ?_
      rintro e w23 ⟨ob, ol, oc, rfl, _, hk⟩
      refine ⟨_, _, _, rfl, alo_r fun hr2 => ?_⟩
      obtain ⟨rb, rl, rc, w3, hrun, hrf, hc8⟩ := hk _ _ _ ((Chg.refl _ _).alloc _) hr2
      exact ⟨_, _, _, w3, hrun, _, _, _, rfl, hrf, (hch2.drew).trans hc8⟩
    · refine alo_r fun hr2 => ?_
      have hc4 : Chg Nobody w19 (w19.drew.alloc (.cells #[.slice fb (mid.length + 1) (mid.length + 1), .slice (Option.map (fun a => Addr.add a ((mid.length + 1) * 1)) fb) (A.length - (mid.length + 1)) (fc - (mid.length + 1))] T_sl_int)) := ((Chg.refl _ _).drew).alloc _
      generalize w19.drew.alloc (.cells #[.slice fb (mid.length + 1) (mid.length + 1), .slice (Option.map (fun a => Addr.add a ((mid.length + 1) * 1)) fb) (A.length - (mid.length + 1)) (fc - (mid.length + 1))] T_sl_int) = w30 at *
      have hsz4 := hc4.size
      refine (c_tail (c := c) (Y := [x :: mid, u :: rest]) (m := 2) (h19.nob hc4) hne hl (fun k hk => hbad k (by omega)) (fun w' bad' h1 h2 => halves w' bad' (hc4.trans h1) (fun i hi hb => h2 i (by omega) hb)) rfl (by omega) (by omega)).mono ?_
      rintro e w32 ⟨ob, ol, oc, rfl, hc1, hk⟩
      refine ⟨_, _, _, rfl, ?_⟩
      obtain ⟨rb, rl, rc, w3, hrun, hrf, hc8⟩ := hk _ _ _ (Chg.refl _ _) (hc1.row (fun h => h) hr2)
      exact ⟨_, _, _, w3, hrun, _, _, _, rfl, hrf, hch2.trans (hc4.trans hc8)⟩
theorem c_rApart05 (h : RF w bad b l X) (hn : X.flatten.Nodup) (hne : ∀ A ∈ X, A ≠ []) (hA : X[i]? = some A) (hx : A[k]? = some x) (hW : A.drop k ++ A.take k = x :: y :: rest) (hl : l ≤ 10000000) (hAl : ∀ A ∈ X, A.length ≤ 10000000) (hbad : ∀ k, w.heap.size ≤ k → ¬ bad k) :
    Calls Pg fn_plaitref05_Apart #[.slice b l c, .int .i64 x] w fun e w' => ∃ rb rl rc, e = .returned (.tuple #[.slice rb rl rc, .int .i64 0]) ∧ RF w' bad rb rl (wo X i i l ++ [[x], y :: rest]) ∧ Chg Nobody w w' := by
  refine (calls_plaitref05_Apart _ _ _ _ _ (fun v' w' => ∃ rb rl rc, v' = .tuple #[.slice rb rl rc, .int .i64 0] ∧ RF w' bad rb rl (wo X i i l ++ [[x], y :: rest]) ∧ Chg Nobody w w') ?_).mono (by rintro e w' ⟨v, rfl, a, b, c, rfl, k⟩; exact ⟨a, b, c, rfl, k⟩)
  unfold sh_plaitref05_Apart
  have hAm := List.mem_of_getElem? hA
  have hlA := hAl A hAm
  have hkl := (List.getElem?_eq_some_iff.1 hx).1
  have hfl := from_len hx
  have hlen : A.length = rest.length + 2 := by rw [← hfl, hW]; rfl
  refine (c_rFind h hn hA hx (by omega) (fun B hB => by have := hAl B hB; omega)).mono ?_
  rintro e w4 ⟨rfl, hc⟩
  refine ⟨_, _, rfl, ?_⟩
  have h4 := h.nob hc
  refine h4.rd hA fun eb ec hia hok hle => bif_i (fun h => ?_) (fun _ => ?_)
  · simp only [bne_iff_ne, ne_eq, bne_eq_false_iff_eq, Bool.not_eq_true, beq_iff_eq, beq_eq_false_iff_ne, decide_eq_true_eq, decide_eq_false_iff_not, Bool.not_eq_true', Bool.not_eq_false'] at h; omega
  refine h4.rd hA fun eb ec hia hok hle => ?_
  refine (c_from hia hkl hle (by omega)).mono ?_
  rintro e w11 ⟨fb, fc, rfl, hof, hc11⟩
  rw [from_ivs, hW] at hof
  have hch := hc.trans hc11
  have h11 := h4.nob hc11
  have hsz := hc.size
  have hs11 := hc11.size
  have hcap := hof.cap
  have hiW : IA w11 fb A.length (ints (x :: y :: rest)) := IA.of_own hof (by simp [ivs, Function.comp_def])
  have hpost := hiW.post (k := 1) (by omega)
  have eD : (ints (x :: y :: rest)).drop 1 = ints (y :: rest) := rfl
  rw [eD] at hpost
  have hDl : (y :: rest).length = A.length - 1 := by rw [hlen]; simp
  refine ⟨_, _, _, rfl, by omega, by omega, ?_⟩
  rw [show Int.toNat (1 : Int) = 1 from rfl, if_neg (by omega)]
  have hdr : w11.drew.heap.size = w11.heap.size := rfl
  -- the two as elements, wherever the one item's cell lies
  have two : ∀ (w0 w' : World) (a : Nat) (bad' : Nat → Prop), Chg Nobody w11 w0 → Row w0.heap a T_int [.int .i64 x] → w11.heap.size ≤ a → Chg Nobody w0 w' → (∀ i, bad' i → bad i ∨ (i ≠ a ∧ w11.heap.size ≤ i)) →
      OX w' bad' [.slice (some ⟨a, 0, none⟩) 1 1, .slice (Option.map (fun a => Addr.add a (1 * 1)) fb) (A.length - 1) (fc - 1)] [[x], y :: rest] := by
    intro w0 w' a bad' hc0 hr0 ha hcw hb
    have h1 : El w' bad' (.slice (some ⟨a, 0, none⟩) 1 1) [x] := by
      refine ⟨_, 1, rfl, (IA.of_row (A := [(x : Int)]) hr0).nob hcw, fun k hk hb' => ?_, Nat.le_refl _, by simp⟩
      cases hk
      rcases hb a hb' with h | ⟨h, _⟩
      · exact hbad a (by omega) h
      · exact h rfl
    have h2 : El w' bad' (.slice (Option.map (fun a => Addr.add a (1 * 1)) fb) (A.length - 1) (fc - 1)) (y :: rest) := by
      refine ⟨_, fc - 1, by rw [hDl], by rw [hDl]; exact hpost.nob (hc0.trans hcw), fun k' hk' hb' => ?_, by rw [hDl]; omega, by simp⟩
      have : bk (Option.map (fun a => Addr.add a (1 * 1)) fb) = bk fb := by
        cases fb with
        | none => rfl
        | some a => simp [bk, add_block]
      rw [this] at hk'
      obtain ⟨h1, h2⟩ := hof.bk_lt hk'
      rcases hb k' hb' with h | ⟨_, h⟩
      · exact hbad k' (by omega) h
      · omega
    exact OX.app (OX.one h1) (OX.one h2)
  refine ⟨?_, ?_⟩
  · refine (c_without05 h11.drew hne (by omega) (fun k hk => hbad k (by omega))).mono ?_
    rintro e w14 ⟨ob, ol, oc, xs, rfl, ho, hxo, hc14⟩
    refine ⟨_, _, _, rfl, alo_r fun hr1 => alo_r fun hr2 => ?_⟩
    have hs14 := hc14.size
    have hca : Chg Nobody w14 (w14.alloc (.cells #[.int .i64 x] T_int)) := (Chg.refl _ _).alloc _
    have hsA : (w14.alloc (.cells #[.int .i64 x] T_int)).heap.size = w14.heap.size + 1 := by show (w14.heap.push _).size = _; simp
    generalize hwA : w14.alloc (.cells #[.int .i64 x] T_int) = wA at *
    have hcb : Chg Nobody wA (wA.alloc (.cells #[.slice (some ⟨w14.heap.size, 0, none⟩) 1 1, .slice (Option.map (fun a => Addr.add a (1 * 1)) fb) (A.length - 1) (fc - 1)] T_sl_int)) := (Chg.refl _ _).alloc _
    have hc12 : Chg Nobody w11 wA := ((Chg.refl _ w11).drew.trans hc14).trans hca
    have hcab := hca.trans hcb
    have hxl := hxo.1
    have hol := ho.len
    have hwl := wo_sub (X := X) (a := i) (b := i) (n := l)
    obtain ⟨b', c', w3, hrun, ho', hx', hc8, _⟩ := ox_appendL (m := 2) (cc := 2) (ho.keep hcab (fun _ _ h => h)) (hxo.chg (bad' := Bad bad ob) hcab (fun _ _ h => h.elim) (fun _ _ h => h))
      (two wA _ w14.heap.size (Bad bad ob) hc12 hr1 (by omega) hcb (fun i hi => hi.imp id (fun hi => by have := ho.bk_lt hi; omega))) rfl (by omega) hr2 (Nat.le_trans hs14 hcab.size) (by omega) T_sl_sl_int
    refine ⟨_, _, _, w3, hrun, b', _, c', rfl, RF.of_own ho' hx' (fun k hk => hbad k (by omega)), ?_⟩
    exact hch.trans (((Chg.refl _ w11).drew.trans (hc14.trans hcab)).trans' hc8 (fun k hk => .inr (by have := (ho.bk_lt hk).1; omega)))
  · refine alo_r fun hr1 => ?_
    have hca : Chg Nobody w11 (w11.drew.alloc (.cells #[.int .i64 x] T_int)) := (Chg.refl _ _).drew.alloc _
    have hsA : (w11.drew.alloc (.cells #[.int .i64 x] T_int)).heap.size = w11.heap.size + 1 := by show (w11.heap.push _).size = _; simp
    rw [hdr] at hr1 ⊢
    generalize w11.drew.alloc (.cells #[.int .i64 x] T_int) = wA at *
    refine ⟨?_, ?_⟩
    · refine (c_tail (c := c) (Y := [[x], y :: rest]) (m := 2) (h11.nob hca) hne hl (fun k hk => hbad k (by omega)) (fun w' bad' h1 h2 => two wA w' w11.heap.size bad' hca hr1 (Nat.le_refl _) h1 (fun i hi => by
        by_cases hi' : i < wA.heap.size
        · exact .inl (h2 i hi' hi)
        · exact .inr ⟨by omega, by omega⟩)) rfl (by omega) (by omega)).mono ?_
      rintro e w25 ⟨ob, ol, oc, rfl, _, hk⟩
      refine ⟨_, _, _, rfl, alo_r fun hr2 => ?_⟩
      obtain ⟨rb, rl, rc, w3, hrun, hrf, hc8⟩ := hk _ _ _ ((Chg.refl _ _).alloc _) hr2
      exact ⟨_, _, _, w3, hrun, _, _, _, rfl, hrf, hch.trans (hca.trans hc8)⟩
    · refine alo_r fun hr2 => ?_
      have hcb : Chg Nobody wA (wA.alloc (.cells #[.slice (some ⟨w11.heap.size, 0, none⟩) 1 1, .slice (Option.map (fun a => Addr.add a (1 * 1)) fb) (A.length - 1) (fc - 1)] T_sl_int)) := (Chg.refl _ _).alloc _
      have hsB : (wA.alloc (.cells #[.slice (some ⟨w11.heap.size, 0, none⟩) 1 1, .slice (Option.map (fun a => Addr.add a (1 * 1)) fb) (A.length - 1) (fc - 1)] T_sl_int)).heap.size = wA.heap.size + 1 := by show (wA.heap.push _).size = _; simp
      generalize wA.alloc (.cells #[.slice (some ⟨w11.heap.size, 0, none⟩) 1 1, .slice (Option.map (fun a => Addr.add a (1 * 1)) fb) (A.length - 1) (fc - 1)] T_sl_int) = wB at *
      refine (c_tail (c := c) (Y := [[x], y :: rest]) (m := 2) ((h11.nob hca).nob hcb) hne hl (fun k hk => hbad k (by omega)) (fun w' bad' h1 h2 => two wA w' w11.heap.size bad' hca hr1 (Nat.le_refl _) (hcb.trans h1) (fun i hi => by
        by_cases hi' : i < wB.heap.size
        · exact .inl (h2 i hi' hi)
        · exact .inr ⟨by omega, by omega⟩)) rfl (by omega) (by omega)).mono ?_
      rintro e w35 ⟨ob, ol, oc, rfl, hc1, hk⟩
      refine ⟨_, _, _, rfl, ?_⟩
      obtain ⟨rb, rl, rc, w3, hrun, hrf, hc8⟩ := hk _ _ _ (Chg.refl _ _) (hc1.row (fun h => h) hr2)
      exact ⟨_, _, _, w3, hrun, _, _, _, rfl, hrf, hch.trans (hca.trans (hcb.trans hc8))⟩
theorem c_rApart05_alone (h : RF w bad b l X) (hn : X.flatten.Nodup) (hA : X[i]? = some [x]) (hl : l ≤ 10000000) (hAl : ∀ A ∈ X, A.length ≤ 10000000) :
    Calls Pg fn_plaitref05_Apart #[.slice b l c, .int .i64 x] w fun e w' => e = .returned (.tuple #[.slice b l c, .int .i64 20]) ∧ Chg Nobody w w' := by
  refine (calls_plaitref05_Apart _ _ _ _ _ (fun v' w' => v' = .tuple #[.slice b l c, .int .i64 20] ∧ Chg Nobody w w') ?_).mono (by rintro e w' ⟨v, rfl, rfl, k⟩; exact ⟨rfl, k⟩)
  unfold sh_plaitref05_Apart
  refine (c_rFind (k := 0) h hn hA rfl (by omega) (fun B hB => by have := hAl B hB; omega)).mono ?_
  rintro e w5 ⟨rfl, hc⟩
  refine ⟨_, _, rfl, (h.nob hc).rd hA fun eb ec hia hok hle => bif_i (fun _ => ⟨rfl, hc⟩) (fun h => by simp at h)⟩
end
end Seq
end Go.Proofs.YtledchlbmilneaaDoor
