/-
The reference of layer 4: what its functions make of lists.
Conditions: those that each theorem states.
-/
import Derived.Test.YtledchlbmilneaaDoorLawRef
namespace Go.Proofs.YtledchlbmilneaaDoor
open Go Go.RowKit
set_option linter.unusedVariables false
set_option linter.unusedSimpArgs false
namespace Seq
theorem ET_list : ET Pg T_sl_sl_int T_sl_int 1 24 := ET.of (by kernel_rfl) (by kernel_rfl)
/-- A list of items as a value. -/
def El (w : World) (bad : Nat → Prop) (v : Value) (A : List Nat) : Prop := ∃ eb ec, v = .slice eb A.length ec ∧ IA w eb A.length (ints A) ∧ Okb bad eb ∧ A.length ≤ ec ∧ 0 < A.length
def OX (w : World) (bad : Nat → Prop) (xs : List Value) (X : List (List Nat)) : Prop := xs.length = X.length ∧ ∀ (i : Nat) (A : List Nat), X[i]? = some A → ∃ v, xs[i]? = some v ∧ El w bad v A
section
variable {w w' : World} {bad bad' : Nat → Prop} {b b' : Option Addr} {l c base : Nat} {X : List (List Nat)} {A : List Nat} {xs : List Value} {v : Value}
theorem IA.blk {A : List Int} (h : IA w b l A) (hl : 0 < l) : ∃ g, bk b = some g ∧ g < w.heap.size := by
  rcases h.2 with h0 | ⟨g, o, e, cs, rfl, hr, _⟩
  · omega
  · exact ⟨g, rfl, hr.lt⟩
theorem El.chg {S : Nat → Prop} (h : El w bad v A) (k : Chg S w w') (hS : ∀ i, i < w.heap.size → S i → bad i) (hb : ∀ i, i < w.heap.size → bad' i → bad i) : El w' bad' v A := by
  obtain ⟨eb, ec, h1, h2, h3, h4, h5⟩ := h
  obtain ⟨g, hg, hlt⟩ := h2.blk h5
  refine ⟨eb, ec, h1, h2.keep k (fun g' hg' hs => ?_), fun k hk hb' => ?_, h4, h5⟩
  · rw [hg] at hg'; cases hg'; exact h3 g hg (hS g hlt hs)
  · rw [hg] at hk; cases hk; exact h3 g hg (hb g hlt hb')
theorem OX.chg {S : Nat → Prop} (h : OX w bad xs X) (k : Chg S w w') (hS : ∀ i, i < w.heap.size → S i → bad i) (hb : ∀ i, i < w.heap.size → bad' i → bad i) : OX w' bad' xs X :=
  ⟨h.1, fun i A hA => let ⟨v, h1, h2⟩ := h.2 i A hA; ⟨v, h1, h2.chg k hS hb⟩⟩
theorem OX.nil : OX w bad [] [] := ⟨rfl, fun i A h => by simp at h⟩
theorem OX.snoc (h : OX w bad xs X) (k : El w bad v A) : OX w bad (xs ++ [v]) (X ++ [A]) := by
  refine ⟨by simp [h.1], fun i B hB => ?_⟩
  by_cases hi : i < X.length
  · rw [List.getElem?_append_left hi] at hB
    obtain ⟨u, h1, h2⟩ := h.2 i B hB
    exact ⟨u, by rw [List.getElem?_append_left (by rw [h.1]; exact hi)]; exact h1, h2⟩
  · have hlt := (List.getElem?_eq_some_iff.1 hB).1
    simp at hlt
    have hi : i = X.length := by omega
    subst hi
    rw [List.getElem?_append_right (Nat.le_refl _)] at hB
    simp at hB
    subst hB
    exact ⟨v, by rw [← h.1, List.getElem?_append_right (Nat.le_refl _)]; simp, k⟩
/-- The blocks that a growing slice and its elements may not share. -/
abbrev Bad (bad : Nat → Prop) (b : Option Addr) : Nat → Prop := fun k => bad k ∨ bk b = some k
/-- One more list. -/
theorem ox_append (ho : Own w base T_sl_int 1 b l c xs) (hx : OX w (Bad bad b) xs X) (hv : El w (Bad bad b) v A) {a : Nat} (r : Row w.heap a T_sl_int [v]) (hb : base ≤ w.heap.size) (hl : l ≤ 1000000000) (ty : TypeId) :
    ∃ b' c' w', (Builtin.append_ #[T_sl_sl_int, T_sl_sl_int] ty #[.slice b l c, .slice (some ⟨a, 0, none⟩) 1 1]).run Pg w = .ok (.slice b' (l + 1) c') w' ∧ Own w' base T_sl_int 1 b' (l + 1) c' (xs ++ [v]) ∧ OX w' (Bad bad b') (xs ++ [v]) (X ++ [A]) ∧
      Chg (fun k => bk b = some k) w w' ∧ (bk b' = bk b ∨ bk b' = some w.heap.size) := by
  have h1c : ∀ u ∈ [v], oneC u = true := by obtain ⟨eb, ec, rfl, _⟩ := hv; simp [oneC]
  obtain ⟨b', c', w', hr, ho', hc, hw⟩ := own_append2 (ty := ty) ET_list ho r rfl h1c hb (by omega) (by omega)
  refine ⟨b', c', w', hr, ho', (hx.snoc hv).chg hc (fun i _ h => .inr h) (fun i hi h => ?_), hc, hw⟩
  rcases h with h | h
  · exact .inl h
  · rcases hw with e | e
    · exact .inr (by rw [← e]; exact h)
    · rw [e] at h; cases h; omega
theorem RF.of_own (ho : Own w base T_sl_int 1 b l c xs) (hx : OX w (Bad bad b) xs X) (hbad : ∀ k, base ≤ k → ¬ bad k) : RF w bad b l X := by
  have hl := ho.len
  rw [Nat.mul_one] at hl
  refine ⟨by rw [← hx.1, hl], fun k hk => hbad k (ho.bk_lt hk).1, ?_⟩
  by_cases h0 : l = 0
  · exact .inl h0
  · obtain ⟨g, cs, rfl, _, hr, ht, _, _⟩ := ho.get (by omega)
    refine .inr ⟨g, 0, _, cs, rfl, hr, fun i A hA => ?_⟩
    obtain ⟨v, h1, eb, ec, rfl, h2, h3, h4, h5⟩ := hx.2 i A hA
    have hi : i < l := by rw [← hl, hx.1]; exact (List.getElem?_eq_some_iff.1 hA).1
    exact ⟨eb, ec, by rw [Nat.zero_add, own_cell ht (by omega)]; exact h1, h2, fun k hk hb => h3 k hk (.inl hb), h4⟩
theorem RF.get (h : RF w bad b l X) {i : Nat} (hA : X[i]? = some A) : ∃ g o e cs eb ec, b = some ⟨g, o, none⟩ ∧ Row w.heap g e cs ∧ i < l ∧ cs[o + i]? = some (.slice eb A.length ec) ∧ IA w eb A.length (ints A) ∧ Okb bad eb ∧ A.length ≤ ec := by
  have hi : i < l := by rw [← h.1]; exact (List.getElem?_eq_some_iff.1 hA).1
  rcases h.2.2 with h0 | ⟨g, o, e, cs, rfl, hr, hc⟩
  · omega
  · obtain ⟨eb, ec, h4, h5, h6, h7⟩ := hc i A hA
    exact ⟨g, o, e, cs, eb, ec, rfl, hr, hi, h4, h5, h6, h7⟩
end
theorem ones_succ (n : Nat) : ones (n + 1) = ones n ++ [[n]] := by unfold ones; rw [List.range_succ, List.map_append]; rfl
theorem ones_len (n : Nat) : (ones n).length = n := by simp [ones]
theorem c_rNew {w : World} {bad : Nat → Prop} {m : Nat} (hm : m ≤ 1000000) (hbad : ∀ k, w.heap.size ≤ k → ¬ bad k) :
    Calls Pg fn_plaitref04_New #[.int .i64 m] w fun e w' => ∃ b c, e = .returned (.slice b m c) ∧ RF w' bad b m (ones m) ∧ Chg Nobody w w' := by
  refine (calls_plaitref04_New _ _ (fun v' w' => ∃ b c, v' = .slice b m c ∧ RF w' bad b m (ones m) ∧ Chg Nobody w w') ?_).mono (by rintro e w' ⟨v, rfl, b, c, rfl, k⟩; exact ⟨b, c, rfl, k⟩)
  unfold sh_plaitref04_New
  let J : Nat → List Value → World → Prop := fun j vs w' => ∃ (i : Nat) (b : Option Addr) (c : Nat) (xs : List Value), vs = [.slice b i c, .int .i64 i] ∧ i ≤ m ∧ Chg Nobody w w' ∧ Own w' w.heap.size T_sl_int 1 b i c xs ∧ OX w' (Bad bad b) xs (ones i) ∧ j = m - i
  refine ⟨LI J, LM J, ⟨_, 0, none, 0, [], rfl, by omega, Chg.refl _ _, Own.nil, OX.nil, rfl⟩, ?_⟩
  intro _ s3b s3l s3c n4 w5 hJ
  obtain ⟨i, b, c, xs, hvs, hi, hch, ho, hx, hj⟩ := hJ.at
  simp only [List.cons.injEq, Value.slice.injEq, Value.int.injEq, and_true, true_and] at hvs
  obtain ⟨⟨rfl, rfl, rfl⟩, rfl⟩ := hvs
  refine bif_i (fun hc => ?_) (fun hc => ?_) <;> simp only [bne_iff_ne, ne_eq, bne_eq_false_iff_eq, Bool.not_eq_true, beq_iff_eq, beq_eq_false_iff_ne, decide_eq_true_eq, decide_eq_false_iff_not, Bool.not_eq_true', Bool.not_eq_false'] at hc
  · refine alo_r fun hr1 => alo_r fun hr2 => ?_
    have hs1 : (w5.alloc (.cells #[.int .i64 s3l] T_int)).heap.size = w5.heap.size + 1 := by show (w5.heap.push _).size = _; simp
    have hc2 : Chg Nobody w5 ((w5.alloc (.cells #[.int .i64 s3l] T_int)).alloc (.cells #[.slice (some ⟨w5.heap.size, 0, none⟩) 1 1] T_sl_int)) := ((Chg.refl _ _).alloc _).alloc _
    have hr1 := hr1.alloc (.cells #[.slice (some ⟨w5.heap.size, 0, none⟩) 1 1] T_sl_int)
    have hia := IA.of_row (A := [(s3l : Int)]) hr1
    have hsz := hch.size
    have hbl : ∀ k, bk s3b = some k → k < w5.heap.size := fun k hk => (ho.bk_lt hk).2
    have ho := ho.keep hc2 (fun _ _ h => h)
    have hx := hx.chg (bad' := Bad bad s3b) hc2 (fun _ _ h => h.elim) (fun _ _ h => h)
    rw [hs1] at hr2 ⊢
    have hw2 : w5.heap.size + 1 < ((w5.alloc (.cells #[.int .i64 s3l] T_int)).alloc (.cells #[.slice (some ⟨w5.heap.size, 0, none⟩) 1 1] T_sl_int)).heap.size := hr2.lt
    generalize (w5.alloc (.cells #[.int .i64 s3l] T_int)).alloc (.cells #[.slice (some ⟨w5.heap.size, 0, none⟩) 1 1] T_sl_int) = w9 at *
    have hel : El w9 (Bad bad s3b) (.slice (some ⟨w5.heap.size, 0, none⟩) 1 1) [s3l] := by
      refine ⟨_, 1, rfl, hia, fun k hk hb => ?_, Nat.le_refl _, by simp⟩
      cases hk
      rcases hb with hb | hb
      · exact hbad _ hsz hb
      · exact absurd (hbl w5.heap.size hb) (by omega)
    obtain ⟨b', c', w11, hrun, ho', hx', hc3, _⟩ := ox_append ho hx hel hr2 (by omega) (by omega) T_sl_sl_int
    refine ⟨_, _, _, w11, hrun, ?_⟩
    rw [wrap64_in (by omega) (by omega)]
    refine LI.again (k := m - (s3l + 1)) ⟨s3l + 1, b', c', _, rfl, by omega, ?_, ho', by rw [ones_succ]; exact hx', rfl⟩ (by rw [hj]; omega)
    exact (hch.trans hc2).trans' hc3 (fun k hk => .inr (ho.bk_lt hk).1)
  · have hin : s3l = m := by omega
    subst hin
    exact ⟨s3b, s3c, rfl, RF.of_own ho hx hbad, hch⟩
end Seq
end Go.Proofs.YtledchlbmilneaaDoor
