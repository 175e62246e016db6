/-
The reference of layer 5: lists, each a cycle's sequence.
Conditions: those that each theorem states.
-/
import Derived.Test.YtaoemljoiahapaaGreatDoorGRef
import Derived.Test.YtaoemljoiahapaaGreatDoorGRing
import Derived.Test.YtaoemljoiahapaaGreatDoorShPlaitref05
namespace Go.Proofs.YtaoemljoiahapaaGreatDoor
open Go Go.RowKit
set_option linter.unusedVariables false
set_option linter.unusedSimpArgs false
namespace Seq
theorem c_without05 {w : World} {bad : Nat → Prop} {b : Option Addr} {l c : Nat} {x y : Int} {X : List (List Nat)} (h : RF w bad b l X) (hne : ∀ A ∈ X, A ≠ []) (hl : l ≤ 100000000) (hbad : ∀ k, w.heap.size ≤ k → ¬ bad k) :
    Calls Pg fn_plaitref05_without #[.slice b l c, .int .i64 x, .int .i64 y] w fun e w' => ∃ ob ol oc xs, e = .returned (.slice ob ol oc) ∧ Own w' w.heap.size T_sl_int 1 ob ol oc xs ∧ OX w' (Bad bad ob) xs (wo X x y l) ∧ Chg Nobody w w' := by
  refine (calls_plaitref05_without _ _ _ _ _ _ (fun v' w' => ∃ ob ol oc xs, v' = .slice ob ol oc ∧ Own w' w.heap.size T_sl_int 1 ob ol oc xs ∧ OX w' (Bad bad ob) xs (wo X x y l) ∧ Chg Nobody w w') ?_).mono (by rintro e w' ⟨v, rfl, a, b, c, d, rfl, k⟩; exact ⟨a, b, c, d, rfl, k⟩)
  unfold sh_plaitref05_without
  let J : Nat → List Value → World → Prop := fun j vs w' => ∃ (i : Nat) (ob : Option Addr) (ol oc : Nat) (xs : List Value), vs = [.slice ob ol oc, .int .i64 i] ∧ i ≤ l ∧ Chg Nobody w w' ∧ Own w' w.heap.size T_sl_int 1 ob ol oc xs ∧ OX w' (Bad bad ob) xs (wo X x y i) ∧ j = l - i
  refine ⟨LI J, LM J, ⟨_, 0, none, 0, 0, [], rfl, by omega, Chg.refl _ _, Own.nil, OX.nil, rfl⟩, ?_⟩
  intro _ s5b s5l s5c n6 w7 hJ
  obtain ⟨i, ob, ol, oc, xs, hvs, hi, hch, ho, hx, hj⟩ := hJ.at
  simp only [List.cons.injEq, Value.slice.injEq, Value.int.injEq, and_true, true_and] at hvs
  obtain ⟨⟨rfl, rfl, rfl⟩, rfl⟩ := hvs
  have hsz := hch.size
  refine bif_i (fun hc => ?_) (fun hc => ?_) <;> simp only [b1s] at hc
  case refine_2 =>
    have : i = l := by omega
    subst this
    exact ⟨_, _, _, xs, rfl, ho, hx, hch⟩
  have hw1 : IntKind.i64.wrap ((i : Int) + 1) = (i : Int) + 1 := wrap64_in (by omega) (by omega)
  rw [hw1]
  have skip : ((i : Int) = x ∨ (i : Int) = y) → LI J [.slice s5b s5l s5c, .int .i64 ((i : Int) + 1)] w7 ∧ LM J [.slice s5b s5l s5c, .int .i64 ((i : Int) + 1)] w7 < LM J [.slice s5b s5l s5c, .int .i64 (i : Int)] w7 := by
    intro hor
    refine LI.again (k := l - (i + 1)) ⟨i + 1, _, _, _, xs, rfl, by omega, hch, ho, ?_, rfl⟩ (by rw [hj]; omega)
    rw [wo_succ, if_pos hor]
    simpa using hx
  refine bif_i (fun h1 => ?_) (fun h1 => ?_) <;> simp only [b1s] at h1
  case refine_2 => exact skip (.inl h1)
  refine bif_i (fun h2 => ?_) (fun h2 => ?_) <;> simp only [b1s] at h2
  case refine_2 => exact skip (.inr h2)
  obtain ⟨A, hA⟩ : ∃ A, X[i]? = some A := ⟨_, List.getElem?_eq_getElem (by rw [h.1]; omega)⟩
  have hAne := List.length_pos_iff.2 (hne A (List.mem_of_getElem? hA))
  obtain ⟨g, o, e, cs, eb, ec, rfl, hr, hil, hcs, hia, hok, hle⟩ := h.get hA
  refine ixS_i hil (ldS_r (hch.row (fun h => h) hr) (by rw [Nat.mul_one]; exact hcs) ?_)
  refine alo_r fun hr2 => ?_
  have hc2 : Chg Nobody w7 (w7.alloc (.cells #[.slice eb A.length ec] T_sl_int)) := (Chg.refl _ _).alloc _
  have hel : El w7 (Bad bad s5b) (.slice eb A.length ec) A := by
    refine ⟨eb, ec, rfl, hia.nob hch, fun k hk hb => ?_, hle, hAne⟩
    rcases hb with hb | hb
    · exact hok k hk hb
    · obtain ⟨g', hg', hlt⟩ := hia.blk hAne
      rw [hk] at hg'; cases hg'
      have := (ho.bk_lt hb).1
      omega
  have ho2 := ho.keep hc2 (fun _ _ h => h)
  have hx2 := hx.chg (bad' := Bad bad s5b) hc2 (fun _ _ h => h.elim) (fun _ _ h => h)
  have hel2 := hel.chg (bad' := Bad bad s5b) hc2 (fun _ _ h => h.elim) (fun _ _ h => h)
  have hol : s5l ≤ l := by
    have h1 := ho.len
    have h2 := hx.1
    have h3 := wo_sub (X := X) (a := x) (b := y) (n := i)
    omega
  obtain ⟨b', c', w11, hrun, ho', hx', hc3, _⟩ := ox_append ho2 hx2 hel2 hr2 (Nat.le_trans hsz hc2.size) (by omega) T_sl_sl_int
  refine ⟨_, _, _, w11, hrun, ?_⟩
  refine LI.again (k := l - (i + 1)) ⟨i + 1, _, _, _, _, rfl, by omega, (hch.trans hc2).trans' hc3 (fun k hk => .inr (ho.bk_lt hk).1), ho', ?_, rfl⟩ (by rw [hj]; omega)
  rw [wo_succ, if_neg (by rintro (h | h); exact h1 h; exact h2 h), hA]
  exact hx'
/-- A list from a place on, and round. -/
theorem c_from {w : World} {b : Option Addr} {l c k : Nat} {A : List Int} (h : IA w b l A) (hk : k < l) (hlc : l ≤ c) (hl : l ≤ 100000000) :
    Calls Pg fn_plaitref05_from #[.slice b l c, .int .i64 k] w fun e w' => ∃ rb rc, e = .returned (.slice rb l rc) ∧ Own w' w.heap.size T_int 1 rb l rc ((A.drop k ++ A.take k).map (Value.int .i64)) ∧ Chg Nobody w w' := by
  refine (calls_plaitref05_from _ _ _ _ _ (fun v' w' => ∃ rb rc, v' = .slice rb l rc ∧ Own w' w.heap.size T_int 1 rb l rc ((A.drop k ++ A.take k).map (Value.int .i64)) ∧ Chg Nobody w w') ?_).mono (by rintro e w' ⟨v, rfl, b, c, rfl, k⟩; exact ⟨b, c, rfl, k⟩)
  unfold sh_plaitref05_from
  refine ⟨by omega, by omega, by omega, by omega, ?_⟩
  rw [show Int.toNat (k : Int) = k by omega, if_neg (by omega)]
  have hpost := h.drew.post (k := k) (by omega)
  obtain ⟨b1, c1, w3, hr1, ho1, hc1, _⟩ := own_appendN (sc := c - k) (ty := T_sl_int) (base := w.heap.size) (w := w.drew) ET_int Own.nil hpost (by omega) (Nat.le_refl _) (by omega) (by omega)
  have hc1' : Chg Nobody w w3 := (Chg.refl _ w).drew.trans (hc1.mono (fun k _ h => by simp [bk] at h))
  refine ⟨_, _, _, w3, hr1, ?_⟩
  rw [map_add0, ite_self, Nat.sub_zero, Nat.sub_zero]
  by_cases hk0 : k = 0
  · subst hk0
    refine ⟨_, _, _, w3, own_append0 (ty := T_sl_int) ET_int ho1, b1, c1, ?_, ?_, hc1'⟩
    · rw [show 0 + (l - 0) = l by omega]
    · simpa using ho1
  · have hpre := (h.nob hc1').pre (k := k) (by omega)
    obtain ⟨b2, c2, w5, hr2, ho2, hc2, _⟩ := own_appendN (sc := c) (ty := T_sl_int) ET_int ho1 hpre (by omega) hc1'.size (by omega) (by omega)
    refine ⟨_, _, _, w5, hr2, b2, c2, ?_, ?_, hc1'.trans' hc2 (fun i hi => .inr (ho1.bk_lt hi).1)⟩
    · rw [show 0 + (l - k) + k = l by omega]
    · rw [show 0 + (l - k) + k = l by omega] at ho2
      simpa using ho2
/-- All lists but two, and some more behind. -/
theorem c_tail {w : World} {bad : Nat → Prop} {b : Option Addr} {l c m : Nat} {x y : Int} {X Y : List (List Nat)} {vs : List Value} (h : RF w bad b l X) (hne : ∀ A ∈ X, A ≠ []) (hl : l ≤ 10000000) (hbad : ∀ k, w.heap.size ≤ k → ¬ bad k)
    (hv : ∀ (w' : World) (bad' : Nat → Prop), Chg Nobody w w' → (∀ i, i < w.heap.size → bad' i → bad i) → OX w' bad' vs Y) (hm : vs.length = m) (h0 : 0 < m) (hm2 : m ≤ 10) :
    Calls Pg fn_plaitref05_without #[.slice b l c, .int .i64 x, .int .i64 y] w fun e w1 => ∃ sb sl sc, e = .returned (.slice sb sl sc) ∧ Chg Nobody w w1 ∧ ∀ w2 a e', Chg Nobody w1 w2 → Row w2.heap a e' vs →
      ∃ rb rl rc w3, (Builtin.append_ #[T_sl_sl_int, T_sl_sl_int] T_sl_sl_int #[.slice sb sl sc, .slice (some ⟨a, 0, none⟩) m m]).run Pg w2 = .ok (.slice rb rl rc) w3 ∧ RF w3 bad rb rl (wo X x y l ++ Y) ∧ Chg Nobody w w3 := by
  refine (c_without05 h hne (by omega) hbad).mono ?_
  rintro e w1 ⟨ob, ol, oc, xs, rfl, ho, hx, hc⟩
  refine ⟨ob, ol, oc, rfl, hc, fun w2 a e' hc2 hr => ?_⟩
  have hxl := hx.1
  have hol := ho.len
  have hwl := wo_sub (X := X) (a := x) (b := y) (n := l)
  obtain ⟨b', c', w3, hrun, ho', hx', hc8, _⟩ := ox_appendL (m := m) (cc := m) (ho.keep hc2 (fun _ _ h => h)) (hx.chg (bad' := Bad bad ob) hc2 (fun _ _ h => h.elim) (fun _ _ h => h))
    (hv w2 (Bad bad ob) (hc.trans hc2) (fun i hi hb => hb.resolve_right (fun hb => by have := (ho.bk_lt hb).1; omega))) hm h0 hr (hc.trans hc2).size (by omega) T_sl_sl_int
  exact ⟨b', _, c', w3, hrun, RF.of_own ho' hx' hbad, (hc.trans hc2).trans' hc8 (fun k hk => .inr (ho.bk_lt hk).1)⟩
section
variable {w w' : World} {bad : Nat → Prop} {b : Option Addr} {l c i j k k2 x y : Nat} {X : List (List Nat)} {A A2 : List Nat}
/-- An own list as an element. -/
theorem El.of_own {wb : World} {ob : Option Addr} {oc : Nat} (ho : Own w wb.heap.size T_int 1 ob A.length oc (ivs A)) (h0 : 0 < A.length) (hbad : ∀ k, wb.heap.size ≤ k → ¬ bad k) :
    ∀ (w' : World) (bad' : Nat → Prop), Chg Nobody w w' → (∀ i, i < w.heap.size → bad' i → bad i) → El w' bad' (.slice ob A.length oc) A := by
  intro w' bad' hc hb
  have hia : IA w ob A.length (ints A) := IA.of_own ho (by simp [ivs, Function.comp_def])
  refine ⟨ob, oc, rfl, hia.nob hc, fun k hk hb' => ?_, ho.cap.1, h0⟩
  obtain ⟨h1, h2⟩ := ho.bk_lt hk
  exact hbad k h1 (hb k h2 hb')
theorem from_len (hx : A[k]? = some x) : (A.drop k ++ A.take k).length = A.length := by
  have := (List.getElem?_eq_some_iff.1 hx).1
  rw [List.length_append, List.length_drop, List.length_take]; omega
theorem from_ivs : ((ints A).drop k ++ (ints A).take k).map (Value.int .i64) = ivs (A.drop k ++ A.take k) := by
  rw [← List.map_drop, ← List.map_take]; simp [ivs, Function.comp_def]
theorem c_rWalk05 (h : RF w bad b l X) (hn : X.flatten.Nodup) (hA : X[i]? = some A) (hx : A[k]? = some x) (hl : l ≤ 10000000) (hAl : ∀ A ∈ X, A.length ≤ 10000000) :
    Calls Pg fn_plaitref05_Walk #[.slice b l c, .int .i64 x] w fun e w' => ∃ rb rc, e = .returned (.slice rb A.length rc) ∧ IA w' rb A.length (ints (A.drop k ++ A.take k)) ∧ (∀ g, bk rb = some g → w.heap.size ≤ g) ∧ Chg Nobody w w' := by
  refine (calls_plaitref05_Walk _ _ _ _ _ (fun v' w' => ∃ rb rc, v' = .slice rb A.length rc ∧ IA w' rb A.length (ints (A.drop k ++ A.take k)) ∧ (∀ g, bk rb = some g → w.heap.size ≤ g) ∧ Chg Nobody w w') ?_).mono (by rintro e w' ⟨v, rfl, b, c, rfl, k⟩; exact ⟨b, c, rfl, k⟩)
  unfold sh_plaitref05_Walk
  refine (c_rFind h hn hA hx (by omega) (fun B hB => by have := hAl B hB; omega)).mono ?_
  rintro e w4 ⟨rfl, hc⟩
  refine ⟨_, _, rfl, (h.nob hc).rd hA fun eb ec hia hok hle => ?_⟩
  have hlA := hAl A (List.mem_of_getElem? hA)
  refine (c_from hia (List.getElem?_eq_some_iff.1 hx).1 hle (by omega)).mono ?_
  rintro e w9 ⟨rb, rc, rfl, ho, hc2⟩
  have hsz := hc.size
  refine ⟨_, _, _, rfl, rb, rc, rfl, IA.of_own ho ?_, fun g hg => by have := (ho.bk_lt hg).1; omega, hc.trans hc2⟩
  rw [from_ivs]; simp [ivs, Function.comp_def]
theorem c_rMerge05 (h : RF w bad b l X) (hn : X.flatten.Nodup) (hne : ∀ A ∈ X, A ≠ []) (hA : X[i]? = some A) (hx : A[k]? = some x) (hA2 : X[j]? = some A2) (hy : A2[k2]? = some y) (hij : i ≠ j) (hl : l ≤ 10000000) (hAl : ∀ A ∈ X, A.length ≤ 10000000) (hbad : ∀ k, w.heap.size ≤ k → ¬ bad k) :
    Calls Pg fn_plaitref05_Merge #[.slice b l c, .int .i64 x, .int .i64 y] w fun e w' => ∃ rb rl rc, e = .returned (.tuple #[.slice rb rl rc, .int .i64 0]) ∧ RF w' bad rb rl (wo X i j l ++ [(A.drop k ++ A.take k) ++ (A2.drop k2 ++ A2.take k2)]) ∧ Chg Nobody w w' := by
  refine (calls_plaitref05_Merge _ _ _ _ _ _ (fun v' w' => ∃ rb rl rc, v' = .tuple #[.slice rb rl rc, .int .i64 0] ∧ RF w' bad rb rl (wo X i j l ++ [(A.drop k ++ A.take k) ++ (A2.drop k2 ++ A2.take k2)]) ∧ Chg Nobody w w') ?_).mono (by rintro e w' ⟨v, rfl, a, b, c, rfl, k⟩; exact ⟨a, b, c, rfl, k⟩)
  unfold sh_plaitref05_Merge
  refine (c_rFind h hn hA hx (by omega) (fun B hB => by have := hAl B hB; omega)).mono ?_
  rintro e w5 ⟨rfl, hc⟩
  refine ⟨_, _, rfl, ?_⟩
  refine (c_rFind (h.nob hc) hn hA2 hy (by omega) (fun B hB => by have := hAl B hB; omega)).mono ?_
  rintro e w9 ⟨rfl, hc2⟩
  have hch := (hc.trans hc2).drew
  refine ⟨_, _, rfl, bif_i (fun h => ?_) (fun _ => ?_)⟩
  · simp only [b1s] at h; omega
  have h9 := h.nob hch
  generalize w9.drew = w10 at *
  have hlA := hAl A (List.mem_of_getElem? hA)
  have hlB := hAl A2 (List.mem_of_getElem? hA2)
  have hk1 := (List.getElem?_eq_some_iff.1 hx).1
  have hk2 := (List.getElem?_eq_some_iff.1 hy).1
  have hf1 := from_len hx
  have hf2 := from_len hy
  obtain ⟨g, o, e1, cs, ea, ca, hb1, hr, hil, hcA, hiA, _, hle1⟩ := h9.get hA
  obtain ⟨g', o', e2, cs', eb, cb, hb2, hr', hjl, hcB, hiB, _, hle2⟩ := h9.get hA2
  rw [hb1] at hb2
  injection hb2 with hb2; injection hb2 with hgg hoo; subst hgg hoo
  obtain ⟨rfl, rfl⟩ := hr.inj hr'
  subst hb1
  refine ixS_i hil (ldS_r hr (by rw [Nat.mul_one]; exact hcA) ?_)
  refine ixS_i hjl (ldS_r hr (by rw [Nat.mul_one]; exact hcB) ?_)
  have hsz := hch.size
  refine (c_without05 h9 hne (by omega) (fun k hk => hbad k (Nat.le_trans hsz hk))).mono ?_
  rintro e w16 ⟨ob2, ol2, oc2, xs, rfl, ho2, hx2, hc3⟩
  refine ⟨_, _, _, rfl, ?_⟩
  have hr16 := hc3.row (fun h => h) hr
  refine ⟨by rw [hr16.cell, Nat.mul_one]; exact hcB, by rw [hr16.cell, Nat.mul_one]; exact hcA, ?_⟩
  refine (c_from (hiA.nob hc3) hk1 hle1 (by omega)).mono ?_
  rintro e w19 ⟨fb1, fc1, rfl, hof1, hc4⟩
  rw [from_ivs] at hof1
  have hr19 := hc4.row (fun h => h) hr16
  refine ⟨_, _, _, rfl, by rw [hr19.cell, Nat.mul_one]; exact hcB, ?_⟩
  refine (c_from ((hiB.nob hc3).nob hc4) hk2 hle2 (by omega)).mono ?_
  rintro e w22 ⟨fb2, fc2, rfl, hof2, hc5⟩
  rw [from_ivs] at hof2
  refine ⟨_, _, _, rfl, ?_⟩
  have hs3 := hc3.size
  have hs4 := hc4.size
  have hs5 := hc5.size
  have hi2 : IA w22 fb2 A2.length (ints (A2.drop k2 ++ A2.take k2)) := IA.of_own hof2 (by simp [ivs, Function.comp_def])
  obtain ⟨b3, c3, w25, hr3, ho3, hc6, _⟩ := own_appendN (sc := fc2) (ty := T_sl_int) ET_int (hof1.keep hc5 (fun _ _ h => h)) hi2 (by omega) (by omega) (by omega) (by omega)
  refine ⟨_, _, _, w25, hr3, alo_r fun hr2 => ?_⟩
  have hcc : Chg Nobody w16 w25 := (hc4.trans hc5).trans' hc6 (fun i hi => .inr (hof1.bk_lt hi).1)
  have hca : Chg Nobody w25 (w25.alloc (.cells #[.slice b3 (A.length + A2.length) c3] T_sl_int)) := (Chg.refl _ _).alloc _
  have hlen : ((A.drop k ++ A.take k) ++ (A2.drop k2 ++ A2.take k2)).length = A.length + A2.length := by rw [List.length_append, hf1, hf2]
  have ho3' : Own w25 w16.heap.size T_int 1 b3 ((A.drop k ++ A.take k) ++ (A2.drop k2 ++ A2.take k2)).length c3 (ivs ((A.drop k ++ A.take k) ++ (A2.drop k2 ++ A2.take k2))) := by
    rw [hlen]
    have e0 : ivs (A.drop k ++ A.take k) ++ (ints (A2.drop k2 ++ A2.take k2)).map (Value.int .i64) = ivs ((A.drop k ++ A.take k) ++ (A2.drop k2 ++ A2.take k2)) := by simp [ivs, Function.comp_def]
    rw [← e0]; exact ho3
  have hel := El.of_own (bad := Bad bad ob2) ho3' (by omega) (fun k hk hb => hb.elim (hbad k (by omega)) (fun hb => by have := (ho2.bk_lt hb).2; omega)) (w25.alloc (.cells #[.slice b3 (A.length + A2.length) c3] T_sl_int)) (Bad bad ob2) hca (fun _ _ h => h)
  rw [hlen] at hel
  have hxl := hx2.1
  have hol := ho2.len
  have hwl := wo_sub (X := X) (a := i) (b := j) (n := l)
  have hc7 := hcc.trans hca
  obtain ⟨b', c', w29, hrun, ho', hx', hc8, _⟩ := ox_append (ho2.keep hc7 (fun _ _ h => h)) (hx2.chg (bad' := Bad bad ob2) hc7 (fun _ _ h => h.elim) (fun _ _ h => h)) hel hr2 (Nat.le_trans hs3 hc7.size) (by omega) T_sl_sl_int
  refine ⟨_, _, _, w29, hrun, b', _, c', rfl, RF.of_own ho' hx' (fun k hk => hbad k (Nat.le_trans hsz hk)), ?_⟩
  exact hch.trans ((hc3.trans hc7).trans' hc8 (fun k hk => .inr (ho2.bk_lt hk).1))
end
end Seq
end Go.Proofs.YtaoemljoiahapaaGreatDoor
/-
The reference of layer 5: a list split, an item taken out.
Conditions: those that each theorem states.
-/
namespace Go.Proofs.YtaoemljoiahapaaGreatDoor
open Go Go.RowKit
set_option linter.unusedVariables false
set_option linter.unusedSimpArgs false
namespace Seq
section
variable {w w' : World} {bad : Nat → Prop} {b : Option Addr} {l c i j k k2 x y : Nat} {X : List (List Nat)} {A A2 mid rest : List Nat}
theorem c_rSplit05_same (h : RF w bad b l X) (hn : X.flatten.Nodup) (hA : X[i]? = some A) (hx : A[k]? = some x) (hl : l ≤ 10000000) (hAl : ∀ A ∈ X, A.length ≤ 10000000) :
    Calls Pg fn_plaitref05_Split #[.slice b l c, .int .i64 x, .int .i64 x] w fun e w' => e = .returned (.tuple #[.slice b l c, .int .i64 20]) ∧ Chg Nobody w w' := by
  refine (calls_plaitref05_Split _ _ _ _ _ _ (fun v' w' => v' = .tuple #[.slice b l c, .int .i64 20] ∧ Chg Nobody w w') ?_).mono (by rintro e w' ⟨v, rfl, rfl, k⟩; exact ⟨rfl, k⟩)
  unfold sh_plaitref05_Split
  refine (c_rFind h hn hA hx (by omega) (fun B hB => by have := hAl B hB; omega)).mono ?_
  rintro e w5 ⟨rfl, hc⟩
  refine ⟨_, _, rfl, ?_⟩
  refine (c_rFind (h.nob hc) hn hA hx (by omega) (fun B hB => by have := hAl B hB; omega)).mono ?_
  rintro e w9 ⟨rfl, hc2⟩
  exact ⟨_, _, rfl, bif_i (fun _ => ⟨rfl, hc.trans hc2⟩) (fun h => by simp at h)⟩
theorem c_rSplit05_apart (h : RF w bad b l X) (hn : X.flatten.Nodup) (hA : X[i]? = some A) (hx : A[k]? = some x) (hA2 : X[j]? = some A2) (hy : A2[k2]? = some y) (hij : i ≠ j) (hl : l ≤ 10000000) (hAl : ∀ A ∈ X, A.length ≤ 10000000) :
    Calls Pg fn_plaitref05_Split #[.slice b l c, .int .i64 x, .int .i64 y] w fun e w' => e = .returned (.tuple #[.slice b l c, .int .i64 21]) ∧ Chg Nobody w w' := by
  refine (calls_plaitref05_Split _ _ _ _ _ _ (fun v' w' => v' = .tuple #[.slice b l c, .int .i64 21] ∧ Chg Nobody w w') ?_).mono (by rintro e w' ⟨v, rfl, rfl, k⟩; exact ⟨rfl, k⟩)
  unfold sh_plaitref05_Split
  refine (c_rFind h hn hA hx (by omega) (fun B hB => by have := hAl B hB; omega)).mono ?_
  rintro e w5 ⟨rfl, hc⟩
  refine ⟨_, _, rfl, ?_⟩
  refine (c_rFind (h.nob hc) hn hA2 hy (by omega) (fun B hB => by have := hAl B hB; omega)).mono ?_
  rintro e w9 ⟨rfl, hc2⟩
  refine ⟨_, _, rfl, bif_i (fun h => ?_) (fun _ => bif_i (fun _ => ⟨rfl, hc.trans hc2⟩) (fun h => ?_))⟩
  · simp only [b1s] at h
    have : x = y := by omega
    subst this
    exact absurd (flat_idx hn hA hA2 hx hy).1 hij
  · simp only [b1s] at h; omega
theorem c_rSplit05 (h : RF w bad b l X) (hn : X.flatten.Nodup) (hne : ∀ A ∈ X, A ≠ []) (hA : X[i]? = some A) (hx : A[k]? = some x) (hW : A.drop k ++ A.take k = x :: mid ++ y :: rest) (hl : l ≤ 10000000) (hAl : ∀ A ∈ X, A.length ≤ 10000000) (hbad : ∀ k, w.heap.size ≤ k → ¬ bad k) :
    Calls Pg fn_plaitref05_Split #[.slice b l c, .int .i64 x, .int .i64 y] w fun e w' => ∃ rb rl rc, e = .returned (.tuple #[.slice rb rl rc, .int .i64 0]) ∧ RF w' bad rb rl (wo X i i l ++ [x :: mid, y :: rest]) ∧ Chg Nobody w w' := by
  refine (calls_plaitref05_Split _ _ _ _ _ _ (fun v' w' => ∃ rb rl rc, v' = .tuple #[.slice rb rl rc, .int .i64 0] ∧ RF w' bad rb rl (wo X i i l ++ [x :: mid, y :: rest]) ∧ Chg Nobody w w') ?_).mono (by rintro e w' ⟨v, rfl, a, b, c, rfl, k⟩; exact ⟨a, b, c, rfl, k⟩)
  unfold sh_plaitref05_Split
  have hAm := List.mem_of_getElem? hA
  have hlA := hAl A hAm
  have hkl := (List.getElem?_eq_some_iff.1 hx).1
  have hfl := from_len hx
  have hnA : A.Nodup := List.Sublist.nodup (List.sublist_flatten_of_mem hAm) hn
  have hp : (A.drop k ++ A.take k).Perm A := by
    refine List.perm_append_comm.trans ?_
    rw [List.take_append_drop]
  have hnW : (x :: mid ++ y :: rest).Nodup := by rw [← hW]; exact hp.nodup_iff.2 hnA
  have hyA : y ∈ A := by rw [← hp.mem_iff, hW]; simp
  obtain ⟨k2, hy⟩ := List.getElem?_of_mem hyA
  have hxy : x ≠ y := by rintro rfl; simp at hnW
  refine (c_rFind h hn hA hx (by omega) (fun B hB => by have := hAl B hB; omega)).mono ?_
  rintro e w5 ⟨rfl, hc⟩
  refine ⟨_, _, rfl, ?_⟩
  refine (c_rFind (h.nob hc) hn hA hy (by omega) (fun B hB => by have := hAl B hB; omega)).mono ?_
  rintro e w9 ⟨rfl, hc2⟩
  have hch := hc.trans hc2
  refine ⟨_, _, rfl, bif_i (fun h => ?_) (fun _ => bif_i (fun h => by simp at h) (fun _ => ?_))⟩
  · simp only [b1s] at h; omega
  have h9 := h.nob hch
  refine h9.rd hA fun eb ec hia hok hle => ?_
  refine (c_from hia hkl hle (by omega)).mono ?_
  rintro e w14 ⟨fb, fc, rfl, hof, hc14⟩
  rw [from_ivs, hW] at hof
  refine ⟨_, _, _, rfl, ?_⟩
  have hlen : A.length = (x :: mid ++ y :: rest).length := by rw [← hW, hfl]
  have hiW : IA w14 fb A.length (ints (x :: mid ++ y :: rest)) := IA.of_own hof (by simp [ivs, Function.comp_def])
  have hcap := hof.cap
  let J : Nat → List Value → World → Prop := fun j vs w' => ∃ t : Nat, vs = [.int .i64 t] ∧ t ≤ mid.length + 1 ∧ w' = w14 ∧ j = A.length - t
  refine ⟨LI J, LM J, ⟨_, 0, rfl, by omega, rfl, rfl⟩, ?_⟩
  intro _ n18 w19 hJ
  obtain ⟨t, hvs, ht, rfl, hj⟩ := hJ.at
  simp only [List.cons.injEq, Value.int.injEq, and_true, true_and] at hvs
  subst hvs
  have hlen2 : A.length = mid.length + 1 + (rest.length + 1) := by rw [hlen]; simp; omega
  obtain ⟨u, hu⟩ : ∃ u, (x :: mid ++ y :: rest)[t]? = some u := ⟨_, List.getElem?_eq_getElem (by rw [← hlen]; omega)⟩
  refine hiW.rd (x := (u : Int)) (by rw [List.getElem?_map, hu]; rfl) ?_
  have hyt : (x :: mid ++ y :: rest)[mid.length + 1]? = some y := by
    rw [List.getElem?_append_right (by simp)]; simp
  refine bif_i (fun hc3 => ?_) (fun hc3 => ?_) <;> simp only [b1s] at hc3
  · rw [wrap64_in (by omega) (by omega)]
    refine LI.again (k := A.length - (t + 1)) ⟨t + 1, rfl, ?_, rfl, rfl⟩ (by rw [hj]; omega)
    have : t ≠ mid.length + 1 := by rintro rfl; rw [hyt] at hu; injection hu with hu; exact hc3 (by rw [hu])
    omega
  · have huy : u = y := by omega
    subst huy
    have htm : t = mid.length + 1 := idx_uniq hnW hu hyt
    subst htm
    clear hJ hj J hu
    have hch2 := hch.trans hc14
    have hsz := hch.size
    have hs14 := hc14.size
    refine ⟨by omega, by omega, by omega, by omega, by omega, by omega, ?_⟩
    rw [show Int.toNat ((mid.length + 1 : Nat) : Int) = mid.length + 1 by omega, if_neg (by omega), map_add0, Nat.sub_zero]
    have hTl : (x :: mid).length = mid.length + 1 := rfl
    have hDl : (u :: rest).length = A.length - (mid.length + 1) := by rw [hlen2]; simp
    have hpre := hiW.pre (k := mid.length + 1) (by omega)
    have hpost := hiW.post (k := mid.length + 1) (by omega)
    have eT : (ints (x :: mid ++ u :: rest)).take (mid.length + 1) = ints (x :: mid) := by rw [← List.map_take]; congr 1; exact List.take_left (l₁ := x :: mid)
    have eD : (ints (x :: mid ++ u :: rest)).drop (mid.length + 1) = ints (u :: rest) := by rw [← List.map_drop]; congr 1; exact List.drop_left (l₁ := x :: mid)
    rw [eT] at hpre
    rw [eD] at hpost
    rw [if_neg (by omega)]
    have halves : ∀ (w' : World) (bad' : Nat → Prop), Chg Nobody w19 w' → (∀ i, i < w19.heap.size → bad' i → bad i) → OX w' bad' [.slice fb (mid.length + 1) (mid.length + 1), .slice (Option.map (fun a => Addr.add a ((mid.length + 1) * 1)) fb) (A.length - (mid.length + 1)) (fc - (mid.length + 1))] [x :: mid, u :: rest] := by
      intro w' bad' hcw hb
      have hbb : ∀ k, bk fb = some k → ¬ bad' k := fun k hk hb' => by
        obtain ⟨h1, h2⟩ := hof.bk_lt hk
        exact hbad k (by omega) (hb k h2 hb')
      have h1 : El w' bad' (.slice fb (mid.length + 1) (mid.length + 1)) (x :: mid) := ⟨fb, mid.length + 1, rfl, hpre.nob hcw, hbb, Nat.le_refl _, by simp⟩
      have h2 : El w' bad' (.slice (Option.map (fun a => Addr.add a ((mid.length + 1) * 1)) fb) (A.length - (mid.length + 1)) (fc - (mid.length + 1))) (u :: rest) := by
        refine ⟨_, fc - (mid.length + 1), by rw [hDl], by rw [hDl]; exact hpost.nob hcw, fun k' hk' => ?_, by rw [hDl]; omega, by simp⟩
        have : bk (Option.map (fun a => Addr.add a ((mid.length + 1) * 1)) fb) = bk fb := by
          cases fb with
          | none => rfl
          | some a => simp [bk, add_block]
        rw [this] at hk'
        exact hbb k' hk'
      exact OX.app (OX.one h1) (OX.one h2)
    have h19 := h9.nob hc14
    refine ⟨?_, ?_⟩
    · refine (c_tail (c := c) (Y := [x :: mid, u :: rest]) (m := 2) h19.drew hne hl (fun k hk => hbad k (by have : w19.drew.heap.size = w19.heap.size := rfl; omega)) (fun w' bad' h1 h2 => halves w' bad' ((Chg.refl _ w19).drew.trans h1) h2) rfl (by omega) (by omega)).mono ?_
      rintro e w23 ⟨ob, ol, oc, rfl, _, hk⟩
      refine ⟨_, _, _, rfl, alo_r fun hr2 => ?_⟩
      obtain ⟨rb, rl, rc, w3, hrun, hrf, hc8⟩ := hk _ _ _ ((Chg.refl _ _).alloc _) hr2
      exact ⟨_, _, _, w3, hrun, _, _, _, rfl, hrf, (hch2.drew).trans hc8⟩
    · refine alo_r fun hr2 => ?_
      have hc4 : Chg Nobody w19 (w19.drew.alloc (.cells #[.slice fb (mid.length + 1) (mid.length + 1), .slice (Option.map (fun a => Addr.add a ((mid.length + 1) * 1)) fb) (A.length - (mid.length + 1)) (fc - (mid.length + 1))] T_sl_int)) := ((Chg.refl _ _).drew).alloc _
      generalize w19.drew.alloc (.cells #[.slice fb (mid.length + 1) (mid.length + 1), .slice (Option.map (fun a => Addr.add a ((mid.length + 1) * 1)) fb) (A.length - (mid.length + 1)) (fc - (mid.length + 1))] T_sl_int) = w30 at *
      have hsz4 := hc4.size
      refine (c_tail (c := c) (Y := [x :: mid, u :: rest]) (m := 2) (h19.nob hc4) hne hl (fun k hk => hbad k (by omega)) (fun w' bad' h1 h2 => halves w' bad' (hc4.trans h1) (fun i hi hb => h2 i (by omega) hb)) rfl (by omega) (by omega)).mono ?_
      rintro e w32 ⟨ob, ol, oc, rfl, hc1, hk⟩
      refine ⟨_, _, _, rfl, ?_⟩
      obtain ⟨rb, rl, rc, w3, hrun, hrf, hc8⟩ := hk _ _ _ (Chg.refl _ _) (hc1.row (fun h => h) hr2)
      exact ⟨_, _, _, w3, hrun, _, _, _, rfl, hrf, hch2.trans (hc4.trans hc8)⟩
theorem c_rApart05 (h : RF w bad b l X) (hn : X.flatten.Nodup) (hne : ∀ A ∈ X, A ≠ []) (hA : X[i]? = some A) (hx : A[k]? = some x) (hW : A.drop k ++ A.take k = x :: y :: rest) (hl : l ≤ 10000000) (hAl : ∀ A ∈ X, A.length ≤ 10000000) (hbad : ∀ k, w.heap.size ≤ k → ¬ bad k) :
    Calls Pg fn_plaitref05_Apart #[.slice b l c, .int .i64 x] w fun e w' => ∃ rb rl rc, e = .returned (.tuple #[.slice rb rl rc, .int .i64 0]) ∧ RF w' bad rb rl (wo X i i l ++ [[x], y :: rest]) ∧ Chg Nobody w w' := by
  refine (calls_plaitref05_Apart _ _ _ _ _ (fun v' w' => ∃ rb rl rc, v' = .tuple #[.slice rb rl rc, .int .i64 0] ∧ RF w' bad rb rl (wo X i i l ++ [[x], y :: rest]) ∧ Chg Nobody w w') ?_).mono (by rintro e w' ⟨v, rfl, a, b, c, rfl, k⟩; exact ⟨a, b, c, rfl, k⟩)
  unfold sh_plaitref05_Apart
  have hAm := List.mem_of_getElem? hA
  have hlA := hAl A hAm
  have hkl := (List.getElem?_eq_some_iff.1 hx).1
  have hfl := from_len hx
  have hlen : A.length = rest.length + 2 := by rw [← hfl, hW]; rfl
  refine (c_rFind h hn hA hx (by omega) (fun B hB => by have := hAl B hB; omega)).mono ?_
  rintro e w4 ⟨rfl, hc⟩
  refine ⟨_, _, rfl, ?_⟩
  have h4 := h.nob hc
  refine h4.rd hA fun eb ec hia hok hle => bif_i (fun h => ?_) (fun _ => ?_)
  · simp only [b1s] at h; omega
  refine h4.rd hA fun eb ec hia hok hle => ?_
  refine (c_from hia hkl hle (by omega)).mono ?_
  rintro e w11 ⟨fb, fc, rfl, hof, hc11⟩
  rw [from_ivs, hW] at hof
  have hch := hc.trans hc11
  have h11 := h4.nob hc11
  have hsz := hc.size
  have hs11 := hc11.size
  have hcap := hof.cap
  have hiW : IA w11 fb A.length (ints (x :: y :: rest)) := IA.of_own hof (by simp [ivs, Function.comp_def])
  have hpost := hiW.post (k := 1) (by omega)
  have eD : (ints (x :: y :: rest)).drop 1 = ints (y :: rest) := rfl
  rw [eD] at hpost
  have hDl : (y :: rest).length = A.length - 1 := by rw [hlen]; simp
  refine ⟨_, _, _, rfl, by omega, by omega, ?_⟩
  rw [show Int.toNat (1 : Int) = 1 from rfl, if_neg (by omega)]
  have hdr : w11.drew.heap.size = w11.heap.size := rfl
  -- the two as elements, wherever the one item's cell lies
  have two : ∀ (w0 w' : World) (a : Nat) (bad' : Nat → Prop), Chg Nobody w11 w0 → Row w0.heap a T_int [.int .i64 x] → w11.heap.size ≤ a → Chg Nobody w0 w' → (∀ i, bad' i → bad i ∨ (i ≠ a ∧ w11.heap.size ≤ i)) →
      OX w' bad' [.slice (some ⟨a, 0, none⟩) 1 1, .slice (Option.map (fun a => Addr.add a (1 * 1)) fb) (A.length - 1) (fc - 1)] [[x], y :: rest] := by
    intro w0 w' a bad' hc0 hr0 ha hcw hb
    have h1 : El w' bad' (.slice (some ⟨a, 0, none⟩) 1 1) [x] := by
      refine ⟨_, 1, rfl, (IA.of_row (A := [(x : Int)]) hr0).nob hcw, fun k hk hb' => ?_, Nat.le_refl _, by simp⟩
      cases hk
      rcases hb a hb' with h | ⟨h, _⟩
      · exact hbad a (by omega) h
      · exact h rfl
    have h2 : El w' bad' (.slice (Option.map (fun a => Addr.add a (1 * 1)) fb) (A.length - 1) (fc - 1)) (y :: rest) := by
      refine ⟨_, fc - 1, by rw [hDl], by rw [hDl]; exact hpost.nob (hc0.trans hcw), fun k' hk' hb' => ?_, by rw [hDl]; omega, by simp⟩
      have : bk (Option.map (fun a => Addr.add a (1 * 1)) fb) = bk fb := by
        cases fb with
        | none => rfl
        | some a => simp [bk, add_block]
      rw [this] at hk'
      obtain ⟨h1, h2⟩ := hof.bk_lt hk'
      rcases hb k' hb' with h | ⟨_, h⟩
      · exact hbad k' (by omega) h
      · omega
    exact OX.app (OX.one h1) (OX.one h2)
  refine ⟨?_, ?_⟩
  · refine (c_without05 h11.drew hne (by omega) (fun k hk => hbad k (by omega))).mono ?_
    rintro e w14 ⟨ob, ol, oc, xs, rfl, ho, hxo, hc14⟩
    refine ⟨_, _, _, rfl, alo_r fun hr1 => alo_r fun hr2 => ?_⟩
    have hs14 := hc14.size
    have hca : Chg Nobody w14 (w14.alloc (.cells #[.int .i64 x] T_int)) := (Chg.refl _ _).alloc _
    have hsA : (w14.alloc (.cells #[.int .i64 x] T_int)).heap.size = w14.heap.size + 1 := by show (w14.heap.push _).size = _; simp
    generalize hwA : w14.alloc (.cells #[.int .i64 x] T_int) = wA at *
    have hcb : Chg Nobody wA (wA.alloc (.cells #[.slice (some ⟨w14.heap.size, 0, none⟩) 1 1, .slice (Option.map (fun a => Addr.add a (1 * 1)) fb) (A.length - 1) (fc - 1)] T_sl_int)) := (Chg.refl _ _).alloc _
    have hc12 : Chg Nobody w11 wA := ((Chg.refl _ w11).drew.trans hc14).trans hca
    have hcab := hca.trans hcb
    have hxl := hxo.1
    have hol := ho.len
    have hwl := wo_sub (X := X) (a := i) (b := i) (n := l)
    obtain ⟨b', c', w3, hrun, ho', hx', hc8, _⟩ := ox_appendL (m := 2) (cc := 2) (ho.keep hcab (fun _ _ h => h)) (hxo.chg (bad' := Bad bad ob) hcab (fun _ _ h => h.elim) (fun _ _ h => h))
      (two wA _ w14.heap.size (Bad bad ob) hc12 hr1 (by omega) hcb (fun i hi => hi.imp id (fun hi => by have := ho.bk_lt hi; omega))) rfl (by omega) hr2 (Nat.le_trans hs14 hcab.size) (by omega) T_sl_sl_int
    refine ⟨_, _, _, w3, hrun, b', _, c', rfl, RF.of_own ho' hx' (fun k hk => hbad k (by omega)), ?_⟩
    exact hch.trans (((Chg.refl _ w11).drew.trans (hc14.trans hcab)).trans' hc8 (fun k hk => .inr (by have := (ho.bk_lt hk).1; omega)))
  · refine alo_r fun hr1 => ?_
    have hca : Chg Nobody w11 (w11.drew.alloc (.cells #[.int .i64 x] T_int)) := (Chg.refl _ _).drew.alloc _
    have hsA : (w11.drew.alloc (.cells #[.int .i64 x] T_int)).heap.size = w11.heap.size + 1 := by show (w11.heap.push _).size = _; simp
    rw [hdr] at hr1 ⊢
    generalize w11.drew.alloc (.cells #[.int .i64 x] T_int) = wA at *
    refine ⟨?_, ?_⟩
    · refine (c_tail (c := c) (Y := [[x], y :: rest]) (m := 2) (h11.nob hca) hne hl (fun k hk => hbad k (by omega)) (fun w' bad' h1 h2 => two wA w' w11.heap.size bad' hca hr1 (Nat.le_refl _) h1 (fun i hi => by
        by_cases hi' : i < wA.heap.size
        · exact .inl (h2 i hi' hi)
        · exact .inr ⟨by omega, by omega⟩)) rfl (by omega) (by omega)).mono ?_
      rintro e w25 ⟨ob, ol, oc, rfl, _, hk⟩
      refine ⟨_, _, _, rfl, alo_r fun hr2 => ?_⟩
      obtain ⟨rb, rl, rc, w3, hrun, hrf, hc8⟩ := hk _ _ _ ((Chg.refl _ _).alloc _) hr2
      exact ⟨_, _, _, w3, hrun, _, _, _, rfl, hrf, hch.trans (hca.trans hc8)⟩
    · refine alo_r fun hr2 => ?_
      have hcb : Chg Nobody wA (wA.alloc (.cells #[.slice (some ⟨w11.heap.size, 0, none⟩) 1 1, .slice (Option.map (fun a => Addr.add a (1 * 1)) fb) (A.length - 1) (fc - 1)] T_sl_int)) := (Chg.refl _ _).alloc _
      have hsB : (wA.alloc (.cells #[.slice (some ⟨w11.heap.size, 0, none⟩) 1 1, .slice (Option.map (fun a => Addr.add a (1 * 1)) fb) (A.length - 1) (fc - 1)] T_sl_int)).heap.size = wA.heap.size + 1 := by show (wA.heap.push _).size = _; simp
      generalize wA.alloc (.cells #[.slice (some ⟨w11.heap.size, 0, none⟩) 1 1, .slice (Option.map (fun a => Addr.add a (1 * 1)) fb) (A.length - 1) (fc - 1)] T_sl_int) = wB at *
      refine (c_tail (c := c) (Y := [[x], y :: rest]) (m := 2) ((h11.nob hca).nob hcb) hne hl (fun k hk => hbad k (by omega)) (fun w' bad' h1 h2 => two wA w' w11.heap.size bad' hca hr1 (Nat.le_refl _) (hcb.trans h1) (fun i hi => by
        by_cases hi' : i < wB.heap.size
        · exact .inl (h2 i hi' hi)
        · exact .inr ⟨by omega, by omega⟩)) rfl (by omega) (by omega)).mono ?_
      rintro e w35 ⟨ob, ol, oc, rfl, hc1, hk⟩
      refine ⟨_, _, _, rfl, ?_⟩
      obtain ⟨rb, rl, rc, w3, hrun, hrf, hc8⟩ := hk _ _ _ (Chg.refl _ _) (hc1.row (fun h => h) hr2)
      exact ⟨_, _, _, w3, hrun, _, _, _, rfl, hrf, hch.trans (hca.trans (hcb.trans hc8))⟩
theorem c_rApart05_alone (h : RF w bad b l X) (hn : X.flatten.Nodup) (hA : X[i]? = some [x]) (hl : l ≤ 10000000) (hAl : ∀ A ∈ X, A.length ≤ 10000000) :
    Calls Pg fn_plaitref05_Apart #[.slice b l c, .int .i64 x] w fun e w' => e = .returned (.tuple #[.slice b l c, .int .i64 20]) ∧ Chg Nobody w w' := by
  refine (calls_plaitref05_Apart _ _ _ _ _ (fun v' w' => v' = .tuple #[.slice b l c, .int .i64 20] ∧ Chg Nobody w w') ?_).mono (by rintro e w' ⟨v, rfl, rfl, k⟩; exact ⟨rfl, k⟩)
  unfold sh_plaitref05_Apart
  refine (c_rFind (k := 0) h hn hA rfl (by omega) (fun B hB => by have := hAl B hB; omega)).mono ?_
  rintro e w5 ⟨rfl, hc⟩
  refine ⟨_, _, rfl, (h.nob hc).rd hA fun eb ec hia hok hle => bif_i (fun _ => ⟨rfl, hc⟩) (fun h => by simp at h)⟩
end
end Seq
end Go.Proofs.YtaoemljoiahapaaGreatDoor
