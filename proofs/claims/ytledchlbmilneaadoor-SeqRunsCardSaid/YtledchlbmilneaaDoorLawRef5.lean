/-
The reference of layer 4: two lists joined, one cut.
Conditions: those that each theorem states.
-/
import Derived.Test.YtledchlbmilneaaDoorLawRef4
namespace Go.Proofs.YtledchlbmilneaaDoor
open Go Go.RowKit
set_option linter.unusedVariables false
set_option linter.unusedSimpArgs false
namespace Seq
theorem c_rJoin_no {w : World} {bad : Nat → Prop} {b : Option Addr} {l c i ka kb x y : Nat} {X : List (List Nat)} {A : List Nat} (h : RF w bad b l X) (hn : X.flatten.Nodup) (hA : X[i]? = some A) (hx : A[ka]? = some x) (hy : A[kb]? = some y) (hl : l ≤ 100000000) (hAl : ∀ A ∈ X, A.length ≤ 100000000) :
    Calls Pg fn_plaitref04_Join #[.slice b l c, .int .i64 x, .int .i64 y] w fun e w' => e = .returned (.tuple #[.slice b l c, .bool false]) ∧ Chg Nobody w w' := by
  refine (calls_plaitref04_Join _ _ _ _ _ _ (fun v' w' => v' = .tuple #[.slice b l c, .bool false] ∧ Chg Nobody w w') ?_).mono (by rintro e w' ⟨v, rfl, rfl, k⟩; exact ⟨rfl, k⟩)
  unfold sh_plaitref04_Join
  refine (c_rFind h hn hA hx (by omega) (fun B hB => by have := hAl B hB; omega)).mono ?_
  rintro e w5 ⟨rfl, hc⟩
  refine ⟨_, _, rfl, ?_⟩
  refine (c_rFind (h.nob hc) hn hA hy (by omega) (fun B hB => by have := hAl B hB; omega)).mono ?_
  rintro e w9 ⟨rfl, hc2⟩
  refine ⟨_, _, rfl, bif_i (fun _ => ⟨rfl, hc.trans hc2⟩) (fun h => ?_)⟩
  simp at h
theorem c_rJoin {w : World} {bad : Nat → Prop} {b : Option Addr} {l c i j ka kb x y : Nat} {X : List (List Nat)} {A B : List Nat} (h : RF w bad b l X) (hn : X.flatten.Nodup) (hne : ∀ A ∈ X, A ≠ []) (hA : X[i]? = some A) (hx : A[ka]? = some x) (hB : X[j]? = some B) (hy : B[kb]? = some y) (hij : i ≠ j) (hl : l ≤ 100000000) (hAl : ∀ A ∈ X, A.length ≤ 100000000) (hbad : ∀ k, w.heap.size ≤ k → ¬ bad k) :
    Calls Pg fn_plaitref04_Join #[.slice b l c, .int .i64 x, .int .i64 y] w fun e w' => ∃ rb rl rc, e = .returned (.tuple #[.slice rb rl rc, .bool true]) ∧ RF w' bad rb rl (wo X i j l ++ [A ++ B]) ∧ Chg Nobody w w' := by
  refine (calls_plaitref04_Join _ _ _ _ _ _ (fun v' w' => ∃ rb rl rc, v' = .tuple #[.slice rb rl rc, .bool true] ∧ RF w' bad rb rl (wo X i j l ++ [A ++ B]) ∧ Chg Nobody w w') ?_).mono (by rintro e w' ⟨v, rfl, a, b, c, rfl, k⟩; exact ⟨a, b, c, rfl, k⟩)
  unfold sh_plaitref04_Join
  refine (c_rFind h hn hA hx (by omega) (fun B hB => by have := hAl B hB; omega)).mono ?_
  rintro e w5 ⟨rfl, hc⟩
  refine ⟨_, _, rfl, ?_⟩
  refine (c_rFind (h.nob hc) hn hB hy (by omega) (fun B hB => by have := hAl B hB; omega)).mono ?_
  rintro e w9 ⟨rfl, hc2⟩
  have hch := (hc.trans hc2).drew
  refine ⟨_, _, rfl, bif_i (fun h => ?_) (fun _ => ?_)⟩
  · simp only [bne_iff_ne, ne_eq, bne_eq_false_iff_eq, Bool.not_eq_true, beq_iff_eq, beq_eq_false_iff_ne, decide_eq_true_eq, decide_eq_false_iff_not, Bool.not_eq_true', Bool.not_eq_false'] at h; omega
  have h9 := h.nob hch
  generalize w9.drew = w10 at *
  have hlA := hAl A (List.mem_of_getElem? hA)
  have hlB := hAl B (List.mem_of_getElem? hB)
  have hA0 : 0 < A.length := List.length_pos_iff.2 (hne A (List.mem_of_getElem? hA))
  have hB0 : 0 < B.length := List.length_pos_iff.2 (hne B (List.mem_of_getElem? hB))
  obtain ⟨g, o, e1, cs, ea, ca, hb1, hr, hil, hcA, hiA, _, _⟩ := h9.get hA
  obtain ⟨g', o', e2, cs', eb, cb, hb2, hr', hjl, hcB, hiB, _, _⟩ := h9.get hB
  have h9' := h9
  have hc' : c = c := rfl
  rw [hb1] at hb2
  injection hb2 with hb2; injection hb2 with hg ho; subst hg ho
  obtain ⟨rfl, rfl⟩ := hr.inj hr'
  subst hb1
  refine ixS_i hil (ldS_r hr (by rw [Nat.mul_one]; exact hcA) ?_)
  refine ixS_i hjl (ldS_r hr (by rw [Nat.mul_one]; exact hcB) ?_)
  have hsz := hch.size
  refine (c_without h9 hne hl (fun k hk => hbad k (Nat.le_trans hsz hk))).mono ?_
  rintro e w16 ⟨ob2, ol2, oc2, xs, rfl, ho2, hx2, hc3⟩
  refine ⟨_, _, _, rfl, ?_⟩
  have hr16 := hc3.row (fun h => h) hr
  refine ⟨by rw [hr16.cell, Nat.mul_one]; exact hcB, by rw [hr16.cell, Nat.mul_one]; exact hcA, ?_⟩
  obtain ⟨b1, c1, w19, hr1, ho1, hc4, hw1⟩ := own_appendN (sc := ca) (ty := T_sl_int) (base := w16.heap.size) ET_int Own.nil (hiA.nob hc3) hA0 (Nat.le_refl _) (by omega) (by omega)
  have hc4' : Chg Nobody w16 w19 := hc4.mono (fun k _ h => by simp [bk] at h)
  refine ⟨_, _, _, w19, hr1, ?_⟩
  refine ⟨by rw [(hc4'.row (fun h => h) hr16).cell, Nat.mul_one]; exact hcB, ?_⟩
  obtain ⟨b3, c3, w21, hr3, ho3, hc5, hw3⟩ := own_appendN (sc := cb) (ty := T_sl_int) ET_int ho1 ((hiB.nob hc3).nob hc4') hB0 hc4'.size (by omega) (by omega)
  refine ⟨_, _, _, w21, hr3, ?_⟩
  have hcc : Chg Nobody w16 w21 := hc4'.trans' hc5 (fun i hi => .inr (ho1.bk_lt hi).1)
  refine alo_r fun hr2 => ?_
  have hc6 : Chg Nobody w21 (w21.alloc (.cells #[.slice b3 (0 + A.length + B.length) c3] T_sl_int)) := (Chg.refl _ _).alloc _
  have hcap := ho3.cap
  have hbl : ∀ k, bk b3 = some k → w16.heap.size ≤ k := fun k hk => (ho3.bk_lt hk).1
  have h10 := hc3.size
  have hia : IA w21 b3 (A ++ B).length (ints (A ++ B)) := by
    have : (A ++ B).length = 0 + A.length + B.length := by simp
    rw [this]
    exact IA.of_own ho3 (by simp [ints])
  have hel : El (w21.alloc (.cells #[.slice b3 (0 + A.length + B.length) c3] T_sl_int)) (Bad bad ob2) (.slice b3 (0 + A.length + B.length) c3) (A ++ B) := by
    have e0 : (A ++ B).length = 0 + A.length + B.length := by simp
    refine ⟨_, c3, by rw [e0], hia.nob hc6, fun k hk hb => ?_, by rw [e0]; exact hcap.1, by rw [e0]; omega⟩
    have h1 := hbl k hk
    rcases hb with hb | hb
    · exact hbad k (by omega) hb
    · have := (ho2.bk_lt hb).2; omega
  have hxl := hx2.1
  have hol := ho2.len
  have hwl := wo_sub (X := X) (a := i) (b := j) (n := l)
  have hc7 := hcc.trans hc6
  obtain ⟨b', c', w25, hrun, ho', hx', hc8, _⟩ := ox_append (ho2.keep hc7 (fun _ _ h => h)) (hx2.chg (bad' := Bad bad ob2) hc7 (fun _ _ h => h.elim) (fun _ _ h => h)) hel hr2 (Nat.le_trans h10 hc7.size) (by omega) T_sl_sl_int
  refine ⟨_, _, _, w25, hrun, b', _, c', rfl, RF.of_own ho' hx' (fun k hk => hbad k (Nat.le_trans hsz hk)), ?_⟩
  exact hch.trans ((hc3.trans hc7).trans' hc8 (fun k hk => .inr (ho2.bk_lt hk).1))
theorem IA.pre {w : World} {b : Option Addr} {l k : Nat} {A : List Int} (h : IA w b l A) (hk : k ≤ l) : IA w b k (A.take k) := by
  obtain ⟨h1, h2⟩ := h
  refine ⟨by simp; omega, ?_⟩
  rcases h2 with h2 | ⟨g, o, e, cs, rfl, hr, hc⟩
  · exact .inl (by omega)
  · refine .inr ⟨g, o, e, cs, rfl, hr, fun i hi => ?_⟩
    rw [hc i (by omega), List.getElem?_take, if_pos hi]
theorem IA.post {w : World} {b : Option Addr} {l k : Nat} {A : List Int} (h : IA w b l A) (hk : k ≤ l) : IA w (b.map fun a => a.add (k * 1)) (l - k) (A.drop k) := by
  obtain ⟨h1, h2⟩ := h
  refine ⟨by simp; omega, ?_⟩
  rcases h2 with h2 | ⟨g, o, e, cs, rfl, hr, hc⟩
  · exact .inl (by omega)
  · refine .inr ⟨g, o + k, e, cs, by simp [add_mk], hr, fun i hi => ?_⟩
    rw [Nat.add_assoc, hc (k + i) (by omega), List.getElem?_drop]
theorem c_rCut_no {w : World} {bad : Nat → Prop} {b : Option Addr} {l c i x : Nat} {X : List (List Nat)} {A : List Nat} (h : RF w bad b l X) (hn : X.flatten.Nodup) (hA : X[i]? = some A) (hx : A[0]? = some x) (hl : l ≤ 100000000) (hAl : ∀ A ∈ X, A.length ≤ 100000000) :
    Calls Pg fn_plaitref04_Cut #[.slice b l c, .int .i64 x] w fun e w' => e = .returned (.tuple #[.slice b l c, .bool false]) ∧ Chg Nobody w w' := by
  refine (calls_plaitref04_Cut _ _ _ _ _ (fun v' w' => v' = .tuple #[.slice b l c, .bool false] ∧ Chg Nobody w w') ?_).mono (by rintro e w' ⟨v, rfl, rfl, k⟩; exact ⟨rfl, k⟩)
  unfold sh_plaitref04_Cut
  refine (c_rFind h hn hA hx (by omega) (fun B hB => by have := hAl B hB; omega)).mono ?_
  rintro e w4 ⟨rfl, hc⟩
  exact ⟨_, _, rfl, bif_i (fun _ => ⟨rfl, hc⟩) (fun h => by simp at h)⟩
theorem c_rCut {w : World} {bad : Nat → Prop} {b : Option Addr} {l c i k x : Nat} {X : List (List Nat)} {A : List Nat} (h : RF w bad b l X) (hn : X.flatten.Nodup) (hne : ∀ A ∈ X, A ≠ []) (hA : X[i]? = some A) (hx : A[k]? = some x) (hk : 0 < k) (hl : l ≤ 100000000) (hAl : ∀ A ∈ X, A.length ≤ 100000000) (hbad : ∀ k, w.heap.size ≤ k → ¬ bad k) :
    Calls Pg fn_plaitref04_Cut #[.slice b l c, .int .i64 x] w fun e w' => ∃ rb rl rc, e = .returned (.tuple #[.slice rb rl rc, .bool true]) ∧ RF w' bad rb rl (wo X i i l ++ [A.take k, A.drop k]) ∧ Chg Nobody w w' := by
  refine (calls_plaitref04_Cut _ _ _ _ _ (fun v' w' => ∃ rb rl rc, v' = .tuple #[.slice rb rl rc, .bool true] ∧ RF w' bad rb rl (wo X i i l ++ [A.take k, A.drop k]) ∧ Chg Nobody w w') ?_).mono (by rintro e w' ⟨v, rfl, a, b, c, rfl, k⟩; exact ⟨a, b, c, rfl, k⟩)
  unfold sh_plaitref04_Cut
  refine (c_rFind h hn hA hx (by omega) (fun B hB => by have := hAl B hB; omega)).mono ?_
  rintro e w4 ⟨rfl, hc⟩
  have hch := hc.drew
  refine ⟨_, _, rfl, bif_i (fun h => ?_) (fun _ => ?_)⟩
  · simp only [bne_iff_ne, ne_eq, bne_eq_false_iff_eq, Bool.not_eq_true, beq_iff_eq, beq_eq_false_iff_ne, decide_eq_true_eq, decide_eq_false_iff_not, Bool.not_eq_true', Bool.not_eq_false'] at h; omega
  have h9 := h.nob hch
  generalize w4.drew = w10 at *
  have hlA := hAl A (List.mem_of_getElem? hA)
  have hkA : k < A.length := (List.getElem?_eq_some_iff.1 hx).1
  obtain ⟨g, o, e1, cs, ea, ca, rfl, hr, hil, hcA, hiA, hok, hle⟩ := h9.get hA
  have hkk : Int.toNat (k : Int) = k := by omega
  refine ixS_i hil (ldS_r hr (by rw [Nat.mul_one]; exact hcA) ?_)
  refine ⟨by omega, by omega, by omega, by omega, ?_⟩
  refine ixS_i hil (ldS_r hr (by rw [Nat.mul_one]; exact hcA) ?_)
  refine ⟨by omega, by omega, ?_⟩
  rw [hkk, if_neg (show ¬ k = 0 by omega), if_neg (show ¬ ca = k by omega)]
  have e0 : Option.map (fun a => Addr.add a (0 * 1)) ea = ea := by cases ea with
    | none => rfl
    | some a => rfl
  rw [e0, Nat.sub_zero]
  have hsz := hch.size
  have hTl : (A.take k).length = k := by rw [List.length_take]; omega
  have hDl : (A.drop k).length = A.length - k := by simp
  -- the two halves as lists
  have halves : ∀ (w' : World) (bad' : Nat → Prop), Chg Nobody w10 w' → (∀ i, i < w10.heap.size → bad' i → bad i) → OX w' bad' [.slice ea k k, .slice (Option.map (fun a => Addr.add a (k * 1)) ea) (A.length - k) (ca - k)] [A.take k, A.drop k] := by
    intro w' bad' hcw hb
    obtain ⟨g', hg', hlt⟩ := hiA.blk (by omega)
    have h1 : El w' bad' (.slice ea k k) (A.take k) := by
      refine ⟨ea, k, by rw [hTl], ?_, fun k' hk' hb' => ?_, by rw [hTl]; exact Nat.le_refl _, by rw [hTl]; exact hk⟩
      · rw [hTl]
        have := (hiA.nob hcw).pre (k := k) (by omega)
        rw [← List.map_take] at this
        exact this
      · rw [hg'] at hk'; cases hk'
        exact hok g' hg' (hb g' hlt hb')
    have h2 : El w' bad' (.slice (Option.map (fun a => Addr.add a (k * 1)) ea) (A.length - k) (ca - k)) (A.drop k) := by
      refine ⟨_, ca - k, by rw [hDl], ?_, fun k' hk' hb' => ?_, by rw [hDl]; omega, by rw [hDl]; omega⟩
      · rw [hDl]
        have := (hiA.nob hcw).post (k := k) (by omega)
        rw [← List.map_drop] at this
        exact this
      · have : bk (Option.map (fun a => Addr.add a (k * 1)) ea) = bk ea := by
          cases ea with
          | none => rfl
          | some a => simp [bk, add_block]
        rw [this, hg'] at hk'; cases hk'
        exact hok g' hg' (hb g' hlt hb')
    exact OX.app (OX.one h1) (OX.one h2)
  have hwl := wo_sub (X := X) (a := i) (b := i) (n := l)
  refine ⟨?_, ?_⟩
  · refine (c_without h9 hne hl (fun k hk => hbad k (Nat.le_trans hsz hk))).mono ?_
    rintro e w11 ⟨ob2, ol2, oc2, xs, rfl, ho2, hx2, hc3⟩
    refine ⟨_, _, _, rfl, ?_⟩
    have hr11 := hc3.row (fun h => h) hr
    refine ⟨by rw [hr11.cell, Nat.mul_one]; exact hcA, by rw [hr11.cell, Nat.mul_one]; exact hcA, ?_⟩
    refine alo_r fun hr2 => ?_
    have hc4 : Chg Nobody w11 (w11.alloc (.cells #[.slice ea k k, .slice (Option.map (fun a => Addr.add a (k * 1)) ea) (A.length - k) (ca - k)] T_sl_int)) := (Chg.refl _ _).alloc _
    have hxl := hx2.1
    have hol := ho2.len
    obtain ⟨b', c', w16, hrun, ho', hx', hc8, _⟩ := ox_appendL (m := 2) (cc := 2) (ho2.keep hc4 (fun _ _ h => h)) (hx2.chg (bad' := Bad bad ob2) hc4 (fun _ _ h => h.elim) (fun _ _ h => h))
      (halves _ (Bad bad ob2) (hc3.trans hc4) (fun i hi hb => hb.resolve_right (fun hb => by have := (ho2.bk_lt hb).1; omega))) rfl (by omega) hr2 (hc3.trans hc4).size (by omega) T_sl_sl_int
    refine ⟨_, _, _, w16, hrun, b', _, c', rfl, RF.of_own ho' hx' (fun k hk => hbad k (Nat.le_trans hsz hk)), ?_⟩
    exact hch.trans ((hc3.trans hc4).trans' hc8 (fun k hk => .inr (ho2.bk_lt hk).1))
  · refine alo_r fun hr2 => ?_
    have hc4 : Chg Nobody w10 (w10.alloc (.cells #[.slice ea k k, .slice (Option.map (fun a => Addr.add a (k * 1)) ea) (A.length - k) (ca - k)] T_sl_int)) := (Chg.refl _ _).alloc _
    generalize w10.alloc (.cells #[.slice ea k k, .slice (Option.map (fun a => Addr.add a (k * 1)) ea) (A.length - k) (ca - k)] T_sl_int) = w18 at *
    have hsz4 := hc4.size
    refine (c_without (h9.nob hc4) hne hl (fun k hk => hbad k (by omega))).mono ?_
    rintro e w20 ⟨ob2, ol2, oc2, xs, rfl, ho2, hx2, hc3⟩
    refine ⟨_, _, _, rfl, ?_⟩
    have hxl := hx2.1
    have hol := ho2.len
    obtain ⟨b', c', w16, hrun, ho', hx', hc8, _⟩ := ox_appendL (m := 2) (cc := 2) ho2 hx2
      (halves _ (Bad bad ob2) (hc4.trans hc3) (fun i hi hb => hb.resolve_right (fun hb => by have := (ho2.bk_lt hb).1; omega))) rfl (by omega) (hc3.row (fun h => h) hr2) hc3.size (by omega) T_sl_sl_int
    refine ⟨_, _, _, w16, hrun, b', _, c', rfl, RF.of_own ho' hx' (fun k hk => hbad k (by omega)), ?_⟩
    exact hch.trans (hc4.trans (hc3.trans' hc8 (fun k hk => .inr (ho2.bk_lt hk).1)))
end Seq
end Go.Proofs.YtledchlbmilneaaDoor
