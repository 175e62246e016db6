/-
The reference of layer 4: a list turned round, two joined, one cut.
Conditions: those that each theorem states.
-/
import Derived.Test.YtledchlbmilneaaDoorLawRef3
namespace Go.Proofs.YtledchlbmilneaaDoor
open Go Go.RowKit
set_option linter.unusedVariables false
set_option linter.unusedSimpArgs false
namespace Seq
section
variable {w w' : World} {bad bad' : Nat → Prop} {b b' : Option Addr} {l c base : Nat} {X Y : List (List Nat)} {A : List Nat} {xs vs : List Value} {v : Value}
theorem OX.app (h : OX w bad xs X) : ∀ {Y : List (List Nat)} {vs : List Value}, OX w bad vs Y → OX w bad (xs ++ vs) (X ++ Y) := by
  intro Y vs k
  refine ⟨by simp [h.1, k.1], fun i B hB => ?_⟩
  by_cases hi : i < X.length
  · rw [List.getElem?_append_left hi] at hB
    obtain ⟨u, h1, h2⟩ := h.2 i B hB
    exact ⟨u, by rw [List.getElem?_append_left (by rw [h.1]; exact hi)]; exact h1, h2⟩
  · rw [List.getElem?_append_right (by omega)] at hB
    obtain ⟨u, h1, h2⟩ := k.2 _ B hB
    exact ⟨u, by rw [List.getElem?_append_right (by rw [h.1]; omega), h.1]; exact h1, h2⟩
theorem OX.one (k : El w bad v A) : OX w bad [v] [A] := OX.snoc (xs := []) OX.nil k
/-- Some more lists. -/
theorem ox_appendL (ho : Own w base T_sl_int 1 b l c xs) (hx : OX w (Bad bad b) xs X) (hv : OX w (Bad bad b) vs Y) {a m cc : Nat} {e' : TypeId} (hm : vs.length = m) (h0 : 0 < m) (r : Row w.heap a e' vs) (hb : base ≤ w.heap.size) (hl : l + m ≤ 1000000000) (ty : TypeId) :
    ∃ b' c' w', (Builtin.append_ #[T_sl_sl_int, T_sl_sl_int] ty #[.slice b l c, .slice (some ⟨a, 0, none⟩) m cc]).run Pg w = .ok (.slice b' (l + m) c') w' ∧ Own w' base T_sl_int 1 b' (l + m) c' (xs ++ vs) ∧ OX w' (Bad bad b') (xs ++ vs) (X ++ Y) ∧
      Chg (fun k => bk b = some k) w w' ∧ (bk b' = bk b ∨ bk b' = some w.heap.size) := by
  have T := ET_list
  obtain ⟨i, z, hi, hz, hsz, hby, hzs⟩ := T.info
  obtain ⟨v', w', hr', ho', hg, _, hw⟩ := run_append_own_at w base T_sl_sl_int ty T_sl_int i z 1 24 T.und hi hz hsz hby hzs T.pos (.slice b l c) l xs ho ⟨a, 0, none⟩ m cc vs (by simp [hm])
    (fun j u hu => by rw [add_mk, r.cell, Nat.zero_add]; exact hu) (fun u hu => by
      obtain ⟨j, hj⟩ := List.getElem?_of_mem hu
      have hjY : j < Y.length := by rw [← hv.1]; exact (List.getElem?_eq_some_iff.1 hj).1
      obtain ⟨u', h1, eb, ec, h2, _⟩ := hv.2 j _ (List.getElem?_eq_getElem hjY)
      have h3 : u = u' := Option.some.inj (hj.symm.trans h1)
      rw [h3, h2]; rfl) (by unfold maxLen; omega) (by omega) hb
  have hvv : ∃ b' c', v' = .slice b' (l + m) c' := by
    rcases ho'.2 with ⟨hv, hn⟩ | ⟨g, cap, cur, hv, _⟩
    · omega
    · exact ⟨_, _, hv⟩
  obtain ⟨b', c', rfl⟩ := hvv
  rw [ownBlock_bk, ownBlock_bk] at hw
  have hc : Chg (fun k => bk b = some k) w w' := ⟨hg.os, hg.tape, hg.output, hg.size, fun k hk hS => hg.block k hk (by rw [ownBlock_bk]; exact fun e => hS e.symm)⟩
  refine ⟨b', c', w', hr', ho', (hx.app hv).chg hc (fun i _ h => .inr h) (fun i hi h => ?_), hc, hw⟩
  rcases h with h | h
  · exact .inl h
  · rcases hw with e | e
    · exact .inr (by rw [← e]; exact h)
    · rw [e] at h; cases h; omega
end
theorem c_rReverse {w : World} {bad : Nat → Prop} {b : Option Addr} {l c i k x : Nat} {X : List (List Nat)} {A : List Nat} (h : RF w bad b l X) (hn : X.flatten.Nodup) (hne : ∀ A ∈ X, A ≠ []) (hA : X[i]? = some A) (hx : A[k]? = some x) (hl : l ≤ 100000000) (hAl : ∀ A ∈ X, A.length ≤ 100000000) (hbad : ∀ k, w.heap.size ≤ k → ¬ bad k) :
    Calls Pg fn_plaitref04_Reverse #[.slice b l c, .int .i64 x] w fun e w' => ∃ rb rl rc, e = .returned (.slice rb rl rc) ∧ RF w' bad rb rl (wo X i i l ++ [A.reverse]) ∧ Chg Nobody w w' := by
  refine (calls_plaitref04_Reverse _ _ _ _ _ (fun v' w' => ∃ rb rl rc, v' = .slice rb rl rc ∧ RF w' bad rb rl (wo X i i l ++ [A.reverse]) ∧ Chg Nobody w w') ?_).mono (by rintro e w' ⟨v, rfl, a, b, c, rfl, k⟩; exact ⟨a, b, c, rfl, k⟩)
  unfold sh_plaitref04_Reverse
  refine (c_rFind h hn hA hx (by omega) (fun B hB => by have := hAl B hB; omega)).mono ?_
  rintro e w4 ⟨rfl, hch⟩
  refine ⟨_, _, rfl, ?_⟩
  have h4 := h.nob hch
  have hAm := List.mem_of_getElem? hA
  have hlA := hAl A hAm
  have hA0 : 0 < A.length := List.length_pos_iff.2 (hne A hAm)
  refine h4.rd hA fun eb ec hia hok hle => ?_
  let J : Nat → List Value → World → Prop := fun j vs w' => ∃ (t : Nat) (ob : Option Addr) (oc : Nat), vs = [.slice ob t oc, .int .i64 ((A.length : Int) - 1 - t)] ∧ t ≤ A.length ∧ Chg Nobody w w' ∧ Own w' w.heap.size T_int 1 ob t oc (ivs (A.reverse.take t)) ∧ j = A.length - t
  refine ⟨LI J, LM J, ⟨_, 0, none, 0, by rw [wrap64_in (by omega) (by omega)]; simp, by omega, hch, Own.nil, rfl⟩, ?_⟩
  clear hch h4 hia
  intro _ s10b s10l s10c n11 w12 hJ
  obtain ⟨t, ob, oc, hvs, ht, hch, ho, hj⟩ := hJ.at
  simp only [List.cons.injEq, Value.slice.injEq, Value.int.injEq, and_true, true_and] at hvs
  obtain ⟨⟨rfl, rfl, rfl⟩, rfl⟩ := hvs
  have h12 := h.nob hch
  have hsz := hch.size
  refine bif_i (fun hc => ?_) (fun hc => ?_) <;> simp only [bne_iff_ne, ne_eq, bne_eq_false_iff_eq, Bool.not_eq_true, beq_iff_eq, beq_eq_false_iff_ne, decide_eq_true_eq, decide_eq_false_iff_not, Bool.not_eq_true', Bool.not_eq_false'] at hc
  · have htA : s10l < A.length := by omega
    refine h12.rd hA fun eb ec hia hok hle => ?_
    obtain ⟨u, hu⟩ : ∃ u, A[A.length - 1 - s10l]? = some u := ⟨_, List.getElem?_eq_getElem (by omega)⟩
    have e1 : (A.length : Int) - 1 - s10l = ((A.length - 1 - s10l : Nat) : Int) := by omega
    rw [e1] at hj ⊢
    refine hia.rd (x := (u : Int)) (by rw [List.getElem?_map, hu]; rfl) ?_
    refine alo_r fun hr2 => ?_
    have hc2 : Chg Nobody w12 (w12.alloc (.cells #[.int .i64 u] T_int)) := (Chg.refl _ _).alloc _
    obtain ⟨b', c', w20, hrun, ho', hc3, _⟩ := own_append2 (ty := T_sl_int) ET_int (ho.keep hc2 (fun _ _ h => h)) hr2 rfl (by simp [oneC]) (Nat.le_trans hsz hc2.size) (by omega) (by omega)
    refine ⟨_, _, _, w20, hrun, ?_⟩
    rw [wrap64_in (by omega) (by omega)]
    refine LI.again (k := A.length - (s10l + 1)) ⟨s10l + 1, b', c', ?_, by omega, (hch.trans hc2).trans' hc3 (fun k hk => .inr (ho.bk_lt hk).1), ?_, rfl⟩ (by rw [hj]; omega)
    · have e2 : ((A.length - 1 - s10l : Nat) : Int) - 1 = (A.length : Int) - 1 - ((s10l + 1 : Nat) : Int) := by omega
      rw [e2]
    · rw [List.take_add_one, List.getElem?_reverse htA, hu]
      simpa [ivs] using ho'
  · have htA : s10l = A.length := by omega
    subst htA
    rw [List.take_of_length_le (by simp)] at ho
    refine (c_without h12 hne hl (fun k hk => hbad k (Nat.le_trans hsz hk))).mono ?_
    rintro e w22 ⟨ob2, ol2, oc2, xs, rfl, ho2, hx2, hc2⟩
    refine ⟨_, _, _, rfl, ?_⟩
    refine alo_r fun hr2 => ?_
    have hc3 : Chg Nobody w12 (w22.alloc (.cells #[.slice s10b A.length s10c] T_sl_int)) := hc2.alloc _
    have hc4 : Chg Nobody w22 (w22.alloc (.cells #[.slice s10b A.length s10c] T_sl_int)) := (Chg.refl _ _).alloc _
    have hia : IA w12 s10b A.reverse.length (ints A.reverse) := by
      rw [List.length_reverse]; exact IA.of_own ho (by simp [ivs])
    have hcap := ho.cap
    have hob : ∀ k, bk s10b = some k → w.heap.size ≤ k ∧ k < w12.heap.size := fun k hk => ho.bk_lt hk
    have hel : El (w22.alloc (.cells #[.slice s10b A.length s10c] T_sl_int)) (Bad bad ob2) (.slice s10b A.length s10c) A.reverse := by
      refine ⟨_, s10c, by rw [List.length_reverse], hia.nob hc3, fun k hk hb => ?_, by rw [List.length_reverse]; exact hcap.1, by rw [List.length_reverse]; exact hA0⟩
      have h1 := hob k hk
      rcases hb with hb | hb
      · exact hbad k h1.1 hb
      · have := (ho2.bk_lt hb).1; omega
    have hxl := hx2.1
    have hol := ho2.len
    have hwl := wo_sub (X := X) (a := i) (b := i) (n := l)
    obtain ⟨b', c', w27, hrun, ho', hx', hc5, _⟩ := ox_append (ho2.keep hc4 (fun _ _ h => h)) (hx2.chg (bad' := Bad bad ob2) hc4 (fun _ _ h => h.elim) (fun _ _ h => h)) hel hr2 hc3.size (by omega) T_sl_sl_int
    refine ⟨_, _, _, w27, hrun, b', _, c', rfl, RF.of_own ho' hx' (fun k hk => hbad k (Nat.le_trans hsz hk)), ?_⟩
    exact hch.trans (hc3.trans' hc5 (fun k hk => .inr (ho2.bk_lt hk).1))
end Seq
end Go.Proofs.YtledchlbmilneaaDoor
