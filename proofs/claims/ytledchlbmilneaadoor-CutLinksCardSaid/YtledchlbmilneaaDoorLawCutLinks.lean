/-
The law CutLinks: two nodes are linked just where their road has two; the roads between three nodes meet.
Conditions: the package variable of errors is laid out; the acts can be read.
-/
import Derived.Test.YtledchlbmilneaaDoorLawCutCuts
namespace Go.Proofs.YtledchlbmilneaaDoor
open Go Go.RowKit
set_option linter.unusedVariables false
set_option linter.unusedSimpArgs false
namespace Cut
open Go.Proofs.YtledchlbmilneaaDoor.Seq
section
variable {E E' : Nat → Nat → Prop} {a b c u i k n F L : Nat} {l m1 m2 : List Nat} {v : Nat → Int}
/-- How far two lists go together. -/
theorem together : ∀ (m1 m2 : List Nat), ∃ k, m1.take k = m2.take k ∧ k ≤ m1.length ∧ k ≤ m2.length ∧ (k < m1.length → k < m2.length → m1[k]? ≠ m2[k]?) := by
  intro m1
  induction m1 with
  | nil => intro m2; exact ⟨0, rfl, by simp, by simp, fun h => by simp at h⟩
  | cons x m1 ih =>
    intro m2
    cases m2 with
    | nil => exact ⟨0, rfl, by simp, by simp, fun _ h => by simp at h⟩
    | cons y m2 =>
      by_cases h : x = y
      · subst h
        obtain ⟨k, h1, h2, h3, h4⟩ := ih m2
        exact ⟨k + 1, by simp [h1], by simp; omega, by simp; omega, fun h5 h6 => by simpa using h4 (by simpa using h5) (by simpa using h6)⟩
      · exact ⟨0, rfl, by simp, by simp, fun _ _ => by simp [h]⟩
/-- From two roads that begin at one node, the road between their ends. -/
theorem way_join {h : Array Obj} (ka : AE h F L n v E) (hb : b < n) (h1 : Way E b a m1) (h2 : Way E b c m2) : ∃ k l, 1 ≤ k ∧ k ≤ m1.length ∧ k ≤ m2.length ∧ Way E a c l ∧ l.length + 2 * k = m1.length + m2.length + 1 := by
  obtain ⟨k, hk, k1, k2, hmax⟩ := together m1 m2
  have l1 : 0 < m1.length := by have := h1.hd; cases m1 <;> simp at this ⊢
  have l2 : 0 < m2.length := by have := h2.hd; cases m2 <;> simp at this ⊢
  have g1 : m1[0]? = some b := by have := h1.hd; rwa [List.head?_eq_getElem?] at this
  have g2 : m2[0]? = some b := by have := h2.hd; rwa [List.head?_eq_getElem?] at this
  have hk0 : 1 ≤ k := by
    rcases Nat.eq_zero_or_pos k with h | h
    · subst h; exact absurd (g1.trans g2.symm) (hmax l1 l2)
    · exact h
  obtain ⟨p, hp⟩ : ∃ p, m1[k - 1]? = some p := ⟨_, List.getElem?_eq_getElem (by omega)⟩
  have hp2 : m2[k - 1]? = some p := by
    have : (m1.take k)[k - 1]? = some p := by rw [List.getElem?_take, if_pos (by omega)]; exact hp
    rw [hk, List.getElem?_take, if_pos (by omega)] at this; exact this
  have w1 := way_drop h1 hp
  refine ⟨k, (m1.drop (k - 1)).reverse ++ m2.drop k, hk0, k1, k2, ⟨?_, ?_, ?_, ?_⟩, ?_⟩
  · rw [List.head?_append, List.head?_reverse, w1.la]; rfl
  · rcases Nat.lt_or_ge k m2.length with hlt | hge
    · obtain ⟨q, hq⟩ : ∃ q, m2[k]? = some q := ⟨_, List.getElem?_eq_getElem hlt⟩
      rw [List.getLast?_append, (way_drop h2 hq).la]; rfl
    · have hkl : k = m2.length := by omega
      have hpc : p = c := by
        have := h2.la
        rw [List.getLast?_eq_getElem?, ← hkl, hp2] at this
        exact Option.some.inj this
      rw [List.drop_eq_nil_of_le hge, List.append_nil, List.getLast?_reverse, w1.hd, hpc]
  · rw [List.nodup_append]
    refine ⟨(List.reverse_perm _).nodup_iff.2 w1.nd, h2.nd.sublist (List.drop_sublist _ _), ?_⟩
    intro x hx y hy e
    subst e
    rw [List.mem_reverse] at hx
    obtain ⟨i, hi⟩ := List.getElem?_of_mem hx
    obtain ⟨j, hj⟩ := List.getElem?_of_mem hy
    rw [List.getElem?_drop] at hi hj
    have t1 := way_take h1 hi
    have t2 := way_take h2 hj
    have heq := ka.uniq hb t1 t2
    have i1 := (List.getElem?_eq_some_iff.1 hi).1
    have j1 := (List.getElem?_eq_some_iff.1 hj).1
    have hlen := congrArg List.length heq
    rw [List.length_take, List.length_take] at hlen
    have hkk : (m1.take (k - 1 + i + 1))[k]? = (m2.take (k + j + 1))[k]? := by rw [heq]
    rw [List.getElem?_take, List.getElem?_take, if_pos (by omega), if_pos (by omega)] at hkk
    exact hmax (by omega) (by omega) hkk
  · rw [Lk.append]
    refine ⟨w1.lk.reverse ka.symm, ?_, ?_⟩
    · exact lk_of fun j x y g1 g2 => by
        rw [List.getElem?_drop] at g1 g2
        exact lk_at h2.lk g1 (by rw [← g2]; congr 1)
    · intro x y hx hy
      rw [List.getLast?_reverse, w1.hd] at hx
      cases hx
      rw [List.head?_eq_getElem?, List.getElem?_drop, Nat.add_zero] at hy
      exact lk_at (k := k - 1) h2.lk hp2 (by rw [show k - 1 + 1 = k by omega]; exact hy)
  · rw [List.length_append, List.length_reverse, List.length_drop, List.length_drop]; omega
theorem way_trans {h : Array Obj} (ka : AE h F L n v E) (hb : b < n) (h1 : ∃ l, Way E a b l) (h2 : ∃ l, Way E b c l) : ∃ l, Way E a c l := by
  obtain ⟨m1, h1⟩ := h1
  obtain ⟨m2, h2⟩ := h2
  obtain ⟨_, l, _, _, _, hl, _⟩ := way_join ka hb (h1.reverse ka.symm) h2
  exact ⟨l, hl⟩
theorem way_sym {h : Array Obj} (ka : AE h F L n v E) (h1 : ∃ l, Way E a b l) : ∃ l, Way E b a l := h1.imp' List.reverse fun _ h => h.reverse ka.symm
end
section
variable {w₀ w w' : World} {F L n a b : Nat} {v : Nat → Int} {E : Nat → Nat → Prop}
theorem op_LenZ (h : LC w₀ w F L n v E) (ha : a < n) (hb : b < n) :
    Calls Pg fn_cut_Forest_Len #[.pointer (some ⟨F, 0, none⟩), .int .i64 a, .int .i64 b] w fun e w' => ∃ (k : Nat) (c : Int), e = .returned (.tuple #[.int .i64 k, errV c]) ∧ ((c = 0 ∧ ∃ l, Way E a b l ∧ k = l.length) ∨ (c = 21 ∧ ¬ ∃ l, Way E a b l)) ∧ LC w₀ w' F L n v E := by
  by_cases hw : ∃ l, Way E a b l
  · obtain ⟨l, hw⟩ := hw
    refine (c_Len h.a ha hb hw).mono ?_
    rintro e w' ⟨rfl, hce⟩
    exact ⟨_, _, rfl, .inl ⟨rfl, l, hw, rfl⟩, h.step hce⟩
  · refine (c_Len_no h.a ha hb hw).mono ?_
    rintro e w' ⟨rfl, hce⟩
    exact ⟨0, _, rfl, .inr ⟨rfl, hw⟩, h.step hce⟩
end
theorem c_CutLinks {w : World} {n x y z : Int} {sb : Option Addr} {sl sc : Nat} {f : Nat → Nat → Int} (hg : LaidG w) (hf : CA w sb sl 4 f) (hfw : ∀ i, i < sl → -9223372036854775808 ≤ f i 3 ∧ f i 3 ≤ 9223372036854775807) :
    Calls Pg fn_plaitlaw06_CutLinks #[.int .i64 n, .slice sb sl sc, .agg #[.int .i64 x, .int .i64 y, .int .i64 z]] w fun e w' => e = .returned (.bool true) ∧ Chg Nobody w w' := by
  refine (calls_plaitlaw06_CutLinks _ _ _ _ _ _ _ _ (fun v' w' => v' = .bool true ∧ Chg Nobody w w') ?_).mono (by rintro e w' ⟨v, rfl, rfl, k⟩; exact ⟨rfl, k⟩)
  unfold sh_plaitlaw06_CutLinks
  refine alo_r fun hrow => ⟨by decide, ?_⟩
  have hch : Chg Nobody w (w.alloc (.cells #[.int .i64 x, .int .i64 y, .int .i64 z] T__3int)) := (Chg.refl _ _).alloc _
  have hf1 := hf.nob hch
  obtain ⟨m, hm0, hm1, he⟩ := size_ex n 1 30 (by omega) (by omega) (by omega)
  rw [he]
  have hg1 := hg.chg hch (fun h => h)
  generalize w.heap.size = C at *
  generalize w.alloc (.cells #[.int .i64 x, .int .i64 y, .int .i64 z] T__3int) = w5 at *
  refine (c_grown (m := m) (sc := sc) (by omega) (by omega) hf1 hfw).mono ?_
  rintro e w8 ⟨F, L, B, v, E, rfl, hs, _, _, _, _⟩
  replace hrow := hs.c.row (fun h => h) hrow
  refine ⟨_, _, _, _, rfl, bif_i (fun h => by cases h) (fun _ => ?_)⟩
  refine ixA_i (by omega) (ldI_r hrow rfl ?_)
  obtain ⟨hz1, a, ha, hae⟩ := idx_ex x (show 0 < m by omega) (by omega)
  refine ⟨hz1, ixA_i (by omega) (ldI_r hrow rfl ?_)⟩
  obtain ⟨hz2, b, hb, hbe⟩ := idx_ex y (show 0 < m by omega) (by omega)
  refine ⟨hz2, ixA_i (by omega) (ldI_r hrow rfl ?_)⟩
  obtain ⟨hz3, c, hc, hce⟩ := idx_ex z (show 0 < m by omega) (by omega)
  refine ⟨hz3, ?_⟩
  rw [hae, hbe, hce]
  clear hrow
  replace hs := hs.drew
  generalize w8.drew = w9 at *
  have fin : ∀ {w' : World}, Chg Nobody w5 w' → Calls Pg fn_plaitlaw06_sure #[] w' fun e w'' => e = .returned (.bool true) ∧ Chg Nobody w w'' := fun hc => n_sure06 hg (hch.trans hc)
  have hm := hs.a.small
  refine (op_LenZ hs ha hb).mono ?_
  rintro e w19 ⟨k1, c1, rfl, h1, hs⟩
  refine ⟨_, _, rfl, (c_Near hs.a ha hb).mono ?_⟩
  rintro e w23 ⟨t, rfl, ht, hce⟩
  have hirr := hs.a.irr ha
  have hway : ∀ l, Way E a b l → (E a b ↔ l.length = 2) := fun l hl => by
    constructor
    · intro hE
      have hne : a ≠ b := fun e => by subst e; exact hirr hE
      have : l = [a, b] := hs.a.uniq ha hl ⟨rfl, rfl, by simp [hne], fun y hy => by simp at hy; subst hy; exact hE, fun y hy => by simp at hy, trivial⟩
      rw [this]; rfl
    · intro h2
      match l, h2 with
      | [p, q], _ =>
        have e1 := hl.hd
        have e2 := hl.la
        simp at e1 e2
        subst e1; subst e2
        exact hl.lk.1 _ rfl
  have hno : E a b → ∃ l, Way E a b l := fun hE => by
    have hne : a ≠ b := fun e => by subst e; exact hirr hE
    exact ⟨[a, b], rfl, rfl, by simp [hne], fun y hy => by simp at hy; subst hy; exact hE, fun y hy => by simp at hy, trivial⟩
  replace hs := hs.step hce
  refine ⟨_, _, rfl, fun _ w' => w' = w23, ?_, ?_⟩
  · refine err_i (fun e => absurd rfl e) (fun _ => ⟨errV_isI _, ?_⟩)
    rw [errV_nil]
    rcases h1 with ⟨rfl, l, hl, rfl⟩ | ⟨rfl, h1⟩
    · refine bif_i (fun _ => bif_i (fun h => ?_) (fun _ => rfl)) (fun h => by simp at h)
      exfalso
      have e1 : t = ((l.length : Int) == (2 : Int)) := by
        have := ht.trans (hway l hl)
        by_cases h2 : l.length = 2
        · rw [this.2 h2]; symm; simp; omega
        · have hf : t = false := by cases t; rfl; exact absurd (this.1 rfl) h2
          rw [hf]; symm; simp; omega
      rw [e1] at h; simp at h
    · refine bif_i (fun h => by simp at h) (fun _ => bif_i (fun h => ?_) (fun _ => rfl))
      exfalso
      have hf : t = false := by cases t; rfl; exact absurd (hno (ht.1 rfl)) h1
      rw [hf] at h; simp at h
  rintro _ w26 rfl
  refine (op_LenZ hs hb hc).mono ?_
  rintro e w29 ⟨k2, c2, rfl, h2, hs⟩
  refine ⟨_, _, rfl, (op_LenZ hs hc ha).mono ?_⟩
  rintro e w33 ⟨k3, c3, rfl, h3, hs⟩
  have hnil : ∀ c : Int, nilI (errV c) = decide (c = 0) := errV_nil
  refine ⟨_, _, rfl, fun vs w' => vs = [.bool (!(decide (c1 = 0 ∧ c2 = 0 ∧ c3 = 0)))] ∧ w' = w33, ?_, ?_⟩
  · refine err_i (fun e => ⟨by simp [e], rfl⟩) (fun e1 => err_i (fun e => ⟨by simp [e], rfl⟩) (fun e2 => ⟨errV_isI _, by rw [hnil, e1, e2]; simp, rfl⟩))
  rintro _ b36 w37 ⟨hb36, rfl⟩
  simp only [List.cons.injEq, Value.bool.injEq, and_true] at hb36
  subst hb36
  refine bif_i (fun hbad => ?_) (fun hok => ?_)
  · have hnot : ¬ (c1 = 0 ∧ c2 = 0 ∧ c3 = 0) := fun hh => by rw [decide_eq_true hh] at hbad; cases hbad
    refine ⟨fun vs w' => vs = [.int .i64 (if c1 = 0 then 0 else 1)] ∧ w' = w37, err_i (fun e => ⟨by rw [if_neg e], rfl⟩) (fun e => ⟨by rw [if_pos e], rfl⟩), ?_⟩
    rintro _ n39 w40 ⟨hn, rfl⟩
    simp only [List.cons.injEq, Value.int.injEq, and_true, true_and] at hn
    subst hn
    refine ⟨fun vs w' => vs = [.int .i64 ((if c1 = 0 then 0 else 1) + (if c2 = 0 then 0 else 1))] ∧ w' = w40, err_i (fun e => ⟨?_, rfl⟩) (fun e => ⟨by rw [if_pos e]; simp, rfl⟩), ?_⟩
    · rw [if_neg e]
      by_cases e1 : c1 = 0 <;> simp [e1] <;> rfl
    rintro _ n42 w43 ⟨hn, rfl⟩
    simp only [List.cons.injEq, Value.int.injEq, and_true, true_and] at hn
    subst hn
    refine ⟨fun vs w' => vs = [.int .i64 ((if c1 = 0 then 0 else 1) + (if c2 = 0 then 0 else 1) + (if c3 = 0 then 0 else 1))] ∧ w' = w43, err_i (fun e => ⟨?_, rfl⟩) (fun e => ⟨by rw [if_pos e]; simp, rfl⟩), ?_⟩
    · rw [if_neg e]
      by_cases e1 : c1 = 0 <;> by_cases e2 : c2 = 0 <;> simp [e1, e2] <;> rfl
    rintro _ n45 w46 ⟨hn, rfl⟩
    simp only [List.cons.injEq, Value.int.injEq, and_true, true_and] at hn
    subst hn
    refine bif_i (fun _ => (fin hs.c).mono ?_) (fun h => ?_)
    · rintro e w48 ⟨rfl, hc⟩
      exact ⟨_, rfl, rfl, hc⟩
    · exfalso
      simp only [b1s] at h
      have p1 : c1 = 0 ↔ ∃ l, Way E a b l := by
        rcases h1 with ⟨rfl, l, hl, _⟩ | ⟨rfl, h1⟩
        · simp only [true_iff]; exact ⟨l, hl⟩
        · constructor
          · intro h; omega
          · intro h; exact absurd h h1
      have p2 : c2 = 0 ↔ ∃ l, Way E b c l := by
        rcases h2 with ⟨rfl, l, hl, _⟩ | ⟨rfl, h2⟩
        · simp only [true_iff]; exact ⟨l, hl⟩
        · constructor
          · intro h; omega
          · intro h; exact absurd h h2
      have p3 : c3 = 0 ↔ ∃ l, Way E c a l := by
        rcases h3 with ⟨rfl, l, hl, _⟩ | ⟨rfl, h3⟩
        · simp only [true_iff]; exact ⟨l, hl⟩
        · constructor
          · intro h; omega
          · intro h; exact absurd h h3
      have t1 : c1 = 0 → c2 = 0 → c3 = 0 := fun q1 q2 => p3.2 (way_sym hs.a (way_trans hs.a hb (p1.1 q1) (p2.1 q2)))
      have t2 : c2 = 0 → c3 = 0 → c1 = 0 := fun q1 q2 => p1.2 (way_sym hs.a (way_trans hs.a hc (p2.1 q1) (p3.1 q2)))
      have t3 : c3 = 0 → c1 = 0 → c2 = 0 := fun q1 q2 => p2.2 (way_sym hs.a (way_trans hs.a ha (p3.1 q1) (p1.1 q2)))
      by_cases e1 : c1 = 0 <;> by_cases e2 : c2 = 0 <;> by_cases e3 : c3 = 0 <;> simp [e1, e2, e3] at h t1 t2 t3 hnot
  · have hall : c1 = 0 ∧ c2 = 0 ∧ c3 = 0 := by simpa using hok
    obtain ⟨rfl, rfl, rfl⟩ := hall
    obtain ⟨l1, hl1, rfl⟩ : ∃ l, Way E a b l ∧ k1 = l.length := by
      rcases h1 with ⟨_, h⟩ | ⟨h, _⟩
      · exact h
      · omega
    obtain ⟨l2, hl2, rfl⟩ : ∃ l, Way E b c l ∧ k2 = l.length := by
      rcases h2 with ⟨_, h⟩ | ⟨h, _⟩
      · exact h
      · omega
    obtain ⟨l3, hl3, rfl⟩ : ∃ l, Way E c a l ∧ k3 = l.length := by
      rcases h3 with ⟨_, h⟩ | ⟨h, _⟩
      · exact h
      · omega
    obtain ⟨k, l, hk1, hk2, hk3, hl, hlen⟩ := way_join hs.a hb (hl1.reverse hs.a.symm) hl2
    have : l = l3.reverse := hs.a.uniq ha hl (hl3.reverse hs.a.symm)
    subst this
    rw [List.length_reverse, List.length_reverse] at hlen
    rw [List.length_reverse] at hk2
    have b1 := (hs.a.way ha hl1).2.1
    have b2 := (hs.a.way hb hl2).2.1
    have b3 := (hs.a.way hc hl3).2.1
    rw [wrap64_in (x := (l1.length : Int) + l2.length) (by omega) (by omega), wrap64_in (x := (l1.length : Int) + l2.length + l3.length) (by omega) (by omega), wrap64_in (x := (l1.length : Int) + l2.length + l3.length - 3) (by omega) (by omega), wrap64_in (x := (l1.length : Int) + l2.length - 1) (by omega) (by omega)]
    refine ⟨by decide, bif_i (fun _ => bif_i (fun _ => (fin hs.c).mono ?_) (fun h => ?_)) (fun h => ?_)⟩
    · rintro e w51 ⟨rfl, hc⟩
      exact ⟨_, rfl, rfl, hc⟩
    · simp only [b1s] at h; omega
    · simp only [b1s] at h
      exfalso
      apply h
      have e1 : (l1.length : Int) + l2.length + l3.length - 3 = 2 * ((l1.length : Int) + l2.length - k - 1) := by omega
      rw [e1]
      exact Int.mul_tmod_right _ _
end Cut
end Go.Proofs.YtledchlbmilneaaDoor
