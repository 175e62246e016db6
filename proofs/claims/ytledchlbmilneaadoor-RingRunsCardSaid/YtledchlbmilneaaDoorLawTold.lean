/-
The law SeqRuns' own helper: all that is told of an item's sequence.
Conditions: those that each theorem states.
-/
import Derived.Test.YtledchlbmilneaaDoorGRef
namespace Go.Proofs.YtledchlbmilneaaDoor
open Go Go.RowKit
set_option linter.unusedVariables false
set_option linter.unusedSimpArgs false
namespace Seq
theorem len_flat {X : List (List Nat)} (h : ∀ A ∈ X, A ≠ []) : X.length ≤ X.flatten.length := by
  induction X with
  | nil => simp
  | cons A X ih =>
    have h1 := List.length_pos_iff.2 (h A (by simp))
    have h2 := ih (fun B hB => h B (by simp [hB]))
    simp only [List.length_cons, List.flatten_cons, List.length_append]
    omega
theorem mem_len {X : List (List Nat)} {A : List Nat} (h : A ∈ X) : A.length ≤ X.flatten.length := by
  induction X with
  | nil => cases h
  | cons B X ih =>
    simp only [List.flatten_cons, List.length_append]
    rcases List.mem_cons.1 h with rfl | h
    · omega
    · have := ih h; omega
structure Small (m : Nat) (X : List (List Nat)) : Prop where
  nd : X.flatten.Nodup
  lt : ∀ A ∈ X, ∀ x ∈ A, x < m
  ne : ∀ A ∈ X, A ≠ []
  len : X.length ≤ m
  each : ∀ A ∈ X, A.length ≤ m
  all : ∀ x, x < m → ∃ A ∈ X, x ∈ A
  m : m ≤ 8388608
theorem LS.small {w₀ w : World} {F L n : Nat} {v : Nat → Int} {X : List (List Nat)} (h : LS w₀ w F L n v X) : Small n X := by
  obtain ⟨h1, h2, h3, _, h5, h6⟩ := h.a.nodup
  have hl : X.flatten.length ≤ n := nodup_len h1 (fun y hy => by obtain ⟨A, hA, hy⟩ := List.mem_flatten.1 hy; exact h2 A hA y hy)
  exact ⟨h1, h2, h3, Nat.le_trans (len_flat h3) hl, fun A hA => Nat.le_trans (mem_len hA) hl, h6, h5⟩
theorem perm_idx {X : List (List Nat)} {A : List Nat} {i : Nat} (h : X[i]? = some A) : ∃ Y, X.Perm (A :: Y) := ⟨_, List.perm_cons_erase (List.mem_of_getElem? h)⟩
theorem c_told {w₀ w : World} {F L m l c vc x : Nat} {v : Nat → Int} {X : List (List Nat)} {bad : Nat → Prop} {b vb : Option Addr} {k : Int} (hg : LaidG w₀) (hs : LS w₀ w F L m v X) (h : RF w bad b l X) (hbL : bad L)
    (hv : IA w vb m (vals m v)) (hvb : ∀ g, bk vb = some g → g ≠ L) (hx : x < m) (hk : -9223372036854775808 ≤ k ∧ k ≤ 9223372036854775807) :
    Calls Pg fn_plaitlaw04_told #[.pointer (some ⟨F, 0, none⟩), .slice b l c, .slice vb m vc, .int .i64 x, .int .i64 k] w fun e w' => e = .returned (.bool true) ∧ LS w₀ w' F L m v X ∧ Chg (· = L) w w' := by
  refine (calls_plaitlaw04_told _ _ _ _ _ _ _ _ _ _ (fun v' w' => v' = .bool true ∧ LS w₀ w' F L m v X ∧ Chg (· = L) w w') ?_).mono (by rintro e w' ⟨v, rfl, rfl, k⟩; exact ⟨rfl, k⟩)
  unfold sh_plaitlaw04_told
  have hS := hs.small
  have hm := hS.m
  have hl : l ≤ m := by rw [← h.1]; exact hS.len
  obtain ⟨A, hAX, hxA⟩ := hS.all x hx
  obtain ⟨i, hA⟩ := List.getElem?_of_mem hAX
  obtain ⟨k0, hx0⟩ := List.getElem?_of_mem hxA
  have hAm := hS.each A hAX
  have hk0 : k0 < A.length := (List.getElem?_eq_some_iff.1 hx0).1
  obtain ⟨Y, hp⟩ := perm_idx hA
  refine (c_rFind h hS.nd hA hx0 (by omega) (fun B hB => by have := hS.each B hB; omega)).mono ?_
  rintro e w7 ⟨rfl, hc⟩
  refine ⟨_, _, rfl, ?_⟩
  replace h := h.nob hc
  replace hv := hv.nob hc
  replace hs := (hs.nob hc).perm hp
  have hch : Chg (· = L) w w7 := hc.weak
  clear hc
  refine h.rd hA fun eb ec hia hok hle => ?_
  have hsplit : A = A.take k0 ++ x :: A.drop (k0 + 1) := by
    conv => lhs; rw [← List.take_append_drop k0 A]
    congr 1
    rw [List.drop_eq_getElem_cons hk0]
    congr 1
    exact (List.getElem?_eq_some_iff.1 hx0).2
  have kia : ∀ {w' w'' : World} {q}, IA w' eb A.length (ints A) → AS w' w'' F L m v q → IA w'' eb A.length (ints A) := fun h k => h.keep k.chg (fun g hg (e : g = L) => hok g hg (e ▸ hbL))
  have kv : ∀ {w' w'' : World} {q}, IA w' vb m (vals m v) → AS w' w'' F L m v q → IA w'' vb m (vals m v) := fun h k => h.keep k.chg (fun g hg (e : g = L) => hvb g hg e)
  have hrank := c_Rank (w := w7) (F := F) (L := L) (n := m) (v := v) (x := x) (pre := A.take k0) (post := A.drop (k0 + 1)) (q := Y) (by rw [← hsplit]; exact hs.a)
  rw [← hsplit] at hrank
  refine hrank.mono ?_
  rintro e w13 ⟨rfl, has⟩
  replace hs := hs.step has
  replace hch := hch.trans has.chg
  replace hia := kia hia has
  replace hv := kv hv has
  refine ⟨_, _, rfl, ?_⟩
  refine (c_Size hs.a hxA).mono ?_
  rintro e w17 ⟨rfl, has⟩
  replace hs := hs.step has
  replace hch := hch.trans has.chg
  replace hia := kia hia has
  replace hv := kv hv has
  refine ⟨_, _, rfl, ?_⟩
  refine (c_Sum hs.a hxA).mono ?_
  rintro e w21 ⟨rfl, has⟩
  replace hs := hs.step has
  replace hch := hch.trans has.chg
  replace hia := kia hia has
  replace hv := kv hv has
  refine ⟨_, _, rfl, ?_⟩
  refine (c_Least hs.a hxA).mono ?_
  rintro e w25 ⟨⟨z1, hz1, rfl⟩, has⟩
  replace hs := hs.step has
  replace hch := hch.trans has.chg
  replace hia := kia hia has
  replace hv := kv hv has
  refine ⟨_, _, rfl, ?_⟩
  refine (c_Most hs.a hxA).mono ?_
  rintro e w29 ⟨⟨z2, hz2, rfl⟩, has⟩
  replace hs := hs.step has
  replace hch := hch.trans has.chg
  replace hia := kia hia has
  replace hv := kv hv has
  refine ⟨_, _, rfl, ?_⟩
  refine (c_At hs.a hxA hk).mono ?_
  rintro e w33 ⟨⟨z3, hz3⟩, has⟩
  replace hs := hs.step has
  replace hch := hch.trans has.chg
  replace hia := kia hia has
  replace hv := kv hv has
  -- what is told of a place, whatever it is
  obtain ⟨y, c3, hat, hat2⟩ : ∃ (y : Int) (c3 : Int), e = .returned (.tuple #[.int .i64 y, errV c3]) ∧ ((0 ≤ k ∧ k < A.length ∧ A[k.toNat]? = some z3 ∧ y = z3 ∧ c3 = 0) ∨ (¬ (0 ≤ k ∧ k < A.length) ∧ y = 0 ∧ c3 = 1)) := by
    rcases hz3 with ⟨h1, h2, rfl⟩ | ⟨h1, rfl⟩
    · have := (List.getElem?_eq_some_iff.1 h2).1
      exact ⟨_, _, rfl, .inl ⟨h1, by omega, h2, rfl, rfl⟩⟩
    · exact ⟨_, _, rfl, .inr ⟨h1, rfl, rfl⟩⟩
  subst hat
  refine ⟨_, _, rfl, ?_⟩
  refine (op_List2 hs hxA).mono ?_
  rintro e w37 ⟨lb, lc, rfl, hli, hlB, hs, has⟩
  replace hch := hch.trans has.chg
  replace hia := kia hia has
  replace hv := kv hv has
  refine ⟨_, _, _, _, rfl, ?_⟩
  refine err_i (fun e => absurd rfl e) (fun _ => err_i (fun e => absurd rfl e) (fun _ => err_i (fun e => absurd rfl e) (fun _ => err_i (fun e => absurd rfl e) (fun _ => err_i (fun e => absurd rfl e) (fun _ => err_i (fun e => absurd rfl e) (fun _ => ?_))))))
  refine bif_i (fun h => ?_) (fun _ => bif_i (fun h => ?_) (fun _ => ?_))
  · simp only [bne_iff_ne, ne_eq, bne_eq_false_iff_eq, Bool.not_eq_true, beq_iff_eq, beq_eq_false_iff_ne, decide_eq_true_eq, decide_eq_false_iff_not, Bool.not_eq_true', Bool.not_eq_false'] at h
    exact absurd (by rw [List.length_take]; omega) h
  · simp only [bne_iff_ne, ne_eq, bne_eq_false_iff_eq, Bool.not_eq_true, beq_iff_eq, beq_eq_false_iff_ne, decide_eq_true_eq, decide_eq_false_iff_not, Bool.not_eq_true', Bool.not_eq_false'] at h; exact absurd trivial h
  have hlt := hS.lt A hAX
  have fin : ∀ {w' : World}, Chg Nobody w37 w' → LS w₀ w' F L m v X ∧ Chg (· = L) w w' := fun hc => ⟨(hs.nob hc).perm hp.symm, hch.trans hc.weak⟩
  refine (c_rSum hia hv hlt (by omega)).mono ?_
  rintro e w40 ⟨rfl, hc1⟩
  refine ⟨_, rfl, bif_i (fun h => ?_) (fun _ => ?_)⟩
  · simp only [bne_iff_ne, ne_eq, bne_eq_false_iff_eq, Bool.not_eq_true, beq_iff_eq, beq_eq_false_iff_ne, decide_eq_true_eq, decide_eq_false_iff_not, Bool.not_eq_true', Bool.not_eq_false'] at h; exact absurd trivial h
  refine (c_rLeast (hia.nob hc1) (hv.nob hc1) hlt (by omega) (by omega)).mono ?_
  rintro e w43 ⟨⟨u1, hu1, rfl⟩, hc2⟩
  obtain rfl := hz1.uniq hu1
  replace hc2 := hc1.trans hc2
  refine ⟨_, rfl, bif_i (fun h => ?_) (fun _ => ?_)⟩
  · simp only [bne_iff_ne, ne_eq, bne_eq_false_iff_eq, Bool.not_eq_true, beq_iff_eq, beq_eq_false_iff_ne, decide_eq_true_eq, decide_eq_false_iff_not, Bool.not_eq_true', Bool.not_eq_false'] at h; exact absurd trivial h
  refine (c_rMost (hia.nob hc2) (hv.nob hc2) hlt (by omega) (by omega)).mono ?_
  rintro e w46 ⟨⟨u2, hu2, rfl⟩, hc3⟩
  obtain rfl := hz2.uniq hu2
  replace hc3 := hc2.trans hc3
  refine ⟨_, rfl, bif_i (fun h => ?_) (fun _ => ?_)⟩
  · simp only [bne_iff_ne, ne_eq, bne_eq_false_iff_eq, Bool.not_eq_true, beq_iff_eq, beq_eq_false_iff_ne, decide_eq_true_eq, decide_eq_false_iff_not, Bool.not_eq_true', Bool.not_eq_false'] at h; exact absurd trivial h
  refine (c_ints (hli.nob hc3) (hia.nob hc3) (by omega)).mono ?_
  rintro e w49 ⟨rfl, hc4⟩
  replace hc4 := hc3.trans hc4
  refine ⟨_, rfl, ?_⟩
  rw [decide_eq_true rfl]
  refine bif_i (fun h => by cases h) (fun _ => ?_)
  have hs4 := hs.nob hc4
  refine bif_i (fun h1 => ?_) (fun h1 => ?_) <;> simp only [bne_iff_ne, ne_eq, bne_eq_false_iff_eq, Bool.not_eq_true, beq_iff_eq, beq_eq_false_iff_ne, decide_eq_true_eq, decide_eq_false_iff_not, Bool.not_eq_true', Bool.not_eq_false'] at h1
  · rcases hat2 with ⟨a1, _⟩ | ⟨_, rfl, rfl⟩
    · omega
    refine (c_num (hs4.g hg)).mono ?_
    rintro e w52 ⟨rfl, hc5⟩
    refine ⟨_, rfl, bif_i (fun _ => ?_) (fun h => absurd h (by decide))⟩
    exact ⟨by simp, fin (hc4.trans hc5)⟩
  refine bif_i (fun h2 => ?_) (fun h2 => ?_) <;> simp only [bne_iff_ne, ne_eq, bne_eq_false_iff_eq, Bool.not_eq_true, beq_iff_eq, beq_eq_false_iff_ne, decide_eq_true_eq, decide_eq_false_iff_not, Bool.not_eq_true', Bool.not_eq_false'] at h2
  · rcases hat2 with ⟨a1, a2, _⟩ | ⟨_, rfl, rfl⟩
    · omega
    refine (c_num (hs4.g hg)).mono ?_
    rintro e w52 ⟨rfl, hc5⟩
    refine ⟨_, rfl, bif_i (fun _ => ?_) (fun h => absurd h (by decide))⟩
    exact ⟨by simp, fin (hc4.trans hc5)⟩
  · rcases hat2 with ⟨a1, a2, a3, rfl, rfl⟩ | ⟨a1, _⟩
    case inr => omega
    refine ⟨errV_isI _, bif_i (fun _ => ?_) (fun h => absurd h (by decide))⟩
    have e1 : k = ((k.toNat : Nat) : Int) := by omega
    rw [e1]
    refine (hia.nob hc4).rd (x := (z3 : Int)) (by rw [List.getElem?_map, a3]; rfl) ?_
    exact ⟨by simp, fin hc4⟩
end Seq
end Go.Proofs.YtledchlbmilneaaDoor
