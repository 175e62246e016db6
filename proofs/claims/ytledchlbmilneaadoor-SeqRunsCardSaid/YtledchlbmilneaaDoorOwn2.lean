/-
Several slices of the call's own at once: which block each lies in.
Conditions: those that each theorem states.
-/
import Derived.Test.YtledchlbmilneaaDoorOwn
import Derived.Maps.AppendAt
namespace Go.Proofs.YtledchlbmilneaaDoor
open Go Go.RowKit
set_option linter.unusedVariables false
set_option linter.unusedSimpArgs false
/-- The block a slice lies in. -/
def bk (b : Option Addr) : Option Nat := b.map Addr.block
theorem bk_some (g o : Nat) (t) : bk (some ⟨g, o, t⟩) = some g := rfl
theorem bk_none : bk none = none := rfl
section
variable {P : Program} {w w' : World} {base : Nat} {t e : TypeId} {sz by_ : Nat} {b b' : Option Addr} {l c l' c' : Nat} {xs ys : List Value}
theorem ownBlock_bk (b : Option Addr) (l c : Nat) : (Value.slice b l c).ownBlock = bk b := by cases b <;> rfl
theorem Own.bk_lt (h : Own w base e sz b l c xs) {k : Nat} (hk : bk b = some k) : base ≤ k ∧ k < w.heap.size := by
  rcases h.2 with ⟨hv, hn⟩ | ⟨g, cap, cur, hv, hg, hc, _⟩
  · injection hv with hv1; subst hv1; cases hk
  · injection hv with hv1; subst hv1; cases hk
    refine ⟨hg, ?_⟩
    rcases Nat.lt_or_ge g w.heap.size with k | k
    · exact k
    · rw [Array.getElem?_eq_none k] at hc; cases hc
theorem Own.keep {S : Nat → Prop} (h : Own w base e sz b l c xs) (k : Chg S w w') (hS : ∀ g, bk b = some g → ¬ S g) : Own w' base e sz b l c xs := by
  obtain ⟨h1, h2⟩ := h
  refine ⟨h1, h2.imp id ?_⟩
  rintro ⟨g, cap, cur, hv, hg, hc, r⟩
  refine ⟨g, cap, cur, hv, hg, ?_, r⟩
  have hlt : g < w.heap.size := by
    rcases Nat.lt_or_ge g w.heap.size with k | k
    · exact k
    · rw [Array.getElem?_eq_none k] at hc; cases hc
  rw [k.block g hlt ?_, hc]
  injection hv with hv1; subst hv1; exact hS g rfl
theorem Own.mono {base' : Nat} (h : Own w base e sz b l c xs) (hb : base' ≤ base) : Own w base' e sz b l c xs := by
  obtain ⟨h1, h2⟩ := h
  refine ⟨h1, h2.imp id ?_⟩
  rintro ⟨g, cap, cur, hv, hg, r⟩
  exact ⟨g, cap, cur, hv, Nat.le_trans hb hg, r⟩
theorem Own.cap (h : Own w base e sz b l c xs) : l ≤ c ∧ c ≤ maxLen := by
  rcases h.2 with ⟨hv, hn⟩ | ⟨g, cap, cur, hv, hg, hc, h1, h2, _⟩
  · injection hv with _ hv2 hv3; subst hv2 hv3; exact ⟨Nat.le_refl _, by decide⟩
  · injection hv with _ hv2 hv3; subst hv3; exact ⟨h1, h2⟩
/-- The first elements of an own slice. -/
theorem Own.resl (h : Own w base e 1 b l c xs) {m : Nat} (hm : m ≤ l) : Own w base e 1 (if c = 0 then b else Option.map (fun a => Addr.add a (0 * 1)) b) m c (xs.take m) := by
  have e0 : (if c = 0 then b else Option.map (fun a => Addr.add a (0 * 1)) b) = b := by
    split
    · rfl
    · cases b with
      | none => rfl
      | some a => simp [Addr.add]
  rw [e0]
  have hl := h.len
  rcases h.2 with ⟨hv, hn⟩ | ⟨g, cap, cur, hv, hg, hc, h1, h2, h3, h4⟩
  · injection hv with hv1 hv2 hv3; subst hv1 hv2 hv3
    have : m = 0 := by omega
    subst this
    exact ⟨by simp, .inl ⟨rfl, rfl⟩⟩
  · refine ⟨by simp; omega, .inr ⟨g, c, cur, ?_, hg, hc, ?_⟩⟩
    · injection hv with hv1; rw [hv1]
    · injection hv with _ _ hv3; subst hv3
      exact ⟨by omega, h2, h3, by rw [← h4, List.take_take]; congr 1; omega⟩
theorem Own.resl_bk {c : Nat} {b : Option Addr} : bk (if c = 0 then b else Option.map (fun a => Addr.add a (0 * 1)) b) = bk b := by
  split
  · rfl
  · cases b with
    | none => rfl
    | some a => simp [Addr.add]

/-- Two own slices lie in two blocks. -/
def Apart (b b' : Option Addr) : Prop := ∀ k, bk b = some k → bk b' ≠ some k
theorem Apart.symm (h : Apart b b') : Apart b' b := fun k h1 h2 => h k h2 h1
theorem Apart.nil : Apart none b' := fun k h => by cases h
theorem Apart.nil' : Apart b none := fun k _ h => by cases h

/-- One more element, whose cells lie in a block of their own; and where the slice then lies. -/
theorem own_append2 (T : ET P t e sz by_) (h : Own w base e sz b l c xs) {ty : TypeId} {a : Nat} {news : List Value} (r : Row w.heap a e news) (hl : news.length = sz) (h1 : ∀ u ∈ news, oneC u = true)
    (hb : base ≤ w.heap.size) (hn : (l + 1) * by_ ≤ 140737488355328) (hm : l + 1 ≤ 9223372036854775807) :
    ∃ b' c' w', (Builtin.append_ #[t, t] ty #[.slice b l c, .slice (some ⟨a, 0, none⟩) 1 1]).run P w = .ok (.slice b' (l + 1) c') w' ∧ Own w' base e sz b' (l + 1) c' (xs ++ news) ∧ Chg (fun k => bk b = some k) w w' ∧ (bk b' = bk b ∨ bk b' = some w.heap.size) := by
  obtain ⟨i, z, hi, hz, hsz, hby, hzs⟩ := T.info
  obtain ⟨v', w', hr, ho, hg, _, hw⟩ := run_append_own_at w base t ty e i z sz by_ T.und hi hz hsz hby hzs T.pos (.slice b l c) l xs h ⟨a, 0, none⟩ 1 1 news (by omega)
    (fun j u hu => by rw [add_mk, r.cell, Nat.zero_add]; exact hu) (fun u hu => by have := h1 u hu; cases u <;> first | rfl | (simp [oneC] at this)) (by unfold maxLen; omega) hn hb
  have hv : ∃ b' c', v' = .slice b' (l + 1) c' := by
    rcases ho.2 with ⟨hv, hn⟩ | ⟨g, cap, cur, hv, _⟩
    · omega
    · exact ⟨_, _, hv⟩
  obtain ⟨b', c', rfl⟩ := hv
  rw [ownBlock_bk, ownBlock_bk] at hw
  refine ⟨b', c', w', hr, ho, ⟨hg.os, hg.tape, hg.output, hg.size, fun k hk hS => hg.block k hk ?_⟩, hw⟩
  rw [ownBlock_bk]; exact fun e => hS e.symm
theorem Apart.app (h : Apart b b') {b2 : Option Addr} (hw : bk b2 = bk b ∨ bk b2 = some w.heap.size) (ho : ∀ k, bk b' = some k → k < w.heap.size) : Apart b2 b' := by
  intro k h1 h2
  rcases hw with e | e
  · exact h k (by rw [← e]; exact h1) h2
  · rw [e] at h1; cases h1; exact absurd (ho _ h2) (by omega)
end
end Go.Proofs.YtledchlbmilneaaDoor
