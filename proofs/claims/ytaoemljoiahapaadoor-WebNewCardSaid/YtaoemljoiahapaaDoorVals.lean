/-
Slices of records of any kinds of cells, as they read; what is appended of them.
Conditions: those that each theorem states.
-/
import Derived.Test.YtaoemljoiahapaaDoorGMem
import Derived.Deep.Upon
namespace Go.Proofs.YtaoemljoiahapaaDoor
open Go Go.RowKit
set_option linter.unusedVariables false
set_option linter.unusedSimpArgs false
/-- A slice of l records of sz cells each reads as these cells. -/
def VA (w : World) (b : Option Addr) (l sz : Nat) (xs : List Value) : Prop :=
  xs.length = l * sz ∧ (l = 0 ∨ ∃ g o e cs, b = some ⟨g, o, none⟩ ∧ Row w.heap g e cs ∧ (cs.drop o).take (l * sz) = xs)
section
variable {P : Program} {w w' : World} {b sb : Option Addr} {l c sl sc sz base by_ i k : Nat} {xs ys : List Value} {t e : TypeId}
theorem VA.len (h : VA w b l sz xs) : xs.length = l * sz := h.1
theorem VA.zero : VA w b 0 sz [] := ⟨by simp, .inl rfl⟩
theorem VA.keep {S : Nat → Prop} (h : VA w b l sz xs) (k : Chg S w w') (hS : ∀ g, 0 < l → bk b = some g → ¬ S g) : VA w' b l sz xs := by
  obtain ⟨h1, h2⟩ := h
  refine ⟨h1, ?_⟩
  rcases h2 with h0 | ⟨g, o, e, cs, rfl, hr, hx⟩
  · exact .inl h0
  · by_cases hl : l = 0
    · exact .inl hl
    · exact .inr ⟨g, o, e, cs, rfl, k.row (hS g (by omega) rfl) hr, hx⟩
theorem VA.nob (h : VA w b l sz xs) (k : Chg Nobody w w') : VA w' b l sz xs := h.keep k (fun _ _ _ h => h)
theorem VA.drew (h : VA w b l sz xs) : VA w.drew b l sz xs := h
theorem VA.alloc (h : VA w b l sz xs) (o : Obj) : VA (w.alloc o) b l sz xs := h.nob ((Chg.refl _ _).alloc o)
theorem VA.blk (h : VA w b l sz xs) (hl : 0 < l) : ∃ g, bk b = some g ∧ g < w.heap.size := by
  rcases h.2 with h0 | ⟨g, o, e, cs, rfl, hr, _⟩
  · omega
  · exact ⟨g, rfl, hr.lt⟩
theorem VA.of_own (h : Own w base e sz b l c xs) : VA w b l sz xs := by
  refine ⟨h.len, ?_⟩
  by_cases hl : l = 0
  · exact .inl hl
  · obtain ⟨g, cs, rfl, _, hr, ht, _⟩ := h.get (by omega)
    exact .inr ⟨g, 0, e, cs, rfl, hr, by simpa using ht⟩
theorem VA.of_row {g : Nat} (r : Row w.heap g e xs) (hl : xs.length = l * sz) : VA w (some ⟨g, 0, none⟩) l sz xs :=
  ⟨hl, .inr ⟨g, 0, e, xs, rfl, r, by rw [List.drop_zero, ← hl, List.take_length]⟩⟩
/-- A record's address, and what stands there. -/
theorem VA.ix (h : VA w b l sz xs) (hi : i < l) {K : Addr → Prop} (k : ∀ g o e cs, Row w.heap g e cs → bk b = some g → (∀ j, j < sz → cs[o + j]? = xs[i * sz + j]?) → K ⟨g, o, none⟩) : ixS b l (i : Int) sz K := by
  rcases h.2 with h0 | ⟨g, o, e, cs, rfl, hr, hx⟩
  · omega
  · refine ixS_i hi (k g _ e cs hr rfl fun j hj => ?_)
    have hlt : i * sz + j < l * sz := by
      calc i * sz + j < i * sz + sz := by omega
        _ = (i + 1) * sz := by rw [Nat.succ_mul]
        _ ≤ l * sz := Nat.mul_le_mul_right _ hi
    rw [← hx, List.getElem?_take, if_pos hlt, List.getElem?_drop, Nat.add_assoc]
theorem VA.pre (h : VA w b l sz xs) (hk : k ≤ l) : VA w b k sz (xs.take (k * sz)) := by
  have hm : k * sz ≤ l * sz := Nat.mul_le_mul_right _ hk
  refine ⟨by rw [List.length_take, h.1]; omega, ?_⟩
  rcases h.2 with h0 | ⟨g, o, e, cs, rfl, hr, hx⟩
  · exact .inl (by omega)
  · refine .inr ⟨g, o, e, cs, rfl, hr, ?_⟩
    rw [← hx, List.take_take]; congr 1; omega
theorem VA.post (h : VA w b l sz xs) (hk : k ≤ l) : VA w (b.map fun a => a.add (k * sz)) (l - k) sz (xs.drop (k * sz)) := by
  have hm : k * sz ≤ l * sz := Nat.mul_le_mul_right _ hk
  refine ⟨by rw [List.length_drop, h.1, Nat.sub_mul], ?_⟩
  rcases h.2 with h0 | ⟨g, o, e, cs, rfl, hr, hx⟩
  · exact .inl (by omega)
  · refine .inr ⟨g, o + k * sz, e, cs, by simp [add_mk], hr, ?_⟩
    rw [← hx, List.drop_take, List.drop_drop, Nat.sub_mul]
end
theorem fm_get {α : Type} {enc : α → List Value} {sz : Nat} (hsz : ∀ x, (enc x).length = sz) : ∀ {l : List α} {i j : Nat} {x : α}, l[i]? = some x → j < sz → (l.flatMap enc)[i * sz + j]? = (enc x)[j]?
  | [], i, j, x, h, _ => by simp at h
  | y :: l, 0, j, x, h, hj => by
    simp at h; subst h
    rw [List.flatMap_cons, List.getElem?_append_left (by rw [hsz]; omega)]; congr 1; omega
  | y :: l, i + 1, j, x, h, hj => by
    simp at h
    rw [List.flatMap_cons, List.getElem?_append_right (by rw [hsz, Nat.succ_mul]; omega), hsz, ← fm_get hsz h hj]
    congr 1; rw [Nat.succ_mul]; omega
end Go.Proofs.YtaoemljoiahapaaDoor
