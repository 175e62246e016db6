/-
Slices of the call's own: what is appended to them.
Conditions: those that each theorem states.
-/
import Derived.Test.YtledchlbmilneaaDoorMem
namespace Go.Proofs.YtledchlbmilneaaDoor
open Go Go.RowKit
set_option linter.unusedVariables false
set_option linter.unusedSimpArgs false

/-- A slice type, its element's cells and bytes. -/
structure ET (P : Program) (t e : TypeId) (sz by_ : Nat) : Prop where
  und : P.underlying t = some (.slice e)
  info : ∃ i z, P.info? e = some i ∧ i.zero = some z ∧ i.size = sz ∧ i.bytes = by_ ∧ z.cells.size = sz
  pos : 0 < sz

def etB (P : Program) (e : TypeId) (sz by_ : Nat) : Bool :=
  match P.info? e with
  | some i => match i.zero with
    | some z => Nat.beq i.size sz && Nat.beq i.bytes by_ && Nat.beq z.cells.size sz && Nat.blt 0 sz
    | none => false
  | none => false
theorem ET.of {P : Program} {t e : TypeId} {sz by_ : Nat} (hu : P.underlying t = some (.slice e)) (hb : etB P e sz by_ = true) : ET P t e sz by_ := by
  unfold etB at hb
  split at hb
  · rename_i i hi
    split at hb
    · rename_i z hz
      simp only [Bool.and_eq_true, Nat.beq_eq, Nat.blt_eq] at hb
      exact ⟨hu, ⟨i, z, hi, hz, hb.1.1.1, hb.1.1.2, hb.1.2⟩, hb.2⟩
    · cases hb
  · cases hb

/-- A slice value (b, l, c) of l elements, in a block from 'base' on, whose cells are xs; or nil. -/
def Own (w : World) (base : Nat) (e : TypeId) (sz : Nat) (b : Option Addr) (l c : Nat) (xs : List Value) : Prop := w.ownsRow base e sz (.slice b l c) l xs

section
variable {P : Program} {w w' : World} {base : Nat} {t e : TypeId} {sz by_ : Nat} {b : Option Addr} {l c : Nat} {xs : List Value}
theorem Own.nil : Own w base e sz none 0 0 [] := ⟨by simp, .inl ⟨rfl, rfl⟩⟩
theorem Own.len (h : Own w base e sz b l c xs) : xs.length = l * sz := h.1
theorem Own.heap (h : Own w base e sz b l c xs) (hh : ∀ g, base ≤ g → g < w.heap.size → w'.heap[g]? = w.heap[g]?) : Own w' base e sz b l c xs := by
  obtain ⟨h1, h2⟩ := h
  refine ⟨h1, h2.imp id ?_⟩
  rintro ⟨g, cap, cur, hv, hg, hc, r⟩
  refine ⟨g, cap, cur, hv, hg, ?_, r⟩
  rw [hh g hg, hc]
  rcases Nat.lt_or_ge g w.heap.size with k | k
  · exact k
  · rw [Array.getElem?_eq_none k] at hc; cases hc
theorem Own.chg {S : Nat → Prop} (h : Own w base e sz b l c xs) (k : Chg S w w') (hS : ∀ g, base ≤ g → g < w.heap.size → ¬ S g) : Own w' base e sz b l c xs :=
  h.heap fun g hg hlt => k.block g hlt (hS g hg hlt)
theorem Own.drew (h : Own w base e sz b l c xs) : Own w.drew base e sz b l c xs := h
theorem Own.alloc (h : Own w base e sz b l c xs) (o : Obj) : Own (w.alloc o) base e sz b l c xs := h.heap fun g _ hlt => by
  show (w.heap.push o)[g]? = _
  rw [Array.getElem?_push, if_neg (by omega)]
theorem Own.get (h : Own w base e sz b l c xs) (hl : 0 < l) : ∃ g cs, b = some ⟨g, 0, none⟩ ∧ base ≤ g ∧ Row w.heap g e cs ∧ cs.take (l * sz) = xs ∧ l ≤ c ∧ cs.length = c * sz := by
  obtain ⟨h1, h2⟩ := h
  rcases h2 with ⟨hv, hn⟩ | ⟨g, cap, cur, hv, hg, hc, hcap, _, hcs, hx⟩
  · omega
  · injection hv with hv1 hv2 hv3
    subst hv3
    exact ⟨g, cur.toList, hv1, hg, by unfold Row; simpa using hc, hx, hcap, by simpa using hcs⟩
theorem own_cell {cs : List Value} {n : Nat} (h : cs.take n = xs) {o : Nat} (ho : o < n) : cs[o]? = xs[o]? := by
  rw [← h, List.getElem?_take, if_pos ho]

/-- One more element, whose cells lie in a block of their own. -/
theorem own_append (T : ET P t e sz by_) (h : Own w base e sz b l c xs) {ty : TypeId} {a : Nat} {news : List Value} (r : Row w.heap a e news) (hl : news.length = sz) (h1 : ∀ u ∈ news, oneC u = true)
    (hb : base ≤ w.heap.size) (hn : (l + 1) * by_ ≤ 140737488355328) (hm : l + 1 ≤ 9223372036854775807) :
    ∃ b' c' w', (Builtin.append_ #[t, t] ty #[.slice b l c, .slice (some ⟨a, 0, none⟩) 1 1]).run P w = .ok (.slice b' (l + 1) c') w' ∧ Own w' base e sz b' (l + 1) c' (xs ++ news) ∧ Chg (base ≤ ·) w w' := by
  obtain ⟨i, z, hi, hz, hsz, hby, hzs⟩ := T.info
  obtain ⟨v', w', hr, ho, hg, _⟩ := run_append_own w base t ty e i z sz by_ T.und hi hz hsz hby hzs T.pos (.slice b l c) l xs h ⟨a, 0, none⟩ 1 1 news (by omega)
    (fun j u hu => by rw [add_mk, r.cell, Nat.zero_add]; exact hu) (fun u hu => by have := h1 u hu; cases u <;> first | rfl | (simp [oneC] at this)) (by unfold maxLen; omega) hn hb
  have hv : ∃ b' c', v' = .slice b' (l + 1) c' := by
    rcases ho.2 with ⟨hv, hn⟩ | ⟨g, cap, cur, hv, _⟩
    · omega
    · exact ⟨_, _, hv⟩
  obtain ⟨b', c', rfl⟩ := hv
  refine ⟨b', c', w', hr, ho, ⟨hg.os, hg.tape, hg.output, hg.size, fun k hk hS => hg.block k hk ?_⟩⟩
  intro e'
  have hS : ¬ base ≤ k := hS
  rcases h.2 with ⟨hv, _⟩ | ⟨g, cap, cur, hv, hgb, _⟩
  · injection hv with hv1; subst hv1; simp [Value.ownBlock] at e'
  · injection hv with hv1; subst hv1; simp [Value.ownBlock] at e'; omega
end
end Go.Proofs.YtledchlbmilneaaDoor
