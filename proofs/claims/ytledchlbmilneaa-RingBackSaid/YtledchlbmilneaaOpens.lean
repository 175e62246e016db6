/-
A law's arguments opened: slices of records of ints, arrays of ints; and the package variable of errors.
Conditions: those that each theorem states.
-/
import Derived.Test.YtledchlbmilneaaGLaw
import Derived.Test.YtledchlbmilneaaRows
import Derived.ChangeSame
import Derived.ChangeVars
import Derived.JoinedOf
import Derived.RowKit
import Derived.RowKitTokens
import Derived.LaidLaws
import Derived.LaidHandle
import Derived.Stop.Joined
import Derived.Carry
import Derived.OpenShut
import Derived.Deep.Slices
namespace Go.Proofs.Ytledchlbmilneaa
open Go Go.ChangeShapes Go.WideShapes Go.RowKit Go.Deep
set_option linter.unusedVariables false
set_option linter.unusedSimpArgs false
section
variable {H : Type} {enc : TypeId × Value → H} {P : Program} {w : World} {base : Nat} {spare : Nat → Bool} {held : Bool} {r : Reach} {b0 : Nat}
theorem open_recs {t e : TypeId} {fs : Array Field} {sz : Nat} (ht : P.underlying t = some (.slice e)) (he : P.underlying e = some (.struct fs)) (hc : P.cellsOf e = sz) (hsz : 0 < sz)
    (hfs : ∀ k, k < sz → ∃ g : Field, fs[k]? = some g ∧ g.offset = k ∧ P.underlying g.type = some (.int .i64) ∧ P.cellsOf g.type = 1)
    {v : Value} {d : DataW H} {ps : List MemPlace} (hv : Value.okWide P w r b0 t v) (h : DataW.Trod enc P w base spare held t v d ps) : ∃ b l c f, v = .slice b l c ∧ CA w b l sz f ∧ l ≤ maxLen ∧ ∀ i k, i < l → k < sz → -9223372036854775808 ≤ f i k ∧ f i k ≤ 9223372036854775807 := by
  obtain ⟨b, l, c, rfl⟩ := okWide_slice ht hv
  obtain ⟨fuel, h⟩ := h
  rcases open_slice ht h with ⟨hcs, _⟩ | ⟨a, len, cap, m, n, D, Pl, hcs, hb, hl, hmx, hm, _, hel⟩
  · have hcs : [Value.slice b l c] = [Value.slice none 0 0] := hcs
    injection hcs with h1; injection h1 with h1 h2 h3; subst h1 h2 h3
    exact ⟨_, _, _, fun _ _ => 0, rfl, .inl rfl, Nat.zero_le _, fun _ _ _ _ => by omega⟩
  · have hcs : [Value.slice b l c] = [Value.slice (some a) len cap] := hcs
    injection hcs with h1; injection h1 with h1 h2 h3; subst h1 h2 h3
    have hml : l ≤ m := by rw [hm]; split <;> omega
    have cellsOf : ∀ i k, i < l → k < sz → ∃ z, w.cell? ((a.add (i * sz)).add k) = some (.int .i64 z) ∧ (Lit.int .i64 z).wf = true := by
      intro i k hi hk
      obtain ⟨cs', h1, h2⟩ := hel i (by omega)
      rw [hc] at h1
      obtain ⟨xs, m', rfl, _, hlen, hxl, hf⟩ := DataW.trod_struct he h2
      obtain ⟨g, hg1, hg2, hg3, hg4⟩ := hfs k hk
      have h3 := hf k g hg1
      rw [hg2, hg4] at h3
      have hkx : k < xs.length := by
        rw [hxl]; exact (Array.getElem?_eq_some_iff.1 hg1).1
      rw [List.getElem?_eq_getElem hkx] at h3
      obtain ⟨z, h4, _, hwf⟩ := DataW.trod_int hg3 h3
      have h5 : cs'[k]? = some (.int .i64 z) := by
        have := congrArg (fun l : List Value => l[0]?) h4
        simpa using this
      refine ⟨z, ?_, hwf⟩
      rw [← h5]; exact (World.cells?_some h1).2.2 k (by omega)
    refine ⟨_, _, _, fun i k => match w.cell? ((a.add (i * sz)).add k) with | some (.int _ x) => x | _ => 0, rfl, ?_, by omega, ?_⟩
    · by_cases h0 : l = 0
      · exact .inl h0
      · refine .inr ⟨a, rfl, ?_, ?_⟩
        · obtain ⟨cs', h1, _⟩ := hel 0 (by omega)
          have := World.cells?_block h1 (by rw [hc]; exact hsz)
          rw [add_block] at this; exact this
        · intro i k hi hk
          obtain ⟨z, h6, _⟩ := cellsOf i k hi hk
          simp only [h6]
    · intro i k hi hk
      obtain ⟨z, h6, hwf⟩ := cellsOf i k hi hk
      simp only [h6]
      simp only [Lit.wf, Bool.and_eq_true, decide_eq_true_eq] at hwf
      exact hwf
theorem open_arr2 {t e : TypeId} (ht : P.underlying t = some (.array 2 e)) (he : P.underlying e = some (.int .i64)) (hc : P.cellsOf e = 1) (hc2 : P.cellsOf t = 2)
    {v : Value} {d : DataW H} {ps : List MemPlace} (hv : Value.okWide P w r b0 t v) (h : DataW.Trod enc P w base spare held t v d ps) : ∃ x y, v = .agg #[.int .i64 x, .int .i64 y] := by
  simp only [Value.okWide, ht] at hv
  obtain ⟨cs, rfl, hsz, _⟩ := hv
  obtain ⟨fuel, h⟩ := h
  obtain ⟨xs, m, rfl, _, hl, hxl, hf⟩ := DataW.trod_array ht h
  rw [hc2] at hsz
  obtain ⟨l⟩ := cs
  match l, hsz with
  | [c0, c1], _ =>
    have e0 : (Value.agg #[c0, c1]).cells.toList = [c0, c1] := rfl
    rw [e0] at hf
    have h0 := hf 0 (by omega)
    have h1 := hf 1 (by omega)
    rw [hc] at h0 h1
    rw [List.getElem?_eq_getElem (by omega)] at h0 h1
    obtain ⟨x, hx, _⟩ := DataW.trod_int he h0
    obtain ⟨y, hy, _⟩ := DataW.trod_int he h1
    simp at hx hy
    exact ⟨x, y, by rw [hx, hy]⟩
theorem open_arr3 {t e : TypeId} (ht : P.underlying t = some (.array 3 e)) (he : P.underlying e = some (.int .i64)) (hc : P.cellsOf e = 1) (hc2 : P.cellsOf t = 3)
    {v : Value} {d : DataW H} {ps : List MemPlace} (hv : Value.okWide P w r b0 t v) (h : DataW.Trod enc P w base spare held t v d ps) : ∃ x y z, v = .agg #[.int .i64 x, .int .i64 y, .int .i64 z] := by
  simp only [Value.okWide, ht] at hv
  obtain ⟨cs, rfl, hsz, _⟩ := hv
  obtain ⟨fuel, h⟩ := h
  obtain ⟨xs, m, rfl, _, hl, hxl, hf⟩ := DataW.trod_array ht h
  rw [hc2] at hsz
  obtain ⟨l⟩ := cs
  match l, hsz with
  | [c0, c1, c2], _ =>
    have e0 : (Value.agg #[c0, c1, c2]).cells.toList = [c0, c1, c2] := rfl
    rw [e0] at hf
    have h0 := hf 0 (by omega)
    have h1 := hf 1 (by omega)
    have h2 := hf 2 (by omega)
    rw [hc] at h0 h1 h2
    rw [List.getElem?_eq_getElem (by omega)] at h0 h1 h2
    obtain ⟨x, hx, _⟩ := DataW.trod_int he h0
    obtain ⟨y, hy, _⟩ := DataW.trod_int he h1
    obtain ⟨z, hz, _⟩ := DataW.trod_int he h2
    simp at hx hy hz
    exact ⟨x, y, z, by rw [hx, hy, hz]⟩
end
theorem door_own : ownKnob Pg.godebug = none := by kernel_rfl
theorem door_laidOut : laidOutB Pg = true := by kernel_rfl
end Go.Proofs.Ytledchlbmilneaa
