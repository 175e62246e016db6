/-
A law's arguments opened: slices of records of ints, arrays of ints; and the package variable of errors.
Conditions: those that each theorem states.
-/
import Derived.Test.YtaoemljoiahapaaGreatDoorGLaw
import Derived.Test.YtaoemljoiahapaaGreatDoorRows
import Derived.ChangeSame
import Derived.ChangeVars
import Derived.JoinedOf
import Derived.RowKit
import Derived.RowKitTokens
import Derived.LaidLaws
import Derived.LaidHandle
import Derived.Stop.Joined
import Derived.Carry
import Derived.OpenShut
import Derived.Deep.Slices
namespace Go.Proofs.YtaoemljoiahapaaGreatDoor
open Go Go.ChangeShapes Go.WideShapes Go.RowKit Go.Deep
set_option linter.unusedVariables false
set_option linter.unusedSimpArgs false
section
variable {H : Type} {enc : TypeId × Value → H} {P : Program} {w : World} {base : Nat} {spare : Nat → Bool} {held : Bool} {r : Reach} {b0 : Nat}
theorem open_recs {t e : TypeId} {fs : Array Field} {sz : Nat} (ht : P.underlying t = some (.slice e)) (he : P.underlying e = some (.struct fs)) (hc : P.cellsOf e = sz) (hsz : 0 < sz)
    (hfs : ∀ k, k < sz → ∃ g : Field, fs[k]? = some g ∧ g.offset = k ∧ P.underlying g.type = some (.int .i64) ∧ P.cellsOf g.type = 1)
    {v : Value} {d : DataW H} {ps : List MemPlace} (hv : Value.okWide P w r b0 t v) (h : DataW.Trod enc P w base spare held t v d ps) : ∃ b l c f, v = .slice b l c ∧ CA w b l sz f ∧ l ≤ maxLen ∧ ∀ i k, i < l → k < sz → -9223372036854775808 ≤ f i k ∧ f i k ≤ 9223372036854775807 := by
  obtain ⟨b, l, c, rfl⟩ := okWide_slice ht hv
  obtain ⟨fuel, h⟩ := h
  rcases open_slice ht h with ⟨hcs, _⟩ | ⟨a, len, cap, m, n, D, Pl, hcs, hb, hl, hmx, hm, _, hel⟩
  · have hcs : [Value.slice b l c] = [Value.slice none 0 0] := hcs
    injection hcs with h1; injection h1 with h1 h2 h3; subst h1 h2 h3
    exact ⟨_, _, _, fun _ _ => 0, rfl, .inl rfl, Nat.zero_le _, fun _ _ _ _ => by omega⟩
  · have hcs : [Value.slice b l c] = [Value.slice (some a) len cap] := hcs
    injection hcs with h1; injection h1 with h1 h2 h3; subst h1 h2 h3
    have hml : l ≤ m := by rw [hm]; split <;> omega
    have cellsOf : ∀ i k, i < l → k < sz → ∃ z, w.cell? ((a.add (i * sz)).add k) = some (.int .i64 z) ∧ (Lit.int .i64 z).wf = true := by
      intro i k hi hk
      obtain ⟨cs', h1, h2⟩ := hel i (by omega)
      rw [hc] at h1
      obtain ⟨xs, m', rfl, _, hlen, hxl, hf⟩ := DataW.trod_struct he h2
      obtain ⟨g, hg1, hg2, hg3, hg4⟩ := hfs k hk
      have h3 := hf k g hg1
      rw [hg2, hg4] at h3
      have hkx : k < xs.length := by
        rw [hxl]; exact (Array.getElem?_eq_some_iff.1 hg1).1
      rw [List.getElem?_eq_getElem hkx] at h3
      obtain ⟨z, h4, _, hwf⟩ := DataW.trod_int hg3 h3
      have h5 : cs'[k]? = some (.int .i64 z) := by
        have := congrArg (fun l : List Value => l[0]?) h4
        simpa using this
      refine ⟨z, ?_, hwf⟩
      rw [← h5]; exact (World.cells?_some h1).2.2 k (by omega)
    refine ⟨_, _, _, fun i k => match w.cell? ((a.add (i * sz)).add k) with | some (.int _ x) => x | _ => 0, rfl, ?_, by omega, ?_⟩
    · by_cases h0 : l = 0
      · exact .inl h0
      · refine .inr ⟨a, rfl, ?_, ?_⟩
        · obtain ⟨cs', h1, _⟩ := hel 0 (by omega)
          have := World.cells?_block h1 (by rw [hc]; exact hsz)
          rw [add_block] at this; exact this
        · intro i k hi hk
          obtain ⟨z, h6, _⟩ := cellsOf i k hi hk
          simp only [h6]
    · intro i k hi hk
      obtain ⟨z, h6, hwf⟩ := cellsOf i k hi hk
      simp only [h6]
      simp only [Lit.wf, Bool.and_eq_true, decide_eq_true_eq] at hwf
      exact hwf
theorem open_arr2 {t e : TypeId} (ht : P.underlying t = some (.array 2 e)) (he : P.underlying e = some (.int .i64)) (hc : P.cellsOf e = 1) (hc2 : P.cellsOf t = 2)
    {v : Value} {d : DataW H} {ps : List MemPlace} (hv : Value.okWide P w r b0 t v) (h : DataW.Trod enc P w base spare held t v d ps) : ∃ x y, v = .agg #[.int .i64 x, .int .i64 y] := by
  simp only [Value.okWide, ht] at hv
  obtain ⟨cs, rfl, hsz, _⟩ := hv
  obtain ⟨fuel, h⟩ := h
  obtain ⟨xs, m, rfl, _, hl, hxl, hf⟩ := DataW.trod_array ht h
  rw [hc2] at hsz
  obtain ⟨l⟩ := cs
  match l, hsz with
  | [c0, c1], _ =>
    have e0 : (Value.agg #[c0, c1]).cells.toList = [c0, c1] := rfl
    rw [e0] at hf
    have h0 := hf 0 (by omega)
    have h1 := hf 1 (by omega)
    rw [hc] at h0 h1
    rw [List.getElem?_eq_getElem (by omega)] at h0 h1
    obtain ⟨x, hx, _⟩ := DataW.trod_int he h0
    obtain ⟨y, hy, _⟩ := DataW.trod_int he h1
    simp at hx hy
    exact ⟨x, y, by rw [hx, hy]⟩
theorem open_rec5 {t : TypeId} {fs : Array Field} (ht : P.underlying t = some (.struct fs)) (hc2 : P.cellsOf t = 5)
    (hfs : ∀ k, k < 5 → ∃ g : Field, fs[k]? = some g ∧ g.offset = k ∧ P.underlying g.type = some (.int .i64) ∧ P.cellsOf g.type = 1)
    {v : Value} {d : DataW H} {ps : List MemPlace} (hv : Value.okWide P w r b0 t v) (h : DataW.Trod enc P w base spare held t v d ps) :
    ∃ x0 x1 x2 x3 x4, v = .agg #[.int .i64 x0, .int .i64 x1, .int .i64 x2, .int .i64 x3, .int .i64 x4] ∧ -9223372036854775808 ≤ x4 ∧ x4 ≤ 9223372036854775807 := by
  simp only [Value.okWide, ht] at hv
  obtain ⟨cs, rfl, hsz, _⟩ := hv
  obtain ⟨fuel, h⟩ := h
  obtain ⟨xs, m, rfl, _, hl, hxl, hf⟩ := DataW.trod_struct ht h
  rw [hc2] at hsz
  obtain ⟨l⟩ := cs
  match l, hsz with
  | [c0, c1, c2, c3, c4], _ =>
    have e0 : (Value.agg #[c0, c1, c2, c3, c4]).cells.toList = [c0, c1, c2, c3, c4] := rfl
    rw [e0] at hf
    have one : ∀ k, k < 5 → ∃ z, ([c0, c1, c2, c3, c4].drop k).take 1 = [.int .i64 z] ∧ (Lit.int .i64 z).wf = true := by
      intro k hk
      obtain ⟨g, hg1, hg2, hg3, hg4⟩ := hfs k hk
      have h3 := hf k g hg1
      rw [hg2, hg4] at h3
      have hkx : k < xs.length := by rw [hxl]; exact (Array.getElem?_eq_some_iff.1 hg1).1
      rw [List.getElem?_eq_getElem hkx] at h3
      obtain ⟨z, h4, _, hwf⟩ := DataW.trod_int hg3 h3
      exact ⟨z, h4, hwf⟩
    obtain ⟨x0, h0, _⟩ := one 0 (by omega)
    obtain ⟨x1, h1, _⟩ := one 1 (by omega)
    obtain ⟨x2, h2, _⟩ := one 2 (by omega)
    obtain ⟨x3, h3, _⟩ := one 3 (by omega)
    obtain ⟨x4, h4, hwf⟩ := one 4 (by omega)
    simp only [Lit.wf, Bool.and_eq_true, decide_eq_true_eq] at hwf
    simp at h0 h1 h2 h3 h4
    exact ⟨x0, x1, x2, x3, x4, by rw [h0, h1, h2, h3, h4], hwf⟩
end
theorem door_own : ownKnob Pg.godebug = none := by kernel_rfl
theorem door_laidOut : laidOutB Pg = true := by kernel_rfl
theorem door_et : Pg.globalNamed "errors.errorType" = some 0 := by kernel_rfl
theorem door_rt : (Pg.cutTypes.find? (·.1 == "internal/reflectlite.rtype")).map (·.2) = some T_reflectlite_rtype := by kernel_rfl
theorem door_oneRow : ((List.range 195).filter fun t => Pg.rowNamed t [101, 114, 114, 111, 114]) = [T_error] := by kernel_rfl
theorem door_size : Pg.types.size = 195 := by kernel_rfl
theorem handle_of_laid {W : World} (h : laidMetH Pg [("errors.errorType", Rows.laid_errors_errorType)] W) : Seq.LaidG W := by
  have h' : laidMet Pg [] W ∧ handlesMet Pg [("errors.errorType", Rows.laid_errors_errorType)] W := h
  obtain ⟨name, u, ty, e1, e2, e3, e4, e5⟩ := h'.2 _ (List.mem_singleton.2 rfl)
  have en : name = [101, 114, 114, 111, 114] := (Option.some.inj e1).symm
  subst en
  obtain rfl := Option.some.inj (door_rt.symm.trans e2)
  have hm : ty ∈ (List.range 195).filter fun t => Pg.rowNamed t [101, 114, 114, 111, 114] := List.mem_filter.2 ⟨List.mem_range.2 (by rw [← door_size]; exact e3), e4⟩
  rw [door_oneRow] at hm
  obtain rfl := List.mem_singleton.1 hm
  have hh : typeHandle Pg T_error = .pointer (some ⟨1, T_error, none⟩) := by kernel_rfl
  rw [hh] at e5
  simpa [Seq.LaidG] using World.var?_cell door_et e5 0
/-- A world that meets the condition: the settled one, the variable's cell laid. -/
noncomputable def laidWorld (os : Os) : World :=
  let w0 := World.holding Pg os ⟨#[], #[], []⟩
  { w0 with heap := w0.heap.modify 0 fun
      | .cells _ t frozen => .cells #[.iface T_reflectlite_rtype (.agg #[.pointer (some ⟨1, T_error, none⟩)])] t frozen
      | o => o }
theorem laidWorld_met (os : Os) (args : Array Value) : laidMetH Pg [("errors.errorType", Rows.laid_errors_errorType)] ((laidWorld os).forCall (fun _ _ => 0) ⟨#[], args, []⟩).memory :=
  laidMetH_of_parts (laidMet_nil _ _) (by kernel_rfl)
end Go.Proofs.YtaoemljoiahapaaGreatDoor
