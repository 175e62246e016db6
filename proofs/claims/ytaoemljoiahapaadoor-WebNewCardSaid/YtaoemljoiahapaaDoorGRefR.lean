/-
The reference of layer 5: lists, each a cycle's sequence.
Conditions: those that each theorem states.
-/
import Derived.Test.YtaoemljoiahapaaDoorGRef
import Derived.Test.YtaoemljoiahapaaDoorGRing
namespace Go.Proofs.YtaoemljoiahapaaDoor
open Go Go.RowKit
set_option linter.unusedVariables false
set_option linter.unusedSimpArgs false
namespace Seq
section
variable {w w' : World} {bad : Nat → Prop} {b : Option Addr} {l c i j k k2 x y : Nat} {X : List (List Nat)} {A A2 : List Nat}
/-- An own list as an element. -/
theorem El.of_own {wb : World} {ob : Option Addr} {oc : Nat} (ho : Own w wb.heap.size T_int 1 ob A.length oc (ivs A)) (h0 : 0 < A.length) (hbad : ∀ k, wb.heap.size ≤ k → ¬ bad k) :
    ∀ (w' : World) (bad' : Nat → Prop), Chg Nobody w w' → (∀ i, i < w.heap.size → bad' i → bad i) → El w' bad' (.slice ob A.length oc) A := by
  intro w' bad' hc hb
  have hia : IA w ob A.length (ints A) := IA.of_own ho (by simp [ivs, Function.comp_def])
  refine ⟨ob, oc, rfl, hia.nob hc, fun k hk hb' => ?_, ho.cap.1, h0⟩
  obtain ⟨h1, h2⟩ := ho.bk_lt hk
  exact hbad k h1 (hb k h2 hb')
end
end Seq
end Go.Proofs.YtaoemljoiahapaaDoor
/-
The reference of layer 5: a list split, an item taken out.
Conditions: those that each theorem states.
-/
namespace Go.Proofs.YtaoemljoiahapaaDoor
open Go Go.RowKit
set_option linter.unusedVariables false
set_option linter.unusedSimpArgs false
namespace Seq
section
variable {w w' : World} {bad : Nat → Prop} {b : Option Addr} {l c i j k k2 x y : Nat} {X : List (List Nat)} {A A2 mid rest : List Nat}
end
end Seq
end Go.Proofs.YtaoemljoiahapaaDoor
