/-
The cycles of layer 5 over the sequences of layer 4; Go's slices.Index and slices.Concat.
Conditions: those that each theorem states.
-/
import Derived.Test.YtdamhidnlfjkdaaGreatDoorGLaw
import Derived.Test.YtdamhidnlfjkdaaGreatDoorGRef
import Derived.Test.YtdamhidnlfjkdaaGreatDoorShRing
import Derived.Test.YtdamhidnlfjkdaaGreatDoorShSlices
import Derived.Lib.AppendZeros
import Derived.Deep.Upon
namespace Go.Proofs.YtdamhidnlfjkdaaGreatDoor
open Go Go.RowKit
set_option linter.unusedVariables false
set_option linter.unusedSimpArgs false
namespace Seq
/-! ## slices.Index, slices.Grow, slices.Concat -/
end Seq
end Go.Proofs.YtdamhidnlfjkdaaGreatDoor
/-
The calls of layer 5.
Conditions: those that each theorem states.
-/
namespace Go.Proofs.YtdamhidnlfjkdaaGreatDoor
open Go Go.RowKit
set_option linter.unusedVariables false
set_option linter.unusedSimpArgs false
namespace Seq
/-- Cycles at block R, over the forest at F. -/
structure AR (h : Array Obj) (R F L n : Nat) (v : Nat → Int) (q : List (List Nat)) : Prop where
  r : Row h R T_ring_Rings [.pointer (some ⟨F, 0, none⟩)]
  a : AF h F L n v q
  nF : R ≠ F
  nL : R ≠ L
structure RS (w₀ w : World) (R F L n : Nat) (v : Nat → Int) (q : List (List Nat)) : Prop where
  s : AS w₀ w F L n v q
  r : Row w.heap R T_ring_Rings [.pointer (some ⟨F, 0, none⟩)]
  nF : R ≠ F
  nL : R ≠ L
section
variable {w₀ w w' : World} {R F L n a b x : Nat} {v v' : Nat → Int} {q q' : List (List Nat)} {A B pre post pra poa prb pob : List Nat}
theorem RS.ar (h : RS w₀ w R F L n v q) : AR w.heap R F L n v q := ⟨h.r, h.s.af, h.nF, h.nL⟩
theorem RS.chg (h : RS w₀ w R F L n v q) : Chg (· = L) w₀ w := h.s.chg
theorem AR.rs (h : AR w.heap R F L n v q) (k : AS w w' F L n v' q') : RS w w' R F L n v' q' := ⟨k, k.chg.row (fun e => h.nL e) h.r, h.nF, h.nL⟩
theorem RS.trans (h : RS w₀ w R F L n v q) (k : RS w w' R F L n v' q') : RS w₀ w' R F L n v' q' := ⟨h.s.trans k.s, k.r, k.nF, k.nL⟩
theorem RS.as (h : RS w₀ w R F L n v q) (k : AS w w' F L n v' q') : RS w₀ w' R F L n v' q' := h.trans (h.ar.rs k)
theorem AR.start (h : AR w.heap R F L n v q) : RS w w R F L n v q := ⟨h.a.start, h.r, h.nF, h.nL⟩
theorem AR.perm {h : Array Obj} (k : AR h R F L n v q) (p : q.Perm q') : AR h R F L n v q' := ⟨k.r, k.a.perm p, k.nF, k.nL⟩
theorem RS.perm (k : RS w₀ w R F L n v q) (p : q.Perm q') : RS w₀ w R F L n v q' := ⟨k.s.perm p, k.r, k.nF, k.nL⟩
theorem RS.drew (k : RS w₀ w R F L n v q) : RS w₀ w.drew R F L n v q := ⟨k.s.drew, k.r, k.nF, k.nL⟩
theorem RS.nob (h : RS w₀ w R F L n v q) (k : Chg Nobody w w') : RS w₀ w' R F L n v q := by
  obtain ⟨s, ts, a, b, c⟩ := h.s
  exact ⟨⟨s, ts, ⟨a.i.chg k (fun h => h) (fun h => h), a.c.trans' k (fun i hi => hi.elim), a.lt⟩, b, c⟩, k.row (fun h => h) h.r, h.nF, h.nL⟩
theorem AR.keep (h : AR w.heap R F L n v q) {S : Nat → Prop} (c : Chg S w w') (hR : ¬ S R) (hF : ¬ S F) (hL : ¬ S L) : AR w'.heap R F L n v q := ⟨c.row hR h.r, h.a.keep c hF hL, h.nF, h.nL⟩

/-! ## What is asked -/
/-! ## What is done -/
/-! ## Making, and rings that are none -/
theorem rg_New {n : Nat} (h1 : 1 ≤ n) (hn : n ≤ 8388608) :
    Calls Pg fn_ring_New #[.int .i64 n] w fun e w' => ∃ R F L, e = .returned (.tuple #[.pointer (some ⟨R, 0, none⟩), errV 0]) ∧ Chg Nobody w w' ∧ w.heap.size ≤ R ∧ w.heap.size ≤ F ∧ w.heap.size ≤ L ∧ AR w'.heap R F L n (fun _ => 0) (ones n) := by
  refine (calls_ring_New _ _ (fun v' w' => ∃ R F L, v' = .tuple #[.pointer (some ⟨R, 0, none⟩), errV 0] ∧ Chg Nobody w w' ∧ w.heap.size ≤ R ∧ w.heap.size ≤ F ∧ w.heap.size ≤ L ∧ AR w'.heap R F L n (fun _ => 0) (ones n)) ?_).mono (by rintro e w' ⟨v, rfl, R, F, L, rfl, k⟩; exact ⟨R, F, L, rfl, k⟩)
  unfold sh_ring_New
  refine (c_New h1 hn).mono ?_
  rintro e w3 ⟨F, L, rfl, hc, hF, hL, ha⟩
  refine ⟨_, _, rfl, err_i (fun e => absurd rfl e) (fun _ => ?_)⟩
  refine alo_r fun hrow => ?_
  have hlt := ha.lt
  exact ⟨w3.heap.size, F, L, rfl, hc.alloc _, hc.size, hF, hL, hrow, ha.alloc _, by omega, by omega⟩
end
end Seq
end Go.Proofs.YtdamhidnlfjkdaaGreatDoor
