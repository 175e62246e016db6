/-
The law SeqRuns' own helper: all that is told of an item's sequence.
Conditions: those that each theorem states.
-/
import Derived.Test.YtaoemljoiahapaaDoorGRef
namespace Go.Proofs.YtaoemljoiahapaaDoor
open Go Go.RowKit
set_option linter.unusedVariables false
set_option linter.unusedSimpArgs false
namespace Seq
theorem len_flat {X : List (List Nat)} (h : ∀ A ∈ X, A ≠ []) : X.length ≤ X.flatten.length := by
  induction X with
  | nil => simp
  | cons A X ih =>
    have h1 := List.length_pos_iff.2 (h A (by simp))
    have h2 := ih (fun B hB => h B (by simp [hB]))
    simp only [List.length_cons, List.flatten_cons, List.length_append]
    omega
theorem mem_len {X : List (List Nat)} {A : List Nat} (h : A ∈ X) : A.length ≤ X.flatten.length := by
  induction X with
  | nil => cases h
  | cons B X ih =>
    simp only [List.flatten_cons, List.length_append]
    rcases List.mem_cons.1 h with rfl | h
    · omega
    · have := ih h; omega
structure Small (m : Nat) (X : List (List Nat)) : Prop where
  nd : X.flatten.Nodup
  lt : ∀ A ∈ X, ∀ x ∈ A, x < m
  ne : ∀ A ∈ X, A ≠ []
  len : X.length ≤ m
  each : ∀ A ∈ X, A.length ≤ m
  all : ∀ x, x < m → ∃ A ∈ X, x ∈ A
  m : m ≤ 8388608
theorem LS.small {w₀ w : World} {F L n : Nat} {v : Nat → Int} {X : List (List Nat)} (h : LS w₀ w F L n v X) : Small n X := by
  obtain ⟨h1, h2, h3, _, h5, h6⟩ := h.a.nodup
  have hl : X.flatten.length ≤ n := nodup_len h1 (fun y hy => by obtain ⟨A, hA, hy⟩ := List.mem_flatten.1 hy; exact h2 A hA y hy)
  exact ⟨h1, h2, h3, Nat.le_trans (len_flat h3) hl, fun A hA => Nat.le_trans (mem_len hA) hl, h6, h5⟩
end Seq
end Go.Proofs.YtaoemljoiahapaaDoor
/-
The law SeqRuns: whatever is joined, cut, turned and set, all that is told of each sequence is what lists tell.
Conditions: the package variable of errors is laid out; the acts can be read.
-/
namespace Go.Proofs.YtaoemljoiahapaaDoor
open Go Go.RowKit
set_option linter.unusedVariables false
set_option linter.unusedSimpArgs false
namespace Seq
/-- What stands between two steps: the forest, the lists, the values. -/
structure RP (w₀ w : World) (F L m B : Nat) (bad : Nat → Prop) (v : Nat → Int) (X : List (List Nat)) (b : Option Addr) (l : Nat) : Prop where
  s : LS w₀ w F L m v X
  r : RF w bad b l X
  v : Row w.heap B T_int64 (nums m v)
  bL : bad L
  bB : bad B
  hbad : ∀ k, w.heap.size ≤ k → ¬ bad k
  nL : B ≠ L
  new : w₀.heap.size ≤ B
  nF : F ≠ B
section
variable {w₀ w w' : World} {F L m B : Nat} {bad bad' : Nat → Prop} {v v' : Nat → Int} {X X' : List (List Nat)} {b b' : Option Addr} {l l' c : Nat}
theorem RP.nob (h : RP w₀ w F L m B bad v X b l) (k : Chg Nobody w w') : RP w₀ w' F L m B bad v X b l :=
  ⟨h.s.nob k, h.r.nob k, k.row (fun h => h) h.v, h.bL, h.bB, fun i hi => h.hbad i (Nat.le_trans k.size hi), h.nL, h.new, h.nF⟩
/-- A call of the forest's. -/
theorem RP.as (h : RP w₀ w F L m B bad v X b l) (p : X.Perm X') (k : AS w w' F L m v X') : RP w₀ w' F L m B bad v X b l :=
  ⟨(h.s.step k).perm p.symm, h.r.keep k.chg (fun i e => by rw [e]; exact h.bL), k.chg.row h.nL h.v, h.bL, h.bB, fun i hi => h.hbad i (Nat.le_trans k.chg.size hi), h.nL, h.new, h.nF⟩
end
theorem Small.at {m : Nat} {X : List (List Nat)} (h : Small m X) {x : Nat} (hx : x < m) : ∃ (i : Nat) (A : List Nat) (k : Nat), X[i]? = some A ∧ A[k]? = some x := by
  obtain ⟨A, hA, hxA⟩ := h.all x hx
  obtain ⟨i, hi⟩ := List.getElem?_of_mem hA
  obtain ⟨k, hk⟩ := List.getElem?_of_mem hxA
  exact ⟨i, A, k, hi, hk⟩
end Seq
end Go.Proofs.YtaoemljoiahapaaDoor
