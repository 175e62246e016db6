/-
The law SeqJoins: what is joined is the one list and then the other one.
Conditions: the package variable of errors is laid out; the acts can be read.
-/
import Derived.Test.YtledchlbmilneaaDoorLawLeast
namespace Go.Proofs.YtledchlbmilneaaDoor
open Go Go.RowKit
set_option linter.unusedVariables false
set_option linter.unusedSimpArgs false
namespace Seq
/-- What a slice of ints holds, behind an own slice. -/
theorem own_appendN {P : Program} {w : World} {base : Nat} {t e : TypeId} {by_ : Nat} {b sb : Option Addr} {l c sl sc : Nat} {xs : List Value} {A : List Int} (T : ET P t e 1 by_) (h : Own w base e 1 b l c xs) {ty : TypeId}
    (hs : IA w sb sl A) (hsl : 0 < sl) (hb : base ≤ w.heap.size) (hn : (l + sl) * by_ ≤ 140737488355328) (hm : l + sl ≤ 9223372036854775807) :
    ∃ b' c' w', (Builtin.append_ #[t, t] ty #[.slice b l c, .slice sb sl sc]).run P w = .ok (.slice b' (l + sl) c') w' ∧ Own w' base e 1 b' (l + sl) c' (xs ++ A.map (Value.int .i64)) ∧ Chg (fun k => bk b = some k) w w' ∧ (bk b' = bk b ∨ bk b' = some w.heap.size) := by
  obtain ⟨i, z, hi, hz, hsz, hby, hzs⟩ := T.info
  rcases hs.2 with h0 | ⟨g, o, e', cs, rfl, hr, hc⟩
  · omega
  have hA := hs.1
  obtain ⟨v', w', hr', ho, hg, _, hw⟩ := run_append_own_at w base t ty e i z 1 by_ T.und hi hz hsz hby hzs T.pos (.slice b l c) l xs h ⟨g, o, none⟩ sl sc (A.map (Value.int .i64)) (by simp [hA])
    (fun j u hu => by
      have hj : j < sl := by have := (List.getElem?_eq_some_iff.1 hu).1; simpa [hA] using this
      rw [add_mk, hr.cell, hc j hj, ← List.getElem?_map]; exact hu) (fun u hu => by obtain ⟨x, _, rfl⟩ := List.mem_map.1 hu; rfl) (by unfold maxLen; omega) hn hb
  have hv : ∃ b' c', v' = .slice b' (l + sl) c' := by
    rcases ho.2 with ⟨hv, hn⟩ | ⟨g, cap, cur, hv, _⟩
    · omega
    · exact ⟨_, _, hv⟩
  obtain ⟨b', c', rfl⟩ := hv
  rw [ownBlock_bk, ownBlock_bk] at hw
  refine ⟨b', c', w', hr', ho, ⟨hg.os, hg.tape, hg.output, hg.size, fun k hk hS => hg.block k hk ?_⟩, hw⟩
  rw [ownBlock_bk]; exact fun e => hS e.symm
end Seq
end Go.Proofs.YtledchlbmilneaaDoor
