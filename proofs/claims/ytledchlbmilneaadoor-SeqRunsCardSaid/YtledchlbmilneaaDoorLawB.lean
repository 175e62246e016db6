/-
A law's forest by some acts.
Conditions: those that each theorem states.
-/
import Derived.Test.YtledchlbmilneaaDoorLawA
import Derived.Test.YtledchlbmilneaaDoorShPlaitref04
import Derived.Laws.Bits64
namespace Go.Proofs.YtledchlbmilneaaDoor
open Go
set_option linter.unusedVariables false
set_option linter.unusedSimpArgs false
/-- A slice of records of sz ints each, as it reads. -/
def CA (w : World) (b : Option Addr) (l sz : Nat) (f : Nat → Nat → Int) : Prop :=
  l = 0 ∨ ∃ a, b = some a ∧ a.block < w.heap.size ∧ ∀ i k, i < l → k < sz → w.cell? ((a.add (i * sz)).add k) = some (.int .i64 (f i k))
theorem addr_add0 (a : Addr) : a.add 0 = a := rfl
theorem add_block (a : Addr) (k : Nat) : (a.add k).block = a.block := by unfold Addr.add; split <;> rfl
section
variable {w w' : World} {b : Option Addr} {l sz : Nat} {f : Nat → Nat → Int}
theorem CA.keep {S : Nat → Prop} (h : CA w b l sz f) (k : Chg S w w') (hS : ∀ g, g < w.heap.size → ¬ S g) : CA w' b l sz f := by
  refine h.imp id ?_
  rintro ⟨a, rfl, ha, hc⟩
  refine ⟨a, rfl, Nat.lt_of_lt_of_le ha k.size, fun i j hi hj => ?_⟩
  rw [← hc i j hi hj]
  refine Seq.cell_eq ?_
  rw [add_block, add_block]
  exact k.block _ ha (hS _ ha)
theorem CA.nob (h : CA w b l sz f) (k : Chg Nobody w w') : CA w' b l sz f := h.keep k (fun _ _ h => h)
theorem CA.drew (h : CA w b l sz f) : CA w.drew b l sz f := h
theorem CA.rd (h : CA w b l sz f) {i k : Nat} (hi : i < l) (hk : k < sz) {K : Int → Prop} (kk : K (f i k)) : ixS b l (i : Int) sz fun a => ldI .i64 (a.add k) w K := by
  rcases h with h0 | ⟨a, rfl, ha, hc⟩
  · omega
  · refine ⟨a, rfl, by omega, by omega, f i k, ?_, kk⟩
    have : (i : Int).toNat = i := by omega
    rw [this]; exact hc i k hi hk
theorem CA.rd0 (h : CA w b l sz f) {i : Nat} (hi : i < l) (hk : 0 < sz) {K : Int → Prop} (kk : K (f i 0)) : ixS b l (i : Int) sz fun a => ldI .i64 a w K := h.rd (k := 0) hi hk kk
end
/-- What falls within m numbers. -/
theorem idx_ex (x : Int) {m : Nat} (h0 : 0 < m) (hm : m ≤ 4611686018427387904) : (IntKind.wrap .u64 (m : Int)) ≠ 0 ∧ ∃ a : Nat, a < m ∧ IntKind.wrap .i64 (Int.tmod (IntKind.wrap .u64 x) (IntKind.wrap .u64 (m : Int))) = a := by
  have e1 : IntKind.wrap .u64 (m : Int) = m := by rw [IntKind.wrap_u64]; omega
  rw [e1]
  refine ⟨by omega, ?_⟩
  have hx : 0 ≤ IntKind.wrap .u64 x := by rw [IntKind.wrap_u64]; omega
  generalize IntKind.wrap .u64 x = y at hx
  have h1 := Int.tmod_nonneg (m : Int) hx
  have h2 := Int.tmod_lt_of_pos y (show (0 : Int) < m by omega)
  refine ⟨(Int.tmod y m).toNat, by omega, ?_⟩
  rw [IntKind.wrap_i64]; omega
namespace Seq
section
variable {w₀ w w' : World} {F L n : Nat} {v v' : Nat → Int} {q q' : List (List Nat)} {a b x : Nat}
theorem AF.find2 (k : AF w.heap F L n v q) (hx : a < n) (hy : b < n) : (∃ A q', q.Perm (A :: q') ∧ a ∈ A ∧ b ∈ A) ∨ ∃ A B q', q.Perm (A :: B :: q') ∧ a ∈ A ∧ b ∈ B ∧ b ∉ A := by
  obtain ⟨A, q', hp, ha⟩ := k.find hx
  by_cases hb : b ∈ A
  · exact .inl ⟨A, q', hp, ha, hb⟩
  · obtain ⟨_, _, _, _, _, hall⟩ := (k.perm hp).nodup
    obtain ⟨B, hB, hbB⟩ := hall b hy
    rcases List.mem_cons.1 hB with rfl | hB
    · exact absurd hbB hb
    · obtain ⟨q'', hq⟩ : ∃ q'', q'.Perm (B :: q'') := ⟨_, List.perm_cons_erase hB⟩
      exact .inr ⟨A, B, q'', hp.trans (hq.cons A), ha, hbB, hb⟩
theorem op_Cut (h : LS w₀ w F L n v q) (ha : a < n) : Calls Pg fn_seq_Forest_Cut #[.pointer (some ⟨F, 0, none⟩), .int .i64 a] w fun e w' => (∃ b, e = .returned (.tuple #[.bool b, errV 0])) ∧ ∃ q', LS w₀ w' F L n v q' := by
  obtain ⟨A, q', hp, hA⟩ := h.a.find ha
  have h := h.perm hp
  obtain ⟨pre, post, rfl⟩ := List.append_of_mem hA
  by_cases hpre : pre = []
  · subst hpre
    exact (c_Cut_no h.a).mono fun e w' ⟨he, hs⟩ => ⟨⟨_, he⟩, _, h.step hs⟩
  · exact (c_Cut_yes h.a hpre).mono fun e w' ⟨he, hs⟩ => ⟨⟨_, he⟩, _, h.step hs⟩
theorem op_Reverse (h : LS w₀ w F L n v q) (ha : a < n) : Calls Pg fn_seq_Forest_Reverse #[.pointer (some ⟨F, 0, none⟩), .int .i64 a] w fun e w' => e = .returned (errV 0) ∧ ∃ q', LS w₀ w' F L n v q' := by
  obtain ⟨A, q', hp, hA⟩ := h.a.find ha
  have h := h.perm hp
  exact (c_Reverse h.a hA).mono fun e w' ⟨he, hs⟩ => ⟨he, _, h.step hs⟩
theorem op_Set (h : LS w₀ w F L n v q) (ha : a < n) {z : Int} (hz : -9223372036854775808 ≤ z ∧ z ≤ 9223372036854775807) : Calls Pg fn_seq_Forest_Set #[.pointer (some ⟨F, 0, none⟩), .int .i64 a, .int .i64 z] w fun e w' => e = .returned (errV 0) ∧ ∃ q', LS w₀ w' F L n (upd v a z) q' := by
  obtain ⟨A, q', hp, hA⟩ := h.a.find ha
  have h := h.perm hp
  exact (c_Set h.a hA hz).mono fun e w' ⟨he, hs⟩ => ⟨he, _, h.step hs⟩
theorem op_Join (h : LS w₀ w F L n v q) (ha : a < n) (hb : b < n) : Calls Pg fn_seq_Forest_Join #[.pointer (some ⟨F, 0, none⟩), .int .i64 a, .int .i64 b] w fun e w' => (∃ c, e = .returned (errV c)) ∧ ∃ q', LS w₀ w' F L n v q' := by
  rcases h.a.find2 ha hb with ⟨A, q', hp, hA, hB⟩ | ⟨A, B, q', hp, hA, hB, _⟩
  · have h := h.perm hp
    exact (c_Join_no h.a hA hB).mono fun e w' ⟨he, hs⟩ => ⟨⟨_, he⟩, _, h.step hs⟩
  · have h := h.perm hp
    exact (c_Join h.a hA hB).mono fun e w' ⟨he, hs⟩ => ⟨⟨_, he⟩, _, h.step hs⟩
end
/-- Values as the acts leave them. -/
def Vb (v : Nat → Int) : Prop := ∀ x, -1099511627776 < v x ∧ v x < 1099511627776
end Seq
end Go.Proofs.YtledchlbmilneaaDoor
