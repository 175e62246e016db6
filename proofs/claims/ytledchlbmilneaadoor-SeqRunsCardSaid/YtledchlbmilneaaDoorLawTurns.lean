/-
The law SeqTurns: a sequence turned round is its list the other way.
Conditions: the package variable of errors is laid out; the acts can be read.
-/
import Derived.Test.YtledchlbmilneaaDoorLawB
namespace Go.Proofs.YtledchlbmilneaaDoor
open Go
set_option linter.unusedVariables false
set_option linter.unusedSimpArgs false
theorem ixA_i {b o l sz : Nat} {i : Int} {K : Addr → Prop} (h : 0 ≤ i ∧ i < (l : Int)) (k : K ⟨b, o + i.toNat * sz, none⟩) : ixA ⟨b, o, none⟩ l i sz K := ⟨h.1, h.2, by rw [add_mk]; exact k⟩
theorem size_ex (x c k : Int) (h0 : 0 < k) (hc : 0 ≤ c) (hk : c ≤ 1000 ∧ k ≤ 1000) : ∃ m : Nat, c ≤ m ∧ m < c + k ∧ IntKind.wrap .i64 (c + IntKind.wrap .i64 (Int.tmod (IntKind.wrap .u64 x) k)) = m := by
  have hx : 0 ≤ IntKind.wrap .u64 x := by rw [IntKind.wrap_u64]; omega
  generalize IntKind.wrap .u64 x = y at hx
  have h1 := Int.tmod_nonneg k hx
  have h2 := Int.tmod_lt_of_pos y h0
  refine ⟨(c + Int.tmod y k).toNat, by omega, by omega, ?_⟩
  rw [IntKind.wrap_i64, IntKind.wrap_i64]; omega
namespace Seq
abbrev ints (A : List Nat) : List Int := A.map fun x : Nat => (x : Int)
section
variable {w₀ w w' : World} {F L n : Nat} {v v' : Nat → Int} {q q' : List (List Nat)} {A : List Nat} {a b x : Nat}
theorem IA.as {b : Option Addr} {l : Nat} {X : List Int} (h : IA w b l X) (hb : ∀ k, bk b = some k → L < k) (k : AS w w' F L n v q) : IA w' b l X :=
  h.keep k.chg (fun g hg (e : g = L) => by have := hb g hg; omega)
theorem op_List (h : LS w₀ w F L n v (A :: q)) (hx : x ∈ A) : Calls Pg fn_seq_Forest_List #[.pointer (some ⟨F, 0, none⟩), .int .i64 x] w fun e w' =>
    ∃ ob oc, e = .returned (.tuple #[.slice ob A.length oc, errV 0]) ∧ IA w' ob A.length (ints A) ∧ (∀ k, bk ob = some k → L < k) ∧ LS w₀ w' F L n v (A :: q) ∧ AS w w' F L n v (A :: q) := by
  refine (c_List h.a hx).mono ?_
  rintro e w' ⟨ob, oc, rfl, hown, has⟩
  refine ⟨ob, oc, rfl, IA.of_own hown (by simp [ivs]), fun k hk => ?_, h.step has, has⟩
  have := (hown.bk_lt hk).1
  have := h.a.lt
  omega
end
end Seq
end Go.Proofs.YtledchlbmilneaaDoor
