/-
The law SeqTurns: a sequence turned round is its list the other way.
Conditions: the package variable of errors is laid out; the acts can be read.
-/
import Derived.Test.YtfhdnmeciohmlaaDoorLawB
namespace Go.Proofs.YtfhdnmeciohmlaaDoor
open Go
set_option linter.unusedVariables false
set_option linter.unusedSimpArgs false
theorem ixA_i {b o l sz : Nat} {i : Int} {K : Addr → Prop} (h : 0 ≤ i ∧ i < (l : Int)) (k : K ⟨b, o + i.toNat * sz, none⟩) : ixA ⟨b, o, none⟩ l i sz K := ⟨h.1, h.2, by rw [add_mk]; exact k⟩
theorem size_ex (x c k : Int) (h0 : 0 < k) (hc : 0 ≤ c) (hk : c ≤ 1000 ∧ k ≤ 1000) : ∃ m : Nat, c ≤ m ∧ m < c + k ∧ IntKind.wrap .i64 (c + IntKind.wrap .i64 (Int.tmod (IntKind.wrap .u64 x) k)) = m := by
  have hx : 0 ≤ IntKind.wrap .u64 x := by rw [IntKind.wrap_u64]; omega
  generalize IntKind.wrap .u64 x = y at hx
  have h1 := Int.tmod_nonneg k hx
  have h2 := Int.tmod_lt_of_pos y h0
  refine ⟨(c + Int.tmod y k).toNat, by omega, by omega, ?_⟩
  rw [IntKind.wrap_i64, IntKind.wrap_i64]; omega
namespace Seq
abbrev ints (A : List Nat) : List Int := A.map fun x : Nat => (x : Int)
section
variable {w₀ w w' : World} {F L n : Nat} {v v' : Nat → Int} {q q' : List (List Nat)} {A : List Nat} {a b x : Nat}
theorem IA.as {b : Option Addr} {l : Nat} {X : List Int} (h : IA w b l X) (hb : ∀ k, bk b = some k → L < k) (k : AS w w' F L n v q) : IA w' b l X :=
  h.keep k.chg (fun g hg (e : g = L) => by have := hb g hg; omega)
theorem op_List (h : LS w₀ w F L n v (A :: q)) (hx : x ∈ A) : Calls Pg fn_seq_Forest_List #[.pointer (some ⟨F, 0, none⟩), .int .i64 x] w fun e w' =>
    ∃ ob oc, e = .returned (.tuple #[.slice ob A.length oc, errV 0]) ∧ IA w' ob A.length (ints A) ∧ (∀ k, bk ob = some k → L < k) ∧ LS w₀ w' F L n v (A :: q) ∧ AS w w' F L n v (A :: q) := by
  refine (c_List h.a hx).mono ?_
  rintro e w' ⟨ob, oc, rfl, hown, has⟩
  refine ⟨ob, oc, rfl, IA.of_own hown (by simp [ivs]), fun k hk => ?_, h.step has, has⟩
  have := (hown.bk_lt hk).1
  have := h.a.lt
  omega
end
theorem c_SeqTurns {w : World} {n x y : Int} {sb : Option Addr} {sl sc : Nat} {f : Nat → Nat → Int} (hg : LaidG w) (hf : CA w sb sl 4 f) :
    Calls Pg fn_plaitlaw04_SeqTurns #[.int .i64 n, .slice sb sl sc, .agg #[.int .i64 x, .int .i64 y]] w fun e w' => e = .returned (.bool true) ∧ Chg Nobody w w' := by
  refine (calls_plaitlaw04_SeqTurns _ _ _ _ _ _ _ (fun v' w' => v' = .bool true ∧ Chg Nobody w w') ?_).mono (by rintro e w' ⟨v, rfl, rfl, k⟩; exact ⟨rfl, k⟩)
  unfold sh_plaitlaw04_SeqTurns
  refine alo_r fun hrow => ⟨by decide, ?_⟩
  have hch : Chg Nobody w (w.alloc (.cells #[.int .i64 x, .int .i64 y] T__2int)) := (Chg.refl _ _).alloc _
  have hg1 := hg.alloc (.cells #[.int .i64 x, .int .i64 y] T__2int)
  have hf1 := hf.nob hch
  generalize w.heap.size = B at *
  generalize w.alloc (.cells #[.int .i64 x, .int .i64 y] T__2int) = w1 at *
  obtain ⟨m, hm0, hm1, he⟩ := size_ex n 1 20 (by omega) (by omega) (by omega)
  rw [he]
  have hBlt := hrow.lt
  refine (c_built (by omega) (by omega) hf1).mono ?_
  rintro e w7 ⟨F, L, v, q, rfl, hs, hv⟩
  refine ⟨_, rfl, bif_i (fun h => by cases h) (fun _ => ?_)⟩
  have hr := hs.c.row (fun h => h) hrow
  refine ixA_i (i := 0) (by omega) ?_
  refine ldI_r hr rfl ?_
  obtain ⟨hz, a, ham, hae⟩ := idx_ex x (show 0 < m by omega) (by omega)
  refine ⟨hz, ?_⟩
  rw [hae]
  obtain ⟨A, q', hp, hA⟩ := hs.a.find ham
  have hs := hs.perm hp
  have hAn : A.length ≤ m := by
    obtain ⟨hnd, hlt, _⟩ := hs.a.nodup
    exact nodup_len (by simp only [List.flatten_cons, List.nodup_append] at hnd; exact hnd.1) (fun y hy => hlt A (by simp) y hy)
  have hA0 : 0 < A.length := List.length_pos_of_mem hA
  refine (op_List hs hA).mono ?_
  rintro e w13 ⟨xb, xc, rfl, hx, hxL, hs, _⟩
  refine ⟨_, _, _, _, rfl, ?_⟩
  refine (c_Sum hs.a hA).mono ?_
  rintro e w17 ⟨rfl, has⟩
  have hx := hx.as hxL has
  have hs := hs.step has
  refine ⟨_, _, rfl, ?_⟩
  refine ⟨fun _ w' => LS w1 w' F L m v (A.reverse :: q') ∧ IA w' xb A.length (ints A), ?_, ?_⟩
  · refine err_i (fun e => absurd rfl e) (fun _ => err_i (fun e => absurd rfl e) (fun _ => ?_))
    refine bif_i (fun h => ?_) (fun _ => ?_)
    · simp only [bne_iff_ne, ne_eq, bne_eq_false_iff_eq, Bool.not_eq_true, beq_iff_eq, beq_eq_false_iff_ne, decide_eq_true_eq, decide_eq_false_iff_not, Bool.not_eq_true', Bool.not_eq_false'] at h; omega
    refine (c_Reverse hs.a hA).mono ?_
    rintro e w21 ⟨rfl, has⟩
    exact ⟨_, rfl, err_i (fun e => absurd rfl e) (fun _ => ⟨hs.step has, hx.as hxL has⟩)⟩
  clear hs hx has
  rintro _ w23 ⟨hs, hx⟩
  have hAr : a ∈ A.reverse := by simpa using hA
  have hr := hs.c.row (fun h => h) hrow
  refine ixA_i (i := 1) (by omega) ?_
  refine ldI_r hr rfl ?_
  obtain ⟨hz, k, hkA, hke⟩ := idx_ex y hA0 (by omega)
  refine ⟨hz, ?_⟩
  rw [hke]
  refine (op_List hs hAr).mono ?_
  rintro e w28 ⟨yb, yc, rfl, hy, hyL, hs, has⟩
  have hx := hx.as hxL has
  refine ⟨_, _, _, _, rfl, ?_⟩
  refine (c_Sum hs.a hAr).mono ?_
  rintro e w32 ⟨rfl, has⟩
  have hs := hs.step has
  have hx := hx.as hxL has
  have hy := hy.as hyL has
  refine ⟨_, _, rfl, ?_⟩
  refine (c_At hs.a hAr (i := k) (by omega)).mono ?_
  rintro e w36 ⟨⟨z, hz⟩, has⟩
  have hs := hs.step has
  have hx := hx.as hxL has
  have hy := hy.as hyL has
  have hlr : A.reverse.length = A.length := by simp
  have hkk : (k : Int).toNat = k := by omega
  rcases hz with hz | ⟨hz, _⟩
  case inr => exact absurd ⟨by omega, by omega⟩ hz
  obtain ⟨_, hz, rfl⟩ := hz
  rw [hkk, List.getElem?_reverse hkA] at hz
  refine ⟨_, _, rfl, ?_⟩
  refine ⟨fun _ w' => LS w1 w' F L m v (A.reverse :: q') ∧ IA w' xb A.length (ints A) ∧ IA w' yb A.reverse.length (ints A.reverse), ?_, ?_⟩
  · refine err_i (fun e => absurd rfl e) (fun _ => err_i (fun e => absurd rfl e) (fun _ => err_i (fun e => absurd rfl e) (fun _ => ?_)))
    refine bif_i (fun h => ?_) (fun _ => bif_i (fun h => ?_) (fun _ => ?_))
    · simp only [bne_iff_ne, ne_eq, bne_eq_false_iff_eq, Bool.not_eq_true, beq_iff_eq, beq_eq_false_iff_ne, decide_eq_true_eq, decide_eq_false_iff_not, Bool.not_eq_true', Bool.not_eq_false'] at h
      exact absurd (by rw [vsum_perm v (List.reverse_perm A)]) h
    · simp only [bne_iff_ne, ne_eq, bne_eq_false_iff_eq, Bool.not_eq_true, beq_iff_eq, beq_eq_false_iff_ne, decide_eq_true_eq, decide_eq_false_iff_not, Bool.not_eq_true', Bool.not_eq_false'] at h; omega
    have e1 : IntKind.wrap .i64 (IntKind.wrap .i64 ((A.length : Int) - 1) - (k : Int)) = ((A.length - 1 - k : Nat) : Int) := by
      rw [wrap64_in (x := (A.length : Int) - 1) (by omega) (by omega), wrap64_in (by omega) (by omega)]; omega
    rw [e1]
    refine hx.rd (x := z) ?_ ?_
    · rw [List.getElem?_map, hz]; rfl
    · refine bif_i (fun h => ?_) (fun _ => ⟨hs, hx, hy⟩)
      simp only [bne_iff_ne, ne_eq, bne_eq_false_iff_eq, Bool.not_eq_true, beq_iff_eq, beq_eq_false_iff_ne, decide_eq_true_eq, decide_eq_false_iff_not, Bool.not_eq_true', Bool.not_eq_false'] at h; exact absurd trivial h
  clear hs hx hy has
  rintro _ w41 ⟨hs, hx, hy⟩
  let J : Nat → List Value → World → Prop := fun j vs w' => ∃ i : Nat, vs = [.int .i64 i] ∧ i ≤ A.length ∧ LS w1 w' F L m v (A.reverse :: q') ∧ IA w' xb A.length (ints A) ∧ IA w' yb A.reverse.length (ints A.reverse) ∧ j = A.length - i
  refine ⟨LI J, LM J, ⟨_, 0, rfl, by omega, hs, hx, hy, rfl⟩, ?_⟩
  clear hs hx hy
  intro _ n44 w45 hJ
  obtain ⟨i, hvs, hi, hs, hx, hy, hj⟩ := hJ.at
  simp only [List.cons.injEq, Value.int.injEq, and_true, true_and] at hvs
  subst hvs
  refine bif_i (fun hc => ?_) (fun hc => ?_) <;> simp only [bne_iff_ne, ne_eq, bne_eq_false_iff_eq, Bool.not_eq_true, beq_iff_eq, beq_eq_false_iff_ne, decide_eq_true_eq, decide_eq_false_iff_not, Bool.not_eq_true', Bool.not_eq_false'] at hc
  · have hiA : i < A.length := by omega
    have hrev : A.reverse[i]? = A[A.length - 1 - i]? := List.getElem?_reverse hiA
    obtain ⟨u, hu⟩ : ∃ u, A.reverse[i]? = some u := ⟨_, List.getElem?_eq_getElem (by omega)⟩
    refine hy.drew.rd (x := u) (by rw [List.getElem?_map, hu]; rfl) ?_
    have e1 : IntKind.wrap .i64 (IntKind.wrap .i64 ((A.length : Int) - 1) - (i : Int)) = ((A.length - 1 - i : Nat) : Int) := by
      rw [wrap64_in (x := (A.length : Int) - 1) (by omega) (by omega), wrap64_in (by omega) (by omega)]; omega
    rw [e1]
    refine hx.drew.rd (x := u) (by rw [List.getElem?_map, ← hrev, hu]; rfl) ?_
    refine bif_i (fun h => ?_) (fun _ => ?_)
    · simp only [bne_iff_ne, ne_eq, bne_eq_false_iff_eq, Bool.not_eq_true, beq_iff_eq, beq_eq_false_iff_ne, decide_eq_true_eq, decide_eq_false_iff_not, Bool.not_eq_true', Bool.not_eq_false'] at h; exact absurd trivial h
    · rw [wrap64_in (by omega) (by omega)]
      exact LI.again (k := A.length - (i + 1)) ⟨i + 1, rfl, by omega, hs.drew, hx.drew, hy.drew, rfl⟩ (by rw [hj]; omega)
  · refine (c_sure (hs.g hg1)).mono ?_
    rintro e w51 ⟨rfl, hc'⟩
    exact ⟨_, rfl, rfl, hch.trans (hs.nob hc').c⟩
end Seq
end Go.Proofs.YtfhdnmeciohmlaaDoor
