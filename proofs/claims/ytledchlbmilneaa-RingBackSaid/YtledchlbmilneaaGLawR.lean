/-
What the laws' own helpers of layer 05 make: an error's number, lists compared.
Conditions: the package variable of errors is laid out.
-/
import Derived.Test.YtledchlbmilneaaGLaw
import Derived.Test.YtledchlbmilneaaShPlaitlaw05
import Derived.Test.YtledchlbmilneaaGRing
namespace Go.Proofs.Ytledchlbmilneaa
open Go
set_option linter.unusedVariables false
set_option linter.unusedSimpArgs false
namespace Seq
theorem c_ints05 {w : World} {b1 b2 : Option Addr} {l1 c1 l2 c2 : Nat} {A B : List Int} (h1 : IA w b1 l1 A) (h2 : IA w b2 l2 B) (hl : l1 ≤ 4611686018427387904) :
    Calls Pg fn_plaitlaw05_ints #[.slice b1 l1 c1, .slice b2 l2 c2] w fun e w' => e = .returned (.bool (decide (A = B))) ∧ Chg Nobody w w' := by
  refine (calls_plaitlaw05_ints _ _ _ _ _ _ _ (fun v' w' => v' = .bool (decide (A = B)) ∧ Chg Nobody w w') ?_).mono (by rintro e w' ⟨v, rfl, rfl, k⟩; exact ⟨rfl, k⟩)
  unfold sh_plaitlaw05_ints
  refine bif_i (fun hc => ?_) (fun hc => ?_) <;> simp only [b1s] at hc
  · have : A ≠ B := by rintro rfl; exact hc (by rw [← h1.1, ← h2.1])
    rw [decide_eq_false this]
    exact ⟨rfl, Chg.refl _ _⟩
  · have hll : l1 = l2 := by omega
    subst hll
    let J : Nat → List Value → World → Prop := fun j vs w' => ∃ i : Nat, vs = [.int .i64 i] ∧ i ≤ l1 ∧ A.take i = B.take i ∧ Chg Nobody w w' ∧ j = l1 - i
    refine ⟨LI J, LM J, ⟨_, 0, rfl, by omega, by simp, Chg.refl _ _, rfl⟩, ?_⟩
    intro _ n4 w5 hJ
    obtain ⟨i, hvs, hi, hab, hch, hj⟩ := hJ.at
    simp only [List.cons.injEq, Value.int.injEq, and_true, true_and] at hvs
    subst hvs
    have hA := h1.1
    have hB := h2.1
    refine bif_i (fun hc => ?_) (fun hc => ?_) <;> simp only [b1s] at hc
    · have hiA : i < A.length := by omega
      have hiB : i < B.length := by omega
      refine (h1.nob hch).drew.rd (List.getElem?_eq_getElem hiA) ?_
      refine (h2.nob hch).drew.rd (List.getElem?_eq_getElem hiB) ?_
      refine bif_i (fun h => ?_) (fun h => ?_) <;> simp only [b1s] at h
      · have : A ≠ B := by rintro rfl; exact h rfl
        rw [decide_eq_false this]
        exact ⟨rfl, hch.drew⟩
      · rw [wrap64_in (by omega) (by omega)]
        refine LI.again (k := l1 - (i + 1)) ⟨i + 1, rfl, by omega, ?_, hch.drew, rfl⟩ (by rw [hj]; omega)
        rw [List.take_add_one, List.take_add_one, hab, List.getElem?_eq_getElem hiA, List.getElem?_eq_getElem hiB, h]
    · have : A = B := by
        rw [← List.take_of_length_le (l := A) (i := i) (by omega), hab, List.take_of_length_le (by omega)]
      rw [decide_eq_true this]
      exact ⟨rfl, hch⟩

end Seq
end Go.Proofs.Ytledchlbmilneaa
/-
A law's cycles: by some acts; what must come whatever the input is.
Conditions: those that each theorem states.
-/
namespace Go.Proofs.Ytledchlbmilneaa
open Go Go.RowKit
set_option linter.unusedVariables false
set_option linter.unusedSimpArgs false
namespace Seq
/-- A law's cycles: they stand, and of what stood before the law nothing was changed. -/
structure LR (w₀ w : World) (R F L n : Nat) (v : Nat → Int) (q : List (List Nat)) : Prop where
  c : Chg Nobody w₀ w
  hR : w₀.heap.size ≤ R
  hF : w₀.heap.size ≤ F
  hL : w₀.heap.size ≤ L
  a : AR w.heap R F L n v q
section
variable {w₀ w w' : World} {R F L n a b x : Nat} {v v' : Nat → Int} {q q' : List (List Nat)} {A : List Nat}
theorem LR.step (h : LR w₀ w R F L n v q) (k : RS w w' R F L n v' q') : LR w₀ w' R F L n v' q' :=
  ⟨h.c.trans' k.chg (fun i e => by subst e; exact .inr h.hL), h.hR, h.hF, h.hL, k.ar⟩
theorem LR.nob (h : LR w₀ w R F L n v q) (k : Chg Nobody w w') : LR w₀ w' R F L n v q :=
  ⟨h.c.trans k, h.hR, h.hF, h.hL, h.a.keep k (fun h => h) (fun h => h) (fun h => h)⟩
theorem LR.alloc (h : LR w₀ w R F L n v q) (o : Obj) : LR w₀ (w.alloc o) R F L n v q := h.nob ((Chg.refl _ _).alloc o)
theorem LR.drew (h : LR w₀ w R F L n v q) : LR w₀ w.drew R F L n v q := h.nob (Chg.refl _ _).drew
theorem LR.perm (h : LR w₀ w R F L n v q) (p : q.Perm q') : LR w₀ w R F L n v q' := ⟨h.c, h.hR, h.hF, h.hL, h.a.perm p⟩
theorem IA.rs {bb : Option Addr} {l : Nat} {X : List Int} (h : IA w bb l X) (hb : ∀ k, bk bb = some k → k ≠ L) (k : RS w w' R F L n v q) : IA w' bb l X :=
  h.keep k.chg (fun g hg (e : g = L) => hb g hg e)
theorem op_rSplit (h : LR w₀ w R F L n v q) (ha : a < n) (hb : b < n) : Calls Pg fn_ring_Rings_Split #[.pointer (some ⟨R, 0, none⟩), .int .i64 a, .int .i64 b] w fun e w' => (∃ c, e = .returned (errV c)) ∧ ∃ q', LR w₀ w' R F L n v q' := by
  rcases h.a.a.find2 ha hb with ⟨A, q', hp, hA, hB⟩ | ⟨A, B, q', hp, hA, hB, _⟩
  · have h := h.perm hp
    by_cases e : a = b
    · subst e
      exact (rg_Split_same h.a hA).mono fun e w' ⟨he, hs⟩ => ⟨⟨_, he⟩, _, h.step hs⟩
    · obtain ⟨pre, post, rfl⟩ := List.append_of_mem hA
      have hm : b ∈ post ++ pre := by
        simp only [List.mem_append, List.mem_cons] at hB ⊢
        rcases hB with h | h | h
        · exact .inr h
        · exact absurd h.symm e
        · exact .inl h
      obtain ⟨mid, rest, hs⟩ := List.append_of_mem hm
      exact (rg_Split h.a hs).mono fun e w' ⟨he, hs⟩ => ⟨⟨_, he⟩, _, h.step hs⟩
  · have h := h.perm hp
    exact (rg_Split_apart h.a hA hB).mono fun e w' ⟨he, hs⟩ => ⟨⟨_, he⟩, _, h.step hs⟩
theorem op_rMerge (h : LR w₀ w R F L n v q) (ha : a < n) (hb : b < n) : Calls Pg fn_ring_Rings_Merge #[.pointer (some ⟨R, 0, none⟩), .int .i64 a, .int .i64 b] w fun e w' => (∃ c, e = .returned (errV c)) ∧ ∃ q', LR w₀ w' R F L n v q' := by
  rcases h.a.a.find2 ha hb with ⟨A, q', hp, hA, hB⟩ | ⟨A, B, q', hp, hA, hB, _⟩
  · have h := h.perm hp
    exact (rg_Merge_same h.a hA hB).mono fun e w' ⟨he, hs⟩ => ⟨⟨_, he⟩, _, h.step hs⟩
  · have h := h.perm hp
    obtain ⟨pra, poa, rfl⟩ := List.append_of_mem hA
    obtain ⟨prb, pob, rfl⟩ := List.append_of_mem hB
    exact (rg_Merge h.a).mono fun e w' ⟨he, hs⟩ => ⟨⟨_, he⟩, _, h.step hs⟩
/-- A walk's slice: own, so untouched by what the cycles do. -/
theorem op_Walk {pre post : List Nat} (h : LR w₀ w R F L n v ((pre ++ x :: post) :: q)) : Calls Pg fn_ring_Rings_Walk #[.pointer (some ⟨R, 0, none⟩), .int .i64 x] w fun e w' =>
    ∃ ob oc, e = .returned (.tuple #[.slice ob (pre ++ x :: post).length oc, errV 0]) ∧ IA w' ob (pre ++ x :: post).length (ints (x :: post ++ pre)) ∧ (∀ k, bk ob = some k → w.heap.size ≤ k) ∧ (pre ++ x :: post).length ≤ oc ∧ LR w₀ w' R F L n v ((pre ++ x :: post) :: q) ∧ RS w w' R F L n v ((pre ++ x :: post) :: q) := by
  refine (rg_Walk h.a).mono ?_
  rintro e w' ⟨ob, oc, rfl, hown, hrs⟩
  exact ⟨ob, oc, rfl, IA.of_own hown (by simp [ivs, Function.comp_def]), fun k hk => (hown.bk_lt hk).1, hown.cap.1, h.step hrs, hrs⟩
end
theorem c_sure05 {w : World} : Calls Pg fn_plaitlaw05_sure #[] w fun e w' => e = .returned (.bool true) ∧ Chg Nobody w w' := by
  refine (calls_plaitlaw05_sure _ (fun v' w' => v' = .bool true ∧ Chg Nobody w w') ?_).mono (by rintro e w' ⟨v, rfl, rfl, k⟩; exact ⟨rfl, k⟩)
  unfold sh_plaitlaw05_sure
  refine (rg_New (n := 3) (by omega) (by omega)).mono ?_
  rintro e w2 ⟨R, F, L, rfl, hc, hR, hF, hL, ha⟩
  have hs : LR w w2 R F L 3 (fun _ => 0) [[] ++ 0 :: [], [] ++ 1 :: [], [2]] := ⟨hc, hR, hF, hL, ha⟩
  refine ⟨_, _, rfl, err_i (fun e => absurd rfl e) (fun _ => ?_)⟩
  refine bif_i (fun h => by cases h) (fun _ => ?_)
  refine (rg_Merge (a := 0) (b := 1) hs.a).mono ?_
  rintro e w5 ⟨rfl, hrs⟩
  have hs : LR w w5 R F L 3 (fun _ => 0) [[] ++ 0 :: [1], [] ++ 2 :: []] := hs.step hrs
  refine ⟨_, rfl, err_i (fun e => absurd rfl e) (fun _ => ?_)⟩
  refine (rg_Merge (a := 0) (b := 2) hs.a).mono ?_
  rintro e w8 ⟨rfl, hrs⟩
  have hs : LR w w8 R F L 3 (fun _ => 0) [[] ++ 0 :: [1, 2]] := hs.step hrs
  refine ⟨_, rfl, err_i (fun e => absurd rfl e) (fun _ => ?_)⟩
  refine (rg_Split (a := 0) (b := 2) (mid := [1]) (rest := []) hs.a rfl).mono ?_
  rintro e w11 ⟨rfl, hrs⟩
  have hs : LR w w11 R F L 3 (fun _ => 0) [[0] ++ 1 :: [], [2]] := hs.step hrs
  refine ⟨_, rfl, err_i (fun e => absurd rfl e) (fun _ => ?_)⟩
  refine (op_Walk hs).mono ?_
  rintro e w15 ⟨ob, oc, rfl, hia, _, _, hs, _⟩
  refine ⟨_, _, _, _, rfl, errV_isI _, ?_⟩
  rw [errV_nil]
  refine bif_i (fun _ => ?_) (fun h => by cases h)
  refine alo_r fun hrow => ?_
  have hs := hs.alloc (.cells #[.int .i64 1, .int .i64 0] T_int)
  refine (c_ints05 (hia.alloc (.cells #[.int .i64 1, .int .i64 0] T_int)) (IA.of_row (A := [1, 0]) hrow) (by simp)).mono ?_
  rintro e w20 ⟨rfl, hch⟩
  exact ⟨_, rfl, by simp [ints], hs.c.trans hch⟩
end Seq
end Go.Proofs.Ytledchlbmilneaa
