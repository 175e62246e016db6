/-
What the laws' own helpers make: lists compared; what must come whatever the input is.
Conditions: the package variable of errors is laid out.
-/
import Derived.Test.YtledchlbmilneaaDoorLawNum
namespace Go.Proofs.YtledchlbmilneaaDoor
open Go
set_option linter.unusedVariables false
set_option linter.unusedSimpArgs false
namespace Seq
/-- A slice of ints as it reads. -/
def IA (w : World) (b : Option Addr) (l : Nat) (A : List Int) : Prop :=
  A.length = l ∧ (l = 0 ∨ ∃ g o e cs, b = some ⟨g, o, none⟩ ∧ Row w.heap g e cs ∧ ∀ i, i < l → cs[o + i]? = A[i]?.map (Value.int .i64))
section
variable {w w' : World} {b : Option Addr} {l c base : Nat} {A : List Int}
theorem IA.keep {S : Nat → Prop} (h : IA w b l A) (k : Chg S w w') (hS : ∀ g, bk b = some g → ¬ S g) : IA w' b l A := by
  obtain ⟨h1, h2⟩ := h
  refine ⟨h1, h2.imp id ?_⟩
  rintro ⟨g, o, e, cs, rfl, hr, hc⟩
  exact ⟨g, o, e, cs, rfl, k.row (hS g rfl) hr, hc⟩
theorem IA.nob (h : IA w b l A) (k : Chg Nobody w w') : IA w' b l A := h.keep k (fun _ _ h => h)
theorem IA.drew (h : IA w b l A) : IA w.drew b l A := h
theorem IA.alloc (h : IA w b l A) (o : Obj) : IA (w.alloc o) b l A := h.nob ((Chg.refl _ _).alloc o)
theorem IA.of_own {e : TypeId} {xs : List Value} (h : Own w base e 1 b l c xs) (hx : xs = A.map (Value.int .i64)) : IA w b l A := by
  have hl := h.len
  rw [hx, List.length_map, Nat.mul_one] at hl
  refine ⟨hl, ?_⟩
  by_cases h0 : l = 0
  · exact .inl h0
  · obtain ⟨g, cs, rfl, _, hr, ht, _, _⟩ := h.get (by omega)
    refine .inr ⟨g, 0, e, cs, rfl, hr, fun i hi => ?_⟩
    rw [Nat.zero_add, own_cell ht (by omega), hx, List.getElem?_map]
theorem IA.of_row {g : Nat} {e : TypeId} (r : Row w.heap g e (A.map (Value.int .i64))) : IA w (some ⟨g, 0, none⟩) A.length A :=
  ⟨rfl, .inr ⟨g, 0, e, _, rfl, r, fun i hi => by rw [Nat.zero_add, List.getElem?_map]⟩⟩
theorem IA.rd (h : IA w b l A) {i : Nat} {x : Int} (hx : A[i]? = some x) {K : Int → Prop} (k : K x) : ixS b l (i : Int) 1 fun a => ldI .i64 a w K := by
  have hi : i < l := by rw [← h.1]; exact (List.getElem?_eq_some_iff.1 hx).1
  rcases h.2 with h0 | ⟨g, o, e, cs, rfl, hr, hc⟩
  · omega
  · refine ixS_i hi (ldI_r hr ?_ k)
    rw [Nat.mul_one, hc i hi, hx]; rfl
end

theorem c_ints {w : World} {b1 b2 : Option Addr} {l1 c1 l2 c2 : Nat} {A B : List Int} (h1 : IA w b1 l1 A) (h2 : IA w b2 l2 B) (hl : l1 ≤ 4611686018427387904) :
    Calls Pg fn_plaitlaw04_ints #[.slice b1 l1 c1, .slice b2 l2 c2] w fun e w' => e = .returned (.bool (decide (A = B))) ∧ Chg Nobody w w' := by
  refine (calls_plaitlaw04_ints _ _ _ _ _ _ _ (fun v' w' => v' = .bool (decide (A = B)) ∧ Chg Nobody w w') ?_).mono (by rintro e w' ⟨v, rfl, rfl, k⟩; exact ⟨rfl, k⟩)
  unfold sh_plaitlaw04_ints
  refine bif_i (fun hc => ?_) (fun hc => ?_) <;> simp only [bne_iff_ne, ne_eq, bne_eq_false_iff_eq, Bool.not_eq_true, beq_iff_eq, beq_eq_false_iff_ne, decide_eq_true_eq, decide_eq_false_iff_not, Bool.not_eq_true', Bool.not_eq_false'] at hc
  · have : A ≠ B := by rintro rfl; exact hc (by rw [← h1.1, ← h2.1])
    rw [decide_eq_false this]
    exact ⟨rfl, Chg.refl _ _⟩
  · have hll : l1 = l2 := by omega
    subst hll
    let J : Nat → List Value → World → Prop := fun j vs w' => ∃ i : Nat, vs = [.int .i64 i] ∧ i ≤ l1 ∧ A.take i = B.take i ∧ Chg Nobody w w' ∧ j = l1 - i
    refine ⟨LI J, LM J, ⟨_, 0, rfl, by omega, by simp, Chg.refl _ _, rfl⟩, ?_⟩
    intro _ n4 w5 hJ
    obtain ⟨i, hvs, hi, hab, hch, hj⟩ := hJ.at
    simp only [List.cons.injEq, Value.int.injEq, and_true, true_and] at hvs
    subst hvs
    have hA := h1.1
    have hB := h2.1
    refine bif_i (fun hc => ?_) (fun hc => ?_) <;> simp only [bne_iff_ne, ne_eq, bne_eq_false_iff_eq, Bool.not_eq_true, beq_iff_eq, beq_eq_false_iff_ne, decide_eq_true_eq, decide_eq_false_iff_not, Bool.not_eq_true', Bool.not_eq_false'] at hc
    · have hiA : i < A.length := by omega
      have hiB : i < B.length := by omega
      refine (h1.nob hch).drew.rd (List.getElem?_eq_getElem hiA) ?_
      refine (h2.nob hch).drew.rd (List.getElem?_eq_getElem hiB) ?_
      refine bif_i (fun h => ?_) (fun h => ?_) <;> simp only [bne_iff_ne, ne_eq, bne_eq_false_iff_eq, Bool.not_eq_true, beq_iff_eq, beq_eq_false_iff_ne, decide_eq_true_eq, decide_eq_false_iff_not, Bool.not_eq_true', Bool.not_eq_false'] at h
      · have : A ≠ B := by rintro rfl; exact h rfl
        rw [decide_eq_false this]
        exact ⟨rfl, hch.drew⟩
      · rw [wrap64_in (by omega) (by omega)]
        refine LI.again (k := l1 - (i + 1)) ⟨i + 1, rfl, by omega, ?_, hch.drew, rfl⟩ (by rw [hj]; omega)
        rw [List.take_add_one, List.take_add_one, hab, List.getElem?_eq_getElem hiA, List.getElem?_eq_getElem hiB, h]
    · have : A = B := by
        rw [← List.take_of_length_le (l := A) (i := i) (by omega), hab, List.take_of_length_le (by omega)]
      rw [decide_eq_true this]
      exact ⟨rfl, hch⟩

/-- A law's forest: it stands, and of what stood before the law nothing was changed. -/
structure LS (w₀ w : World) (F L n : Nat) (v : Nat → Int) (q : List (List Nat)) : Prop where
  c : Chg Nobody w₀ w
  hF : w₀.heap.size ≤ F
  hL : w₀.heap.size ≤ L
  a : AF w.heap F L n v q
section
variable {w₀ w w' : World} {F L n : Nat} {v v' : Nat → Int} {q q' : List (List Nat)}
theorem LS.step (h : LS w₀ w F L n v q) (k : AS w w' F L n v' q') : LS w₀ w' F L n v' q' :=
  ⟨h.c.trans' k.chg (fun i e => by subst e; exact .inr h.hL), h.hF, h.hL, k.af⟩
theorem LS.nob (h : LS w₀ w F L n v q) (k : Chg Nobody w w') : LS w₀ w' F L n v q :=
  ⟨h.c.trans k, h.hF, h.hL, h.a.keep k (fun h => h) (fun h => h)⟩
theorem LS.alloc (h : LS w₀ w F L n v q) (o : Obj) : LS w₀ (w.alloc o) F L n v q := h.nob ((Chg.refl _ _).alloc o)
theorem LS.drew (h : LS w₀ w F L n v q) : LS w₀ w.drew F L n v q := h.nob (Chg.refl _ _).drew
theorem LS.perm (h : LS w₀ w F L n v q) (p : q.Perm q') : LS w₀ w F L n v q' := ⟨h.c, h.hF, h.hL, h.a.perm p⟩
theorem LS.g (h : LS w₀ w F L n v q) (k : LaidG w₀) : LaidG w := k.chg h.c (fun h => h)
end

theorem c_sure {w : World} (hg : LaidG w) : Calls Pg fn_plaitlaw04_sure #[] w fun e w' => e = .returned (.bool true) ∧ Chg Nobody w w' := by
  refine (calls_plaitlaw04_sure _ (fun v' w' => v' = .bool true ∧ Chg Nobody w w') ?_).mono (by rintro e w' ⟨v, rfl, rfl, k⟩; exact ⟨rfl, k⟩)
  unfold sh_plaitlaw04_sure
  refine (c_New (n := 3) (by omega) (by omega)).mono ?_
  rintro e w2 ⟨F, L, rfl, hc, hF, hL, ha⟩
  have hs : LS w w2 F L 3 (fun _ => 0) [[0], [1], [2]] := ⟨hc, hF, hL, ha⟩
  refine ⟨_, _, rfl, err_i (fun e => absurd rfl e) (fun _ => ?_)⟩
  refine bif_i (fun h => by cases h) (fun _ => ?_)
  refine (c_Join (a := 0) (b := 1) hs.a (by simp) (by simp)).mono ?_
  rintro e w5 ⟨rfl, has⟩
  have hs := hs.step has
  refine ⟨_, rfl, err_i (fun e => absurd rfl e) (fun _ => ?_)⟩
  refine (c_Join (a := 0) (b := 2) hs.a (by simp) (by simp)).mono ?_
  rintro e w8 ⟨rfl, has⟩
  have hs := hs.step has
  refine ⟨_, rfl, err_i (fun e => absurd rfl e) (fun _ => ?_)⟩
  refine (c_Reverse (x := 0) hs.a (by simp)).mono ?_
  rintro e w11 ⟨rfl, has⟩
  have hs := hs.step has
  refine ⟨_, rfl, err_i (fun e => absurd rfl e) (fun _ => ?_)⟩
  refine (c_List (x := 1) hs.a (by simp)).mono ?_
  rintro e w15 ⟨ob, oc, rfl, hown, has⟩
  have hs := hs.step has
  refine ⟨_, _, _, _, rfl, errV_isI _, ?_⟩
  rw [errV_nil]
  refine bif_i (fun _ => ?_) (fun h => by cases h)
  refine alo_r fun hrow => ?_
  have hs := hs.alloc (.cells #[.int .i64 2, .int .i64 1, .int .i64 0] T_int)
  have hia := (IA.of_own hown (A := [2, 1, 0]) rfl).alloc (.cells #[.int .i64 2, .int .i64 1, .int .i64 0] T_int)
  refine (c_ints hia (IA.of_row (A := [2, 1, 0]) hrow) (by simp)).mono ?_
  rintro e w20 ⟨rfl, hch⟩
  have hs := hs.nob hch
  refine ⟨_, rfl, ?_⟩
  rw [decide_eq_true rfl]
  refine bif_i (fun _ => ?_) (fun h => by cases h)
  refine (c_Join_no (a := 0) (b := 2) hs.a (by simp) (by simp)).mono ?_
  rintro e w23 ⟨rfl, has⟩
  have hs := hs.step has
  refine ⟨_, rfl, ?_⟩
  refine (c_num (hs.g hg)).mono ?_
  rintro e w26 ⟨rfl, hch⟩
  have hs := hs.nob hch
  exact ⟨_, rfl, rfl, hs.c⟩
end Seq
end Go.Proofs.YtledchlbmilneaaDoor
