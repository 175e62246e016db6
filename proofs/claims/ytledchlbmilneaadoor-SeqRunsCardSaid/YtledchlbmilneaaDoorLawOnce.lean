/-
The law SeqOnce: each item stands in just one sequence, at its rank.
Conditions: the package variable of errors is laid out; the acts can be read.
-/
import Derived.Test.YtledchlbmilneaaDoorLawTwice
namespace Go.Proofs.YtledchlbmilneaaDoor
open Go
set_option linter.unusedVariables false
set_option linter.unusedSimpArgs false
namespace Seq
theorem map_set {α : Type} {m u : Nat} (g : Nat → α) (y : α) : ((List.range m).map g).set u y = (List.range m).map (upd g u y) := by
  apply List.ext_getElem?
  intro i
  rw [List.getElem?_set, List.getElem?_map, List.getElem?_map]
  by_cases hi : i < m
  · rw [List.getElem?_range hi]
    by_cases h : u = i
    · subst h; simp [hi, upd]
    · rw [if_neg h]; simp only [Option.map_some, Option.some.injEq]; rw [upd_ne _ _ (fun e => h e.symm)]
  · have : (List.range m)[i]? = none := by simp; omega
    rw [this]
    by_cases h : u = i
    · subst h; simp; omega
    · rw [if_neg h]; rfl
/-- Numbers in a row. -/
abbrev nums (m : Nat) (c : Nat → Int) : List Value := (List.range m).map fun j => .int .i64 (c j)
theorem nums_set {m u : Nat} (c : Nat → Int) (y : Int) : (nums m c).set u (.int .i64 y) = nums m (upd c u y) := by
  unfold nums
  rw [map_set]
  congr 1
  funext j
  unfold upd
  split <;> rfl
theorem nums_get {m u : Nat} {c : Nat → Int} (h : u < m) : (nums m c)[u]? = some (.int .i64 (c u)) := by
  unfold nums; rw [List.getElem?_map, List.getElem?_range h]; rfl
section
variable {w₀ w w' : World} {F L n B : Nat} {v v' : Nat → Int} {q q' : List (List Nat)} {A : List Nat} {x : Nat}
theorem LS.put (h : LS w₀ w F L n v q) (c : Chg (· = B) w w') (hB : w₀.heap.size ≤ B) (hF : F ≠ B) (hL : L ≠ B) : LS w₀ w' F L n v q :=
  ⟨h.c.trans' c (fun i e => by subst e; exact .inr hB), h.hF, h.hL, h.a.keep c hF hL⟩
theorem op_List2 (h : LS w₀ w F L n v (A :: q)) (hx : x ∈ A) : Calls Pg fn_seq_Forest_List #[.pointer (some ⟨F, 0, none⟩), .int .i64 x] w fun e w' =>
    ∃ ob oc, e = .returned (.tuple #[.slice ob A.length oc, errV 0]) ∧ IA w' ob A.length (ints A) ∧ (∀ k, bk ob = some k → w.heap.size ≤ k) ∧ LS w₀ w' F L n v (A :: q) ∧ AS w w' F L n v (A :: q) := by
  refine (c_List h.a hx).mono ?_
  rintro e w' ⟨ob, oc, rfl, hown, has⟩
  exact ⟨ob, oc, rfl, IA.of_own hown (by simp [ivs]), fun k hk => (hown.bk_lt hk).1, h.step has, has⟩
end
/-- Item j's sequence has an item below x. -/
def Tc (q : List (List Nat)) (x j : Nat) : Prop := ∃ A ∈ q, j ∈ A ∧ ∃ y ∈ A, y < x
open Classical in
noncomputable def seenC (q : List (List Nat)) (x : Nat) (l : List Nat) (j : Nat) : Int := if Tc q x j ∨ j ∈ l then 1 else 0
theorem seenC_congr {q : List (List Nat)} {x y j : Nat} {l l' : List Nat} (h : (Tc q x j ∨ j ∈ l) ↔ (Tc q y j ∨ j ∈ l')) : seenC q x l j = seenC q y l' j := by
  unfold seenC
  by_cases hp : Tc q x j ∨ j ∈ l
  · rw [if_pos hp, if_pos (h.1 hp)]
  · rw [if_neg hp, if_neg (fun hq => hp (h.2 hq))]
theorem flat_uniq {q : List (List Nat)} (h : q.flatten.Nodup) {A B : List Nat} {x : Nat} (hA : A ∈ q) (hB : B ∈ q) (h1 : x ∈ A) (h2 : x ∈ B) : A = B := by
  induction q with
  | nil => cases hA
  | cons C q ih =>
    simp only [List.flatten_cons, List.nodup_append] at h
    obtain ⟨_, hq, hd⟩ := h
    rcases List.mem_cons.1 hA with rfl | hA'
    · rcases List.mem_cons.1 hB with rfl | hB
      · rfl
      · exact absurd rfl (hd x h1 x (List.mem_flatten.2 ⟨B, hB, h2⟩))
    · rcases List.mem_cons.1 hB with rfl | hB
      · exact absurd rfl (hd x h2 x (List.mem_flatten.2 ⟨A, hA', h1⟩))
      · exact ih hq hA' hB
section
variable {q : List (List Nat)} {A : List Nat} {x k u : Nat}
theorem Tc.skip (h : q.flatten.Nodup) (hT : Tc q x x) : seenC q (x + 1) [] = seenC q x [] := by
  funext j
  have : Tc q (x + 1) j ↔ Tc q x j := by
    constructor
    · rintro ⟨A, hA, hj, y, hy, hlt⟩
      by_cases e : y < x
      · exact ⟨A, hA, hj, y, hy, e⟩
      · have e : y = x := by omega
        subst e
        obtain ⟨A', hA', hx', y', hy', hlt'⟩ := hT
        have := flat_uniq h hA hA' hy hx'
        subst this
        exact ⟨A, hA, hj, y', hy', hlt'⟩
    · rintro ⟨A, hA, hj, y, hy, hlt⟩
      exact ⟨A, hA, hj, y, hy, by omega⟩
  exact seenC_congr (or_congr this Iff.rfl)
theorem Tc.fresh (h : q.flatten.Nodup) (hA : A ∈ q) (hx : x ∈ A) : seenC q (x + 1) [] = seenC q x A := by
  funext j
  have : (Tc q (x + 1) j ∨ j ∈ ([] : List Nat)) ↔ (Tc q x j ∨ j ∈ A) := by
    constructor
    · rintro (⟨A', hA', hj, y, hy, hlt⟩ | h)
      · by_cases e : y < x
        · exact .inl ⟨A', hA', hj, y, hy, e⟩
        · have e : y = x := by omega
          subst e
          have := flat_uniq h hA hA' hx hy
          subst this
          exact .inr hj
      · cases h
    · rintro (⟨A', hA', hj, y, hy, hlt⟩ | hj)
      · exact .inl ⟨A', hA', hj, y, hy, by omega⟩
      · exact .inl ⟨A, hA, hj, x, hx, by omega⟩
  exact seenC_congr this
theorem Tc.zero (h : q.flatten.Nodup) (hA : A ∈ q) (hx : x ∈ A) (hT : ¬ Tc q x x) (hn : A.Nodup) (hu : A[k]? = some u) : seenC q x (A.take k) u = 0 := by
  unfold seenC
  rw [if_neg]
  rintro (⟨A', hA', hj, y, hy, hlt⟩ | hj)
  · have := flat_uniq h hA hA' (List.mem_of_getElem? hu) hj
    subst this
    exact hT ⟨A, hA, hx, y, hy, hlt⟩
  · have hk := (List.getElem?_eq_some_iff.1 hu)
    have hd : u ∈ A.drop k := by
      rw [List.drop_eq_getElem_cons hk.1, hk.2]; simp
    rw [← List.take_append_drop k A, List.nodup_append] at hn
    exact hn.2.2 u hj u hd rfl
theorem Tc.put (hu : A[k]? = some u) : upd (seenC q x (A.take k)) u 1 = seenC q x (A.take (k + 1)) := by
  funext j
  rw [List.take_add_one, hu]
  unfold upd
  by_cases e : j = u
  · subst e; rw [if_pos rfl]; unfold seenC; rw [if_pos (.inr (by simp))]
  · rw [if_neg e]
    have : (Tc q x j ∨ j ∈ A.take k) ↔ (Tc q x j ∨ j ∈ A.take k ++ (some u).toList) := by simp [e]
    exact seenC_congr this
end
end Seq
end Go.Proofs.YtledchlbmilneaaDoor
