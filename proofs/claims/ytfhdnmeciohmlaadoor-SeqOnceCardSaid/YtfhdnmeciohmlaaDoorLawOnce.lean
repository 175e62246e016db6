/-
The law SeqOnce: each item stands in just one sequence, at its rank.
Conditions: the package variable of errors is laid out; the acts can be read.
-/
import Derived.Test.YtfhdnmeciohmlaaDoorLawTwice
namespace Go.Proofs.YtfhdnmeciohmlaaDoor
open Go
set_option linter.unusedVariables false
set_option linter.unusedSimpArgs false
namespace Seq
theorem map_set {α : Type} {m u : Nat} (g : Nat → α) (y : α) : ((List.range m).map g).set u y = (List.range m).map (upd g u y) := by
  apply List.ext_getElem?
  intro i
  rw [List.getElem?_set, List.getElem?_map, List.getElem?_map]
  by_cases hi : i < m
  · rw [List.getElem?_range hi]
    by_cases h : u = i
    · subst h; simp [hi, upd]
    · rw [if_neg h]; simp only [Option.map_some, Option.some.injEq]; rw [upd_ne _ _ (fun e => h e.symm)]
  · have : (List.range m)[i]? = none := by simp; omega
    rw [this]
    by_cases h : u = i
    · subst h; simp; omega
    · rw [if_neg h]; rfl
/-- Numbers in a row. -/
abbrev nums (m : Nat) (c : Nat → Int) : List Value := (List.range m).map fun j => .int .i64 (c j)
theorem nums_set {m u : Nat} (c : Nat → Int) (y : Int) : (nums m c).set u (.int .i64 y) = nums m (upd c u y) := by
  unfold nums
  rw [map_set]
  congr 1
  funext j
  unfold upd
  split <;> rfl
theorem nums_get {m u : Nat} {c : Nat → Int} (h : u < m) : (nums m c)[u]? = some (.int .i64 (c u)) := by
  unfold nums; rw [List.getElem?_map, List.getElem?_range h]; rfl
section
variable {w₀ w w' : World} {F L n B : Nat} {v v' : Nat → Int} {q q' : List (List Nat)} {A : List Nat} {x : Nat}
theorem LS.put (h : LS w₀ w F L n v q) (c : Chg (· = B) w w') (hB : w₀.heap.size ≤ B) (hF : F ≠ B) (hL : L ≠ B) : LS w₀ w' F L n v q :=
  ⟨h.c.trans' c (fun i e => by subst e; exact .inr hB), h.hF, h.hL, h.a.keep c hF hL⟩
theorem op_List2 (h : LS w₀ w F L n v (A :: q)) (hx : x ∈ A) : Calls Pg fn_seq_Forest_List #[.pointer (some ⟨F, 0, none⟩), .int .i64 x] w fun e w' =>
    ∃ ob oc, e = .returned (.tuple #[.slice ob A.length oc, errV 0]) ∧ IA w' ob A.length (ints A) ∧ (∀ k, bk ob = some k → w.heap.size ≤ k) ∧ LS w₀ w' F L n v (A :: q) ∧ AS w w' F L n v (A :: q) := by
  refine (c_List h.a hx).mono ?_
  rintro e w' ⟨ob, oc, rfl, hown, has⟩
  exact ⟨ob, oc, rfl, IA.of_own hown (by simp [ivs]), fun k hk => (hown.bk_lt hk).1, h.step has, has⟩
end
/-- Item j's sequence has an item below x. -/
def Tc (q : List (List Nat)) (x j : Nat) : Prop := ∃ A ∈ q, j ∈ A ∧ ∃ y ∈ A, y < x
open Classical in
noncomputable def seenC (q : List (List Nat)) (x : Nat) (l : List Nat) (j : Nat) : Int := if Tc q x j ∨ j ∈ l then 1 else 0
theorem seenC_congr {q : List (List Nat)} {x y j : Nat} {l l' : List Nat} (h : (Tc q x j ∨ j ∈ l) ↔ (Tc q y j ∨ j ∈ l')) : seenC q x l j = seenC q y l' j := by
  unfold seenC
  by_cases hp : Tc q x j ∨ j ∈ l
  · rw [if_pos hp, if_pos (h.1 hp)]
  · rw [if_neg hp, if_neg (fun hq => hp (h.2 hq))]
theorem flat_uniq {q : List (List Nat)} (h : q.flatten.Nodup) {A B : List Nat} {x : Nat} (hA : A ∈ q) (hB : B ∈ q) (h1 : x ∈ A) (h2 : x ∈ B) : A = B := by
  induction q with
  | nil => cases hA
  | cons C q ih =>
    simp only [List.flatten_cons, List.nodup_append] at h
    obtain ⟨_, hq, hd⟩ := h
    rcases List.mem_cons.1 hA with rfl | hA'
    · rcases List.mem_cons.1 hB with rfl | hB
      · rfl
      · exact absurd rfl (hd x h1 x (List.mem_flatten.2 ⟨B, hB, h2⟩))
    · rcases List.mem_cons.1 hB with rfl | hB
      · exact absurd rfl (hd x h2 x (List.mem_flatten.2 ⟨A, hA', h1⟩))
      · exact ih hq hA' hB
section
variable {q : List (List Nat)} {A : List Nat} {x k u : Nat}
theorem Tc.skip (h : q.flatten.Nodup) (hT : Tc q x x) : seenC q (x + 1) [] = seenC q x [] := by
  funext j
  have : Tc q (x + 1) j ↔ Tc q x j := by
    constructor
    · rintro ⟨A, hA, hj, y, hy, hlt⟩
      by_cases e : y < x
      · exact ⟨A, hA, hj, y, hy, e⟩
      · have e : y = x := by omega
        subst e
        obtain ⟨A', hA', hx', y', hy', hlt'⟩ := hT
        have := flat_uniq h hA hA' hy hx'
        subst this
        exact ⟨A, hA, hj, y', hy', hlt'⟩
    · rintro ⟨A, hA, hj, y, hy, hlt⟩
      exact ⟨A, hA, hj, y, hy, by omega⟩
  exact seenC_congr (or_congr this Iff.rfl)
theorem Tc.fresh (h : q.flatten.Nodup) (hA : A ∈ q) (hx : x ∈ A) : seenC q (x + 1) [] = seenC q x A := by
  funext j
  have : (Tc q (x + 1) j ∨ j ∈ ([] : List Nat)) ↔ (Tc q x j ∨ j ∈ A) := by
    constructor
    · rintro (⟨A', hA', hj, y, hy, hlt⟩ | h)
      · by_cases e : y < x
        · exact .inl ⟨A', hA', hj, y, hy, e⟩
        · have e : y = x := by omega
          subst e
          have := flat_uniq h hA hA' hx hy
          subst this
          exact .inr hj
      · cases h
    · rintro (⟨A', hA', hj, y, hy, hlt⟩ | hj)
      · exact .inl ⟨A', hA', hj, y, hy, by omega⟩
      · exact .inl ⟨A, hA, hj, x, hx, by omega⟩
  exact seenC_congr this
theorem Tc.zero (h : q.flatten.Nodup) (hA : A ∈ q) (hx : x ∈ A) (hT : ¬ Tc q x x) (hn : A.Nodup) (hu : A[k]? = some u) : seenC q x (A.take k) u = 0 := by
  unfold seenC
  rw [if_neg]
  rintro (⟨A', hA', hj, y, hy, hlt⟩ | hj)
  · have := flat_uniq h hA hA' (List.mem_of_getElem? hu) hj
    subst this
    exact hT ⟨A, hA, hx, y, hy, hlt⟩
  · have hk := (List.getElem?_eq_some_iff.1 hu)
    have hd : u ∈ A.drop k := by
      rw [List.drop_eq_getElem_cons hk.1, hk.2]; simp
    rw [← List.take_append_drop k A, List.nodup_append] at hn
    exact hn.2.2 u hj u hd rfl
theorem Tc.put (hu : A[k]? = some u) : upd (seenC q x (A.take k)) u 1 = seenC q x (A.take (k + 1)) := by
  funext j
  rw [List.take_add_one, hu]
  unfold upd
  by_cases e : j = u
  · subst e; rw [if_pos rfl]; unfold seenC; rw [if_pos (.inr (by simp))]
  · rw [if_neg e]
    have : (Tc q x j ∨ j ∈ A.take k) ↔ (Tc q x j ∨ j ∈ A.take k ++ (some u).toList) := by simp [e]
    exact seenC_congr this
end
theorem c_SeqOnce {w : World} {n : Int} {sb : Option Addr} {sl sc : Nat} {f : Nat → Nat → Int} (hg : LaidG w) (hf : CA w sb sl 4 f) :
    Calls Pg fn_plaitlaw04_SeqOnce #[.int .i64 n, .slice sb sl sc] w fun e w' => e = .returned (.bool true) ∧ Chg Nobody w w' := by
  refine (calls_plaitlaw04_SeqOnce _ _ _ _ _ (fun v' w' => v' = .bool true ∧ Chg Nobody w w') ?_).mono (by rintro e w' ⟨v, rfl, rfl, k⟩; exact ⟨rfl, k⟩)
  unfold sh_plaitlaw04_SeqOnce
  refine ⟨by decide, ?_⟩
  obtain ⟨m, hm0, hm1, he⟩ := size_ex n 1 60 (by omega) (by omega) (by omega)
  rw [he]
  refine (c_New (n := m) (by omega) (by omega)).mono ?_
  rintro e w5 ⟨F, L, rfl, h, hF, hL, ha⟩
  have hs : LS w w5 F L m (fun _ => 0) (ones m) := ⟨h, hF, hL, ha⟩
  refine ⟨_, _, rfl, fun _ w' => w' = w5, err_i (fun e => absurd rfl e) (fun _ => bif_i (fun h => by cases h) (fun _ => rfl)), ?_⟩
  rintro _ w8 rfl
  refine ⟨fun _ w' => ∃ q, LS w w' F L m (fun _ => 0) q, ?_, ?_⟩
  · let J : Nat → List Value → World → Prop := fun j vs w' => ∃ (i : Nat) (q : List (List Nat)), vs = [.int .i64 i] ∧ i ≤ 200 ∧ LS w w' F L m (fun _ => 0) q ∧ j = 200 - i
    refine ⟨LI J, LM J, ⟨_, 0, _, rfl, by omega, hs, rfl⟩, ?_⟩
    clear hs h ha
    intro _ n12 w13 hJ
    obtain ⟨i, q, hvs, hi, hs, hj⟩ := hJ.at
    simp only [List.cons.injEq, Value.int.injEq, and_true, true_and] at hvs
    subst hvs
    refine bif_i (fun hc => ?_) (fun hc => ⟨q, hs⟩)
    with_reducible refine bif_i (fun hc2 => ?_) (fun hc2 => Exists.intro q hs)
    simp only [bne_iff_ne, ne_eq, bne_eq_false_iff_eq, Bool.not_eq_true, beq_iff_eq, beq_eq_false_iff_ne, decide_eq_true_eq, decide_eq_false_iff_not, Bool.not_eq_true', Bool.not_eq_false'] at hc hc2
    have hil : i < sl := by omega
    have hf := (hf.nob hs.c).drew
    have hs := hs.drew
    refine hf.rd (k := 1) hil (by omega) ?_
    obtain ⟨hz1, a, haM, hae⟩ := idx_ex (f i 1) (show 0 < m by omega) (by omega)
    refine ⟨hz1, hf.rd (k := 2) hil (by omega) ?_⟩
    obtain ⟨hz2, b, hbM, hbe⟩ := idx_ex (f i 2) (show 0 < m by omega) (by omega)
    refine ⟨hz2, hf.rd0 hil (by omega) ⟨by decide, ?_⟩⟩
    rw [hae, hbe, wrap64_in (x := (i : Int) + 1) (by omega) (by omega)]
    have again : ∀ w' q', LS w w' F L m (fun _ => 0) q' → LI J [.int .i64 ((i : Int) + 1)] w' ∧ LM J [.int .i64 ((i : Int) + 1)] w' < LM J [.int .i64 (i : Int)] w13 := fun w' q' h1 =>
      LI.again (k := 200 - (i + 1)) ⟨i + 1, q', rfl, by omega, h1, rfl⟩ (by rw [hj]; omega)
    repeat' (refine bif_i (fun _ => ?_) (fun _ => ?_))
    all_goals first
      | (refine (op_Cut hs haM).mono ?_
         rintro e w' ⟨⟨c, rfl⟩, q', hs'⟩
         exact ⟨_, _, rfl, again _ _ hs'⟩)
      | (refine (op_Reverse hs haM).mono ?_
         rintro e w' ⟨rfl, q', hs'⟩
         exact ⟨_, rfl, again _ _ hs'⟩)
      | (refine (op_Join hs haM hbM).mono ?_
         rintro e w' ⟨⟨c, rfl⟩, q', hs'⟩
         exact ⟨_, rfl, again _ _ hs'⟩)
  clear hs h ha
  rintro _ w51 ⟨q, hs⟩
  refine ⟨by omega, by omega, by omega, ?_⟩
  rw [show Int.toNat (m : Int) = m by omega]
  refine alo_r fun hrow => ?_
  rw [zerosOf_recs] at hrow
  have hlt := hs.a.lt
  have hB : w.heap.size ≤ w51.heap.size := hs.c.size
  replace hs := hs.alloc (.cells (zerosOf #[.int .i64 0] m) T_int)
  generalize w51.heap.size = B at *
  generalize w51.alloc (.cells (zerosOf #[.int .i64 0] m) T_int) = w53 at *
  obtain ⟨hqn, hqlt, hqne, _, hmn, hqall⟩ := hs.a.nodup
  have hrow : Row w53.heap B T_int (nums m (seenC q 0 [])) := by
    have : recs (fun _ => [Value.int .i64 0]) m = nums m (seenC q 0 []) := by
      have hz : ∀ j, seenC q 0 [] j = 0 := by
        intro j; unfold seenC; rw [if_neg]
        rintro (⟨A, _, _, y, _, hy⟩ | h)
        · omega
        · cases h
      unfold nums recs
      simp only [hz]
      induction List.range m with
      | nil => rfl
      | cons a l ih => rw [List.flatMap_cons, List.map_cons, ih]; rfl
    rw [← this]; exact hrow
  let J : Nat → List Value → World → Prop := fun j vs w' => ∃ x : Nat, vs = [.int .i64 x] ∧ x ≤ m ∧ LS w w' F L m (fun _ => 0) q ∧ Row w'.heap B T_int (nums m (seenC q x [])) ∧ j = m - x
  refine ⟨LI J, LM J, ⟨_, 0, rfl, by omega, hs, hrow, rfl⟩, ?_⟩
  clear hs hrow
  intro _ n56 w57 hJ
  obtain ⟨x, hvs, hx, hs, hrow, hj⟩ := hJ.at
  simp only [List.cons.injEq, Value.int.injEq, and_true, true_and] at hvs
  subst hvs
  refine bif_i (fun hc => ?_) (fun hc => ?_) <;> simp only [bne_iff_ne, ne_eq, bne_eq_false_iff_eq, Bool.not_eq_true, beq_iff_eq, beq_eq_false_iff_ne, decide_eq_true_eq, decide_eq_false_iff_not, Bool.not_eq_true', Bool.not_eq_false'] at hc
  · have hxm : x < m := by omega
    refine ixS_i (by omega) ?_
    refine ldI_r (n := seenC q x [] x) hrow (by rw [Nat.zero_add, Nat.mul_one]; exact nums_get hxm) ?_
    have hw1 : IntKind.i64.wrap ((x : Int) + 1) = (x : Int) + 1 := wrap64_in (by omega) (by omega)
    refine bif_i (fun h1 => ?_) (fun h1 => ?_) <;> simp only [bne_iff_ne, ne_eq, bne_eq_false_iff_eq, Bool.not_eq_true, beq_iff_eq, beq_eq_false_iff_ne, decide_eq_true_eq, decide_eq_false_iff_not, Bool.not_eq_true', Bool.not_eq_false'] at h1
    · have hT : Tc q x x := by
        unfold seenC at h1
        split at h1
        · rename_i h; exact h.resolve_right (by simp)
        · omega
      rw [hw1]
      refine LI.again (k := m - (x + 1)) ⟨x + 1, rfl, by omega, hs, ?_, rfl⟩ (by rw [hj]; omega)
      rw [Tc.skip hqn hT]; exact hrow
    · have hT : ¬ Tc q x x := fun h => h1 (by unfold seenC; rw [if_pos (.inl h)]; omega)
      obtain ⟨A, q', hp, hA⟩ := hs.a.find hxm
      have hAq : A ∈ q := hp.mem_iff.2 (by simp)
      replace hs := hs.perm hp
      have hnd : A.Nodup := by
        obtain ⟨hnd, hlt, _⟩ := hs.a.nodup
        simp only [List.flatten_cons, List.nodup_append] at hnd; exact hnd.1
      have hAn : A.length ≤ m := nodup_len hnd (fun y hy => hqlt A hAq y hy)
      have hBw : B < w57.heap.size := hrow.lt
      refine (op_List2 hs hA).mono ?_
      rintro e w62 ⟨xb, xc, rfl, hxl, hxB, hs, has⟩
      replace hrow := has.chg.row (show ¬ B = L by omega) hrow
      have hxL : ∀ k, bk xb = some k → L < k := fun k hk => by have := hxB k hk; omega
      refine ⟨_, _, _, _, rfl, err_i (fun e => absurd rfl e) (fun _ => ?_)⟩
      let J2 : Nat → List Value → World → Prop := fun j vs w' => ∃ k : Nat, vs = [.int .i64 k] ∧ k ≤ A.length ∧ LS w w' F L m (fun _ => 0) (A :: q') ∧ IA w' xb A.length (ints A) ∧ Row w'.heap B T_int (nums m (seenC q x (A.take k))) ∧ j = A.length - k
      refine ⟨LI J2, LM J2, ⟨_, 0, rfl, by omega, hs, hxl, by simpa using hrow, rfl⟩, ?_⟩
      clear hs hxl hrow has
      intro _ n66 w67 hJ2
      obtain ⟨k, hvs, hk, hs, hxl, hrow, hj2⟩ := hJ2.at
      simp only [List.cons.injEq, Value.int.injEq, and_true, true_and] at hvs
      subst hvs
      refine bif_i (fun hc => ?_) (fun hc => ?_) <;> simp only [bne_iff_ne, ne_eq, bne_eq_false_iff_eq, Bool.not_eq_true, beq_iff_eq, beq_eq_false_iff_ne, decide_eq_true_eq, decide_eq_false_iff_not, Bool.not_eq_true', Bool.not_eq_false'] at hc
      · have hkA : k < A.length := by omega
        obtain ⟨u, hu⟩ : ∃ u, A[k]? = some u := ⟨_, List.getElem?_eq_getElem hkA⟩
        have huA := List.mem_of_getElem? hu
        have hum : u < m := hqlt A hAq u huA
        have hrd : (ints A)[k]? = some (u : Int) := by rw [List.getElem?_map, hu]; rfl
        refine hxl.rd hrd ?_
        refine bif_i (fun h => ?_) (fun _ => ?_)
        · simp only [bne_iff_ne, ne_eq, bne_eq_false_iff_eq, Bool.not_eq_true, beq_iff_eq, beq_eq_false_iff_ne, decide_eq_true_eq, decide_eq_false_iff_not, Bool.not_eq_true', Bool.not_eq_false'] at h; omega
        refine hxl.rd hrd ?_
        refine bif_i (fun h => ?_) (fun _ => ?_)
        · simp only [bne_iff_ne, ne_eq, bne_eq_false_iff_eq, Bool.not_eq_true, beq_iff_eq, beq_eq_false_iff_ne, decide_eq_true_eq, decide_eq_false_iff_not, Bool.not_eq_true', Bool.not_eq_false'] at h; omega
        refine hxl.rd hrd ?_
        refine ixS_i (by omega) ?_
        refine ldI_r (n := seenC q x (A.take k) u) hrow (by rw [Nat.zero_add, Nat.mul_one]; exact nums_get hum) ?_
        refine ixS_i (by omega) ?_
        rw [Tc.zero hqn hAq hA hT hnd hu, wrap64_in (x := 0 + 1) (by omega) (by omega)]
        refine sto_r hrow (by simp; omega) rfl fun hrow2 => ?_
        have hcB : Chg (· = B) w67 (w67.setCell ⟨B, 0 + u * 1, none⟩ (.int .i64 (0 + 1))) := (Chg.refl _ _).setCell _ _ (.inl rfl)
        rw [Nat.zero_add, Nat.mul_one, nums_set, show (0 + 1 : Int) = 1 from rfl, Tc.put hu] at hrow2
        replace hs := hs.put hcB hB (by omega) (by omega)
        replace hxl := hxl.keep hcB (fun g hg (e : g = B) => by have := hxB g hg; omega)
        rw [Nat.zero_add, Nat.mul_one, show (0 + 1 : Int) = 1 from rfl] at hs hxl ⊢
        generalize w67.setCell ⟨B, u, none⟩ (.int .i64 1) = w77 at *
        refine hxl.rd hrd ?_
        have hsplit : A = A.take k ++ u :: A.drop (k + 1) := by
          conv => lhs; rw [← List.take_append_drop k A]
          congr 1
          rw [List.drop_eq_getElem_cons hkA]
          congr 1
          exact (List.getElem?_eq_some_iff.1 hu).2
        have hrank := c_Rank (w := w77) (F := F) (L := L) (n := m) (v := fun _ => 0) (x := u) (pre := A.take k) (post := A.drop (k + 1)) (q := q') (by rw [← hsplit]; exact hs.a)
        rw [← hsplit] at hrank
        refine hrank.mono ?_
        rintro e w82 ⟨rfl, has⟩
        replace hs := hs.step has
        replace hxl := hxl.as hxL has
        replace hrow2 := has.chg.row (show ¬ B = L by omega) hrow2
        refine ⟨_, _, rfl, ?_⟩
        refine (c_At hs.a hA (i := k) (by omega)).mono ?_
        rintro e w86 ⟨⟨z, hz⟩, has⟩
        replace hs := hs.step has
        replace hxl := hxl.as hxL has
        replace hrow2 := has.chg.row (show ¬ B = L by omega) hrow2
        rcases hz with hz | ⟨hz, _⟩
        case inr => exact absurd ⟨by omega, by omega⟩ hz
        obtain ⟨_, hz, rfl⟩ := hz
        have hkk : (k : Int).toNat = k := by omega
        rw [hkk, hu] at hz
        injection hz with hz
        subst hz
        refine ⟨_, _, rfl, err_i (fun e => absurd rfl e) (fun _ => err_i (fun e => absurd rfl e) (fun _ => ?_))⟩
        refine bif_i (fun h => ?_) (fun _ => ?_)
        · simp only [bne_iff_ne, ne_eq, bne_eq_false_iff_eq, Bool.not_eq_true, beq_iff_eq, beq_eq_false_iff_ne, decide_eq_true_eq, decide_eq_false_iff_not, Bool.not_eq_true', Bool.not_eq_false'] at h
          exact absurd (by rw [List.length_take]; omega) h
        refine hxl.rd hrd ?_
        refine bif_i (fun h => ?_) (fun _ => ?_)
        · simp only [bne_iff_ne, ne_eq, bne_eq_false_iff_eq, Bool.not_eq_true, beq_iff_eq, beq_eq_false_iff_ne, decide_eq_true_eq, decide_eq_false_iff_not, Bool.not_eq_true', Bool.not_eq_false'] at h; exact absurd trivial h
        rw [wrap64_in (by omega) (by omega)]
        exact LI.again (k := A.length - (k + 1)) ⟨k + 1, rfl, by omega, hs, hxl, hrow2, rfl⟩ (by rw [hj2]; omega)
      · have hkA : k = A.length := by omega
        subst hkA
        rw [hw1]
        refine LI.again (k := m - (x + 1)) ⟨x + 1, rfl, by omega, hs.perm hp.symm, ?_, rfl⟩ (by rw [hj]; omega)
        rw [Tc.fresh hqn hAq hA]
        rw [List.take_length] at hrow
        exact hrow
  · have hxm : x = m := by omega
    subst hxm
    let J3 : Nat → List Value → World → Prop := fun j vs w' => ∃ y : Nat, vs = [.int .i64 y] ∧ y ≤ x ∧ Chg Nobody w w' ∧ Row w'.heap B T_int (nums x (seenC q x [])) ∧ j = x - y
    refine ⟨LI J3, LM J3, ⟨_, 0, rfl, by omega, hs.c, hrow, rfl⟩, ?_⟩
    clear hs hrow
    intro _ n92 w93 hJ3
    obtain ⟨y, hvs, hy, hc', hrow, hj3⟩ := hJ3.at
    simp only [List.cons.injEq, Value.int.injEq, and_true, true_and] at hvs
    subst hvs
    refine bif_i (fun hc => ?_) (fun hc => ?_) <;> simp only [bne_iff_ne, ne_eq, bne_eq_false_iff_eq, Bool.not_eq_true, beq_iff_eq, beq_eq_false_iff_ne, decide_eq_true_eq, decide_eq_false_iff_not, Bool.not_eq_true', Bool.not_eq_false'] at hc
    · have hyx : y < x := by omega
      refine ixS_i (by omega) ?_
      refine ldI_r (n := seenC q x [] y) hrow (by rw [Nat.zero_add, Nat.mul_one]; exact nums_get hyx) ?_
      have h1 : seenC q x [] y = 1 := by
        obtain ⟨A, hA, hyA⟩ := hqall y hyx
        unfold seenC; rw [if_pos (.inl ⟨A, hA, hyA, y, hyA, hyx⟩)]
      rw [h1]
      refine bif_i (fun h => absurd h (by decide)) (fun _ => ?_)
      rw [wrap64_in (by omega) (by omega)]
      exact LI.again (k := x - (y + 1)) ⟨y + 1, rfl, by omega, hc', hrow, rfl⟩ (by rw [hj3]; omega)
    · refine (l_sure hg hc').mono ?_
      rintro e w97 ⟨rfl, hc⟩
      exact ⟨_, rfl, rfl, hc⟩
end Seq
end Go.Proofs.YtfhdnmeciohmlaaDoor
