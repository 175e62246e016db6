/-
Making a forest of layer 4.
Conditions: those that each theorem states.
-/
import Derived.Test.YtledchlbmilneaaDoorSeqQ
namespace Go.Proofs.YtledchlbmilneaaDoor
open Go
set_option linter.unusedVariables false
set_option linter.unusedSimpArgs false
namespace Seq
/-- The records while the first i are made. -/
def mkS' (i : Nat) : S := ⟨fun j => if j < i then -1 else 0, fun j => if j < i then -1 else 0, fun j => if j < i then -1 else 0, fun _ => false, fun j => if j < i then 1 else 0, fun _ => 0, fun _ => 0, fun _ => 0, fun _ => 0⟩
theorem upd_lt (i : Nat) (a b : Int) : upd (fun j => if j < i then a else b) i a = fun j => if j < i + 1 then a else b := by
  funext j
  unfold upd
  by_cases h : j = i
  · subst h; rw [if_pos rfl, if_pos (by omega)]
  · rw [if_neg h]
    show (if j < i then a else b) = _
    by_cases h2 : j < i
    · rw [if_pos h2, if_pos (by omega)]
    · rw [if_neg h2, if_neg (by omega)]
theorem upd_all {α : Type} (i : Nat) (a : α) : upd (fun _ => a) i a = fun _ => a := by
  funext j; unfold upd; split <;> rfl
theorem zerosOf_recs (z : List Value) (n : Nat) : (zerosOf z.toArray n).toList = recs (fun _ => z) n := by
  unfold zerosOf recs
  induction n with
  | zero => rfl
  | succ n ih =>
    rw [List.range_succ, List.flatMap_append, ← ih, List.replicate_succ']
    simp
/-- The first forest. -/
def ones (n : Nat) : List (List Nat) := (List.range n).map fun x => [x]
theorem fo_new {n : Nat} (hn : n ≤ 8388608) : Fo n (mkS' n) (fun _ => 0) ((List.range n).map fun x => .node .nil x false .nil) := by
  refine ⟨fun _ => ⟨by omega, by omega⟩, ?_, ?_, hn⟩
  · intro t ht
    obtain ⟨x, hx, rfl⟩ := List.mem_map.1 ht
    have hx := List.mem_range.1 hx
    refine ⟨⟨?_, trivial, trivial⟩, by intro h; cases h⟩
    refine ⟨?_, ?_, ?_, ?_, ?_, ⟨?_, ?_, ?_, ?_⟩⟩
    all_goals simp [mkS', hx, T.rt, T.ls, vsum, IsMn, IsMx, w64]
    all_goals rfl
  · have : ∀ l : List Nat, (l.map fun x => T.node .nil x false .nil).flatMap T.ls = l := by
      intro l; induction l with
      | nil => rfl
      | cons x l ih => rw [List.map_cons, List.flatMap_cons, ih]; rfl
    rw [this]
theorem c_New_bad {w : World} {n : Int} (hn : ¬ (1 ≤ n ∧ n ≤ 8388608)) :
    Calls Pg fn_seq_New #[.int .i64 n] w fun e w' => e = .returned (.tuple #[.pointer none, errV 1]) ∧ Chg Nobody w w' := by
  refine (calls_seq_New _ _ (fun v' w' => v' = .tuple #[.pointer none, errV 1] ∧ Chg Nobody w w') ?_).mono (by rintro e w' ⟨v, rfl, rfl, k⟩; exact ⟨rfl, k⟩)
  unfold sh_seq_New
  refine ⟨fun _ _ => False, ?_, fun _ _ h => h.elim⟩
  refine bif_i (fun h1 => ?_) (fun h1 => ?_) <;> simp only [bne_iff_ne, ne_eq, bne_eq_false_iff_eq, Bool.not_eq_true, beq_iff_eq, beq_eq_false_iff_ne, decide_eq_true_eq, decide_eq_false_iff_not, Bool.not_eq_true', Bool.not_eq_false'] at h1
  · exact ⟨rfl, Chg.refl _ _⟩
  · refine bif_i (fun h2 => ?_) (fun h2 => ?_) <;> simp only [bne_iff_ne, ne_eq, bne_eq_false_iff_eq, Bool.not_eq_true, beq_iff_eq, beq_eq_false_iff_ne, decide_eq_true_eq, decide_eq_false_iff_not, Bool.not_eq_true', Bool.not_eq_false'] at h2
    · exact ⟨rfl, Chg.refl _ _⟩
    · omega
theorem c_New {w : World} {n : Nat} (h1 : 1 ≤ n) (hn : n ≤ 8388608) :
    Calls Pg fn_seq_New #[.int .i64 n] w fun e w' => ∃ F L, e = .returned (.tuple #[.pointer (some ⟨F, 0, none⟩), errV 0]) ∧ Chg Nobody w w' ∧ w.heap.size ≤ F ∧ w.heap.size ≤ L ∧ AF w'.heap F L n (fun _ => 0) (ones n) := by
  refine (calls_seq_New _ _ (fun v' w' => ∃ F L, v' = .tuple #[.pointer (some ⟨F, 0, none⟩), errV 0] ∧ Chg Nobody w w' ∧ w.heap.size ≤ F ∧ w.heap.size ≤ L ∧ AF w'.heap F L n (fun _ => 0) (ones n)) ?_).mono (by rintro e w' ⟨v, rfl, F, L, rfl, k⟩; exact ⟨F, L, rfl, k⟩)
  unfold sh_seq_New
  refine ⟨fun _ w' => w' = w, ?_, ?_⟩
  · refine bif_i (fun h1 => ?_) (fun h1 => ?_) <;> simp only [bne_iff_ne, ne_eq, bne_eq_false_iff_eq, Bool.not_eq_true, beq_iff_eq, beq_eq_false_iff_ne, decide_eq_true_eq, decide_eq_false_iff_not, Bool.not_eq_true', Bool.not_eq_false'] at h1
    · omega
    · refine bif_i (fun h2 => ?_) (fun h2 => ?_) <;> simp only [bne_iff_ne, ne_eq, bne_eq_false_iff_eq, Bool.not_eq_true, beq_iff_eq, beq_eq_false_iff_ne, decide_eq_true_eq, decide_eq_false_iff_not, Bool.not_eq_true', Bool.not_eq_false'] at h2
      · omega
      · rfl
  rintro _ w2 rfl
  have hnn : Int.toNat (n : Int) = n := by omega
  refine ⟨by omega, by omega, by omega, ?_⟩
  rw [hnn]
  refine alo_r fun hL => alo_r fun hF => ?_
  have hL := hL.alloc (.cells #[.slice (some ⟨w2.heap.size, 0, none⟩) n n] T_seq_Forest)
  rw [zerosOf_recs] at hL
  have hch : Chg Nobody w2 ((w2.alloc (.cells (zerosOf #[.int .i32 0, .int .i32 0, .int .i32 0, .bool false, .int .i32 0, .int .i64 0, .int .i64 0, .int .i64 0, .int .i64 0] n) T_seq_node)).alloc (.cells #[.slice (some ⟨w2.heap.size, 0, none⟩) n n] T_seq_Forest)) := ((Chg.refl _ _).alloc _).alloc _
  have hs1 : (w2.alloc (.cells (zerosOf #[.int .i32 0, .int .i32 0, .int .i32 0, .bool false, .int .i32 0, .int .i64 0, .int .i64 0, .int .i64 0, .int .i64 0] n) T_seq_node)).heap.size = w2.heap.size + 1 := by show (w2.heap.push _).size = _; simp
  rw [hs1] at hF ⊢
  generalize (w2.alloc (.cells (zerosOf #[.int .i32 0, .int .i32 0, .int .i32 0, .bool false, .int .i32 0, .int .i64 0, .int .i64 0, .int .i64 0, .int .i64 0] n) T_seq_node)).alloc (.cells #[.slice (some ⟨w2.heap.size, 0, none⟩) n n] T_seq_Forest) = w6 at *
  have hF0 : w2.heap.size + 1 < w6.heap.size := hF.lt
  have hi : IsF w6.heap (w2.heap.size + 1) w2.heap.size n (mkS' 0) := ⟨hF, by
    have : encS (mkS' 0) = fun _ => [.int .i32 0, .int .i32 0, .int .i32 0, .bool false, .int .i32 0, .int .i64 0, .int .i64 0, .int .i64 0, .int .i64 0] := by
      funext i; simp [encS, mkS']
    rw [this]; exact hL, by omega⟩
  generalize hFF : w2.heap.size + 1 = F at *
  generalize hLL : w2.heap.size = L at *
  have hst := St.start hi
  repeat (first | with_reducible refine pt_i ?_ | with_reducible refine ldS_F (by first | assumption | exact St.drew (by assumption) | exact St.drew (St.drew (by assumption)) | exact St.drew (St.drew (St.drew (by assumption)))) ?_ | with_reducible refine ixS_F (by omega) (by omega) ?_ | with_reducible refine ld_up (by first | assumption | exact St.drew (by assumption) | exact St.drew (St.drew (by assumption)) | exact St.drew (St.drew (St.drew (by assumption)))) (by omega) ?_ | with_reducible refine ld_left (by first | assumption | exact St.drew (by assumption) | exact St.drew (St.drew (by assumption)) | exact St.drew (St.drew (St.drew (by assumption)))) (by omega) ?_ | with_reducible refine ld_right (by first | assumption | exact St.drew (by assumption) | exact St.drew (St.drew (by assumption)) | exact St.drew (St.drew (St.drew (by assumption)))) (by omega) ?_ | with_reducible refine ld_turned (by first | assumption | exact St.drew (by assumption) | exact St.drew (St.drew (by assumption)) | exact St.drew (St.drew (St.drew (by assumption)))) (by omega) ?_ | with_reducible refine ld_size (by first | assumption | exact St.drew (by assumption) | exact St.drew (St.drew (by assumption)) | exact St.drew (St.drew (St.drew (by assumption)))) (by omega) ?_ | with_reducible refine ld_value (by first | assumption | exact St.drew (by assumption) | exact St.drew (St.drew (by assumption)) | exact St.drew (St.drew (St.drew (by assumption)))) (by omega) ?_ | with_reducible refine ld_sum (by first | assumption | exact St.drew (by assumption) | exact St.drew (St.drew (by assumption)) | exact St.drew (St.drew (St.drew (by assumption)))) (by omega) ?_ | with_reducible refine ld_least (by first | assumption | exact St.drew (by assumption) | exact St.drew (St.drew (by assumption)) | exact St.drew (St.drew (St.drew (by assumption)))) (by omega) ?_ | with_reducible refine ld_most (by first | assumption | exact St.drew (by assumption) | exact St.drew (St.drew (by assumption)) | exact St.drew (St.drew (St.drew (by assumption)))) (by omega) ?_ | (with_reducible refine st_up (by first | assumption | exact St.drew (by assumption) | exact St.drew (St.drew (by assumption)) | exact St.drew (St.drew (St.drew (by assumption)))) (by omega) (fun _ hst => ?_)) | (with_reducible refine st_left (by first | assumption | exact St.drew (by assumption) | exact St.drew (St.drew (by assumption)) | exact St.drew (St.drew (St.drew (by assumption)))) (by omega) (fun _ hst => ?_)) | (with_reducible refine st_right (by first | assumption | exact St.drew (by assumption) | exact St.drew (St.drew (by assumption)) | exact St.drew (St.drew (St.drew (by assumption)))) (by omega) (fun _ hst => ?_)) | (with_reducible refine st_turned (by first | assumption | exact St.drew (by assumption) | exact St.drew (St.drew (by assumption)) | exact St.drew (St.drew (St.drew (by assumption)))) (by omega) (fun _ hst => ?_)) | (with_reducible refine st_size (by first | assumption | exact St.drew (by assumption) | exact St.drew (St.drew (by assumption)) | exact St.drew (St.drew (St.drew (by assumption)))) (by omega) (fun _ hst => ?_)) | (with_reducible refine st_value (by first | assumption | exact St.drew (by assumption) | exact St.drew (St.drew (by assumption)) | exact St.drew (St.drew (St.drew (by assumption)))) (by omega) (fun _ hst => ?_)) | (with_reducible refine st_sum (by first | assumption | exact St.drew (by assumption) | exact St.drew (St.drew (by assumption)) | exact St.drew (St.drew (St.drew (by assumption)))) (by omega) (fun _ hst => ?_)) | (with_reducible refine st_least (by first | assumption | exact St.drew (by assumption) | exact St.drew (St.drew (by assumption)) | exact St.drew (St.drew (St.drew (by assumption)))) (by omega) (fun _ hst => ?_)) | (with_reducible refine st_most (by first | assumption | exact St.drew (by assumption) | exact St.drew (St.drew (by assumption)) | exact St.drew (St.drew (St.drew (by assumption)))) (by omega) (fun _ hst => ?_)) | simp only [S.up_w_up, S.left_w_up, S.right_w_up, S.turned_w_up, S.size_w_up, S.value_w_up, S.sum_w_up, S.least_w_up, S.most_w_up, S.up_w_left, S.left_w_left, S.right_w_left, S.turned_w_left, S.size_w_left, S.value_w_left, S.sum_w_left, S.least_w_left, S.most_w_left, S.up_w_right, S.left_w_right, S.right_w_right, S.turned_w_right, S.size_w_right, S.value_w_right, S.sum_w_right, S.least_w_right, S.most_w_right, S.up_w_turned, S.left_w_turned, S.right_w_turned, S.turned_w_turned, S.size_w_turned, S.value_w_turned, S.sum_w_turned, S.least_w_turned, S.most_w_turned, S.up_w_size, S.left_w_size, S.right_w_size, S.turned_w_size, S.size_w_size, S.value_w_size, S.sum_w_size, S.least_w_size, S.most_w_size, S.up_w_value, S.left_w_value, S.right_w_value, S.turned_w_value, S.size_w_value, S.value_w_value, S.sum_w_value, S.least_w_value, S.most_w_value, S.up_w_sum, S.left_w_sum, S.right_w_sum, S.turned_w_sum, S.size_w_sum, S.value_w_sum, S.sum_w_sum, S.least_w_sum, S.most_w_sum, S.up_w_least, S.left_w_least, S.right_w_least, S.turned_w_least, S.size_w_least, S.value_w_least, S.sum_w_least, S.least_w_least, S.most_w_least, S.up_w_most, S.left_w_most, S.right_w_most, S.turned_w_most, S.size_w_most, S.value_w_most, S.sum_w_most, S.least_w_most, S.most_w_most, upd_same])
  let J : Nat → List Value → World → Prop := fun j vs w' => ∃ i : Nat, vs = [.int .i64 i] ∧ i ≤ n ∧ St w6 w' F L n (mkS' i) ∧ j = n - i
  refine ⟨LI J, LM J, ⟨_, 0, rfl, by omega, hst, rfl⟩, ?_⟩
  intro _ i w11 hJ
  obtain ⟨i, hvs, hin, hst, hj⟩ := hJ.at
  simp only [List.cons.injEq, Value.int.injEq, and_true, true_and] at hvs
  subst hvs
  refine bif_i (fun hc => ?_) (fun hc => ?_) <;> simp only [bne_iff_ne, ne_eq, bne_eq_false_iff_eq, Bool.not_eq_true, beq_iff_eq, beq_eq_false_iff_ne, decide_eq_true_eq, decide_eq_false_iff_not, Bool.not_eq_true', Bool.not_eq_false'] at hc
  · have hii : (i : Int).toNat = i := by omega
    repeat (first | with_reducible refine pt_i ?_ | with_reducible refine ldS_F (by first | assumption | exact St.drew (by assumption) | exact St.drew (St.drew (by assumption)) | exact St.drew (St.drew (St.drew (by assumption)))) ?_ | with_reducible refine ixS_F (by omega) (by omega) ?_ | with_reducible refine ld_up (by first | assumption | exact St.drew (by assumption) | exact St.drew (St.drew (by assumption)) | exact St.drew (St.drew (St.drew (by assumption)))) (by omega) ?_ | with_reducible refine ld_left (by first | assumption | exact St.drew (by assumption) | exact St.drew (St.drew (by assumption)) | exact St.drew (St.drew (St.drew (by assumption)))) (by omega) ?_ | with_reducible refine ld_right (by first | assumption | exact St.drew (by assumption) | exact St.drew (St.drew (by assumption)) | exact St.drew (St.drew (St.drew (by assumption)))) (by omega) ?_ | with_reducible refine ld_turned (by first | assumption | exact St.drew (by assumption) | exact St.drew (St.drew (by assumption)) | exact St.drew (St.drew (St.drew (by assumption)))) (by omega) ?_ | with_reducible refine ld_size (by first | assumption | exact St.drew (by assumption) | exact St.drew (St.drew (by assumption)) | exact St.drew (St.drew (St.drew (by assumption)))) (by omega) ?_ | with_reducible refine ld_value (by first | assumption | exact St.drew (by assumption) | exact St.drew (St.drew (by assumption)) | exact St.drew (St.drew (St.drew (by assumption)))) (by omega) ?_ | with_reducible refine ld_sum (by first | assumption | exact St.drew (by assumption) | exact St.drew (St.drew (by assumption)) | exact St.drew (St.drew (St.drew (by assumption)))) (by omega) ?_ | with_reducible refine ld_least (by first | assumption | exact St.drew (by assumption) | exact St.drew (St.drew (by assumption)) | exact St.drew (St.drew (St.drew (by assumption)))) (by omega) ?_ | with_reducible refine ld_most (by first | assumption | exact St.drew (by assumption) | exact St.drew (St.drew (by assumption)) | exact St.drew (St.drew (St.drew (by assumption)))) (by omega) ?_ | (with_reducible refine st_up (by first | assumption | exact St.drew (by assumption) | exact St.drew (St.drew (by assumption)) | exact St.drew (St.drew (St.drew (by assumption)))) (by omega) (fun _ hst => ?_)) | (with_reducible refine st_left (by first | assumption | exact St.drew (by assumption) | exact St.drew (St.drew (by assumption)) | exact St.drew (St.drew (St.drew (by assumption)))) (by omega) (fun _ hst => ?_)) | (with_reducible refine st_right (by first | assumption | exact St.drew (by assumption) | exact St.drew (St.drew (by assumption)) | exact St.drew (St.drew (St.drew (by assumption)))) (by omega) (fun _ hst => ?_)) | (with_reducible refine st_turned (by first | assumption | exact St.drew (by assumption) | exact St.drew (St.drew (by assumption)) | exact St.drew (St.drew (St.drew (by assumption)))) (by omega) (fun _ hst => ?_)) | (with_reducible refine st_size (by first | assumption | exact St.drew (by assumption) | exact St.drew (St.drew (by assumption)) | exact St.drew (St.drew (St.drew (by assumption)))) (by omega) (fun _ hst => ?_)) | (with_reducible refine st_value (by first | assumption | exact St.drew (by assumption) | exact St.drew (St.drew (by assumption)) | exact St.drew (St.drew (St.drew (by assumption)))) (by omega) (fun _ hst => ?_)) | (with_reducible refine st_sum (by first | assumption | exact St.drew (by assumption) | exact St.drew (St.drew (by assumption)) | exact St.drew (St.drew (St.drew (by assumption)))) (by omega) (fun _ hst => ?_)) | (with_reducible refine st_least (by first | assumption | exact St.drew (by assumption) | exact St.drew (St.drew (by assumption)) | exact St.drew (St.drew (St.drew (by assumption)))) (by omega) (fun _ hst => ?_)) | (with_reducible refine st_most (by first | assumption | exact St.drew (by assumption) | exact St.drew (St.drew (by assumption)) | exact St.drew (St.drew (St.drew (by assumption)))) (by omega) (fun _ hst => ?_)) | simp only [S.up_w_up, S.left_w_up, S.right_w_up, S.turned_w_up, S.size_w_up, S.value_w_up, S.sum_w_up, S.least_w_up, S.most_w_up, S.up_w_left, S.left_w_left, S.right_w_left, S.turned_w_left, S.size_w_left, S.value_w_left, S.sum_w_left, S.least_w_left, S.most_w_left, S.up_w_right, S.left_w_right, S.right_w_right, S.turned_w_right, S.size_w_right, S.value_w_right, S.sum_w_right, S.least_w_right, S.most_w_right, S.up_w_turned, S.left_w_turned, S.right_w_turned, S.turned_w_turned, S.size_w_turned, S.value_w_turned, S.sum_w_turned, S.least_w_turned, S.most_w_turned, S.up_w_size, S.left_w_size, S.right_w_size, S.turned_w_size, S.size_w_size, S.value_w_size, S.sum_w_size, S.least_w_size, S.most_w_size, S.up_w_value, S.left_w_value, S.right_w_value, S.turned_w_value, S.size_w_value, S.value_w_value, S.sum_w_value, S.least_w_value, S.most_w_value, S.up_w_sum, S.left_w_sum, S.right_w_sum, S.turned_w_sum, S.size_w_sum, S.value_w_sum, S.sum_w_sum, S.least_w_sum, S.most_w_sum, S.up_w_least, S.left_w_least, S.right_w_least, S.turned_w_least, S.size_w_least, S.value_w_least, S.sum_w_least, S.least_w_least, S.most_w_least, S.up_w_most, S.left_w_most, S.right_w_most, S.turned_w_most, S.size_w_most, S.value_w_most, S.sum_w_most, S.least_w_most, S.most_w_most, upd_same])
    rw [wrap64_in (by omega) (by omega)]
    refine LI.again (k := n - (i + 1)) ⟨i + 1, rfl, by omega, ?_, rfl⟩ (by rw [hj]; omega)
    rw [hii] at hst
    have e : mkS' (i + 1) = ((((((((((mkS' i).w_up i (-1)).w_left i (-1)).w_right i (-1)).w_turned i false).w_size i 1).w_value i 0).w_sum i 0).w_least i 0).w_most i 0) := by
      unfold mkS' S.w_up S.w_left S.w_right S.w_turned S.w_size S.w_value S.w_sum S.w_least S.w_most
      simp only [upd_lt, upd_all]
    rw [e]
    exact hst
  · have hin : i = n := by omega
    subst hin
    refine ⟨F, L, rfl, hch.trans' hst.c (fun k hk => .inr (by omega)), by omega, by omega, _, _, hst.i, fo_new hn, ?_⟩
    unfold ones
    rw [List.map_map]
    exact List.Perm.refl _
end Seq
end Go.Proofs.YtledchlbmilneaaDoor
