/-
The exported calls of layer 4 that join, cut, turn and set.
Conditions: those that each theorem states.
-/
import Derived.Test.YtledchlbmilneaaDoorSeqI
namespace Go.Proofs.YtledchlbmilneaaDoor
open Go
set_option linter.unusedVariables false
set_option linter.unusedSimpArgs false
namespace Seq
section
variable {w : World} {F L n : Nat} {v : Nat → Int} {q : List (List Nat)} {A B : List Nat} {a b x : Nat}

theorem inAll1 {n : Nat} {x : Int} : inAll n [x] = true ↔ 0 ≤ x ∧ x < n := by simp [inAll]
theorem inAll2 {n : Nat} {x y : Int} : inAll n [x, y] = true ↔ (0 ≤ x ∧ x < n) ∧ (0 ≤ y ∧ y < n) := by simp [inAll]
/-- 'check' of one item, of two: what it answers. -/
def ck1 (n : Nat) (x : Int) : Int := if 0 ≤ x ∧ x < n then 0 else 12
def ck2 (n : Nat) (x y : Int) : Int := if (0 ≤ x ∧ x < n) ∧ (0 ≤ y ∧ y < n) then 0 else 12
theorem c_check1 {x : Int} (h : AF w.heap F L n v q) : Calls Pg fn_seq_Forest_check #[.pointer (some ⟨F, 0, none⟩), .slice (some ⟨w.heap.size, 0, none⟩) 1 1] (w.alloc (.cells #[.int .i64 x] T_int)) fun e w' =>
    e = .returned (errV (ck1 n x)) ∧ w' = w.alloc (.cells #[.int .i64 x] T_int) := by
  obtain ⟨s, ts, hi, _, _⟩ := h
  have := c_check (c := 1) (xs := [x]) (hi.alloc (.cells #[.int .i64 x] T_int)) (Row.new w _ _) (by simp)
  refine this.mono fun e w' h => ?_
  rw [h.1]
  refine ⟨?_, h.2⟩
  unfold ck1
  by_cases hc : 0 ≤ x ∧ x < n
  · rw [if_pos hc, inAll1.2 hc]; rfl
  · rw [if_neg hc]
    have : inAll n [x] = false := by rw [← Bool.not_eq_true]; exact fun e => hc (inAll1.1 e)
    rw [this]; rfl
theorem c_check2 {x y : Int} (h : AF w.heap F L n v q) : Calls Pg fn_seq_Forest_check #[.pointer (some ⟨F, 0, none⟩), .slice (some ⟨w.heap.size, 0, none⟩) 2 2] (w.alloc (.cells #[.int .i64 x, .int .i64 y] T_int)) fun e w' =>
    e = .returned (errV (ck2 n x y)) ∧ w' = w.alloc (.cells #[.int .i64 x, .int .i64 y] T_int) := by
  obtain ⟨s, ts, hi, _, _⟩ := h
  have := c_check (c := 2) (xs := [x, y]) (hi.alloc (.cells #[.int .i64 x, .int .i64 y] T_int)) (Row.new w _ _) (by simp)
  refine this.mono fun e w' h => ?_
  rw [h.1]
  refine ⟨?_, h.2⟩
  unfold ck2
  by_cases hc : (0 ≤ x ∧ x < n) ∧ (0 ≤ y ∧ y < n)
  · rw [if_pos hc, inAll2.2 hc]; rfl
  · rw [if_neg hc]
    have : inAll n [x, y] = false := by rw [← Bool.not_eq_true]; exact fun e => hc (inAll2.1 e)
    rw [this]; rfl
theorem ck1_ok (h : x < n) : ck1 n x = 0 := by unfold ck1; rw [if_pos]; omega
theorem ck2_ok (h : a < n) (h' : b < n) : ck2 n a b = 0 := by unfold ck2; rw [if_pos]; omega
theorem err_i {c : Int} {X Y : Prop} (h : c ≠ 0 → X) (k : c = 0 → Y) : isI (errV c) ∧ bif (!(nilI (errV c))) then X else Y := by
  refine ⟨errV_isI c, ?_⟩
  rw [errV_nil]
  by_cases hc : c = 0
  · simp only [hc, decide_true, Bool.not_true, cond_false]; exact k hc
  · simp only [hc, decide_false, Bool.not_false, cond_true]; exact h hc
theorem AF.start' (h : AF w.heap F L n v q) (o : Obj) : AS w (w.alloc o) F L n v q := h.start.alloc o

/-- What is asked, where an item is none: nothing changes. -/
theorem c_Reverse_bad {x : Int} (h : AF w.heap F L n v q) (hx : ¬ (0 ≤ x ∧ x < n)) :
    Calls Pg fn_seq_Forest_Reverse #[.pointer (some ⟨F, 0, none⟩), .int .i64 x] w fun e w' => e = .returned (errV 12) ∧ AS w w' F L n v q := by
  refine (calls_seq_Forest_Reverse _ _ _ (fun v' w' => v' = errV 12 ∧ AS w w' F L n v q) ?_).mono (by rintro e w' ⟨v, rfl, rfl, k⟩; exact ⟨rfl, k⟩)
  unfold sh_seq_Forest_Reverse
  refine alo_r fun hrow => ?_
  refine (c_check1 h).mono ?_
  rintro e w5 ⟨rfl, rfl⟩
  have hck : ck1 n x = 12 := by unfold ck1; rw [if_neg hx]
  exact ⟨_, rfl, err_i (fun _ => by rw [hck]; exact ⟨rfl, h.start' _⟩) (fun e => by omega)⟩
theorem c_Reverse {x : Nat} (h : AF w.heap F L n v (A :: q)) (hx : x ∈ A) :
    Calls Pg fn_seq_Forest_Reverse #[.pointer (some ⟨F, 0, none⟩), .int .i64 x] w fun e w' => e = .returned (errV 0) ∧ AS w w' F L n v (A.reverse :: q) := by
  obtain ⟨_, hlt, _, _, hn, _⟩ := h.nodup
  have hxn := hlt A (by simp) x hx
  refine (calls_seq_Forest_Reverse _ _ _ (fun v' w' => v' = errV 0 ∧ AS w w' F L n v (A.reverse :: q)) ?_).mono (by rintro e w' ⟨v, rfl, rfl, k⟩; exact ⟨rfl, k⟩)
  unfold sh_seq_Forest_Reverse
  refine alo_r fun hrow => ?_
  refine (c_check1 h).mono ?_
  rintro e w5 ⟨rfl, rfl⟩
  refine ⟨_, rfl, err_i (fun e => by rw [ck1_ok hxn] at e; exact absurd rfl e) (fun _ => ?_)⟩
  rw [wrap32_in (by omega) (by omega)]
  refine (c_liftA (h.alloc _) hx).mono ?_
  rintro e w7 ⟨rfl, s, l, r, ts, hst, k, hs, hp⟩
  refine ⟨rfl, ?_⟩
  have hxx : (x : Int).toNat = x := by omega
  have hst := (h.start' _).st hst
  repeat (first | with_reducible refine pt_i ?_ | with_reducible refine ldS_F (by first | assumption | exact St.drew (by assumption) | exact St.drew (St.drew (by assumption)) | exact St.drew (St.drew (St.drew (by assumption)))) ?_ | with_reducible refine ixS_F (by omega) (by omega) ?_ | with_reducible refine ld_up (by first | assumption | exact St.drew (by assumption) | exact St.drew (St.drew (by assumption)) | exact St.drew (St.drew (St.drew (by assumption)))) (by omega) ?_ | with_reducible refine ld_left (by first | assumption | exact St.drew (by assumption) | exact St.drew (St.drew (by assumption)) | exact St.drew (St.drew (St.drew (by assumption)))) (by omega) ?_ | with_reducible refine ld_right (by first | assumption | exact St.drew (by assumption) | exact St.drew (St.drew (by assumption)) | exact St.drew (St.drew (St.drew (by assumption)))) (by omega) ?_ | with_reducible refine ld_turned (by first | assumption | exact St.drew (by assumption) | exact St.drew (St.drew (by assumption)) | exact St.drew (St.drew (St.drew (by assumption)))) (by omega) ?_ | with_reducible refine ld_size (by first | assumption | exact St.drew (by assumption) | exact St.drew (St.drew (by assumption)) | exact St.drew (St.drew (St.drew (by assumption)))) (by omega) ?_ | with_reducible refine ld_value (by first | assumption | exact St.drew (by assumption) | exact St.drew (St.drew (by assumption)) | exact St.drew (St.drew (St.drew (by assumption)))) (by omega) ?_ | with_reducible refine ld_sum (by first | assumption | exact St.drew (by assumption) | exact St.drew (St.drew (by assumption)) | exact St.drew (St.drew (St.drew (by assumption)))) (by omega) ?_ | with_reducible refine ld_least (by first | assumption | exact St.drew (by assumption) | exact St.drew (St.drew (by assumption)) | exact St.drew (St.drew (St.drew (by assumption)))) (by omega) ?_ | with_reducible refine ld_most (by first | assumption | exact St.drew (by assumption) | exact St.drew (St.drew (by assumption)) | exact St.drew (St.drew (St.drew (by assumption)))) (by omega) ?_ | (with_reducible refine st_up (by first | assumption | exact St.drew (by assumption) | exact St.drew (St.drew (by assumption)) | exact St.drew (St.drew (St.drew (by assumption)))) (by omega) (fun _ hst => ?_)) | (with_reducible refine st_left (by first | assumption | exact St.drew (by assumption) | exact St.drew (St.drew (by assumption)) | exact St.drew (St.drew (St.drew (by assumption)))) (by omega) (fun _ hst => ?_)) | (with_reducible refine st_right (by first | assumption | exact St.drew (by assumption) | exact St.drew (St.drew (by assumption)) | exact St.drew (St.drew (St.drew (by assumption)))) (by omega) (fun _ hst => ?_)) | (with_reducible refine st_turned (by first | assumption | exact St.drew (by assumption) | exact St.drew (St.drew (by assumption)) | exact St.drew (St.drew (St.drew (by assumption)))) (by omega) (fun _ hst => ?_)) | (with_reducible refine st_size (by first | assumption | exact St.drew (by assumption) | exact St.drew (St.drew (by assumption)) | exact St.drew (St.drew (St.drew (by assumption)))) (by omega) (fun _ hst => ?_)) | (with_reducible refine st_value (by first | assumption | exact St.drew (by assumption) | exact St.drew (St.drew (by assumption)) | exact St.drew (St.drew (St.drew (by assumption)))) (by omega) (fun _ hst => ?_)) | (with_reducible refine st_sum (by first | assumption | exact St.drew (by assumption) | exact St.drew (St.drew (by assumption)) | exact St.drew (St.drew (St.drew (by assumption)))) (by omega) (fun _ hst => ?_)) | (with_reducible refine st_least (by first | assumption | exact St.drew (by assumption) | exact St.drew (St.drew (by assumption)) | exact St.drew (St.drew (St.drew (by assumption)))) (by omega) (fun _ hst => ?_)) | (with_reducible refine st_most (by first | assumption | exact St.drew (by assumption) | exact St.drew (St.drew (by assumption)) | exact St.drew (St.drew (St.drew (by assumption)))) (by omega) (fun _ hst => ?_)) | simp only [S.up_w_up, S.left_w_up, S.right_w_up, S.turned_w_up, S.size_w_up, S.value_w_up, S.sum_w_up, S.least_w_up, S.most_w_up, S.up_w_left, S.left_w_left, S.right_w_left, S.turned_w_left, S.size_w_left, S.value_w_left, S.sum_w_left, S.least_w_left, S.most_w_left, S.up_w_right, S.left_w_right, S.right_w_right, S.turned_w_right, S.size_w_right, S.value_w_right, S.sum_w_right, S.least_w_right, S.most_w_right, S.up_w_turned, S.left_w_turned, S.right_w_turned, S.turned_w_turned, S.size_w_turned, S.value_w_turned, S.sum_w_turned, S.least_w_turned, S.most_w_turned, S.up_w_size, S.left_w_size, S.right_w_size, S.turned_w_size, S.size_w_size, S.value_w_size, S.sum_w_size, S.least_w_size, S.most_w_size, S.up_w_value, S.left_w_value, S.right_w_value, S.turned_w_value, S.size_w_value, S.value_w_value, S.sum_w_value, S.least_w_value, S.most_w_value, S.up_w_sum, S.left_w_sum, S.right_w_sum, S.turned_w_sum, S.size_w_sum, S.value_w_sum, S.sum_w_sum, S.least_w_sum, S.most_w_sum, S.up_w_least, S.left_w_least, S.right_w_least, S.turned_w_least, S.size_w_least, S.value_w_least, S.sum_w_least, S.least_w_least, S.most_w_least, S.up_w_most, S.left_w_most, S.right_w_most, S.turned_w_most, S.size_w_most, S.value_w_most, S.sum_w_most, S.least_w_most, S.most_w_most, upd_same])
  rw [hxx] at hst
  refine ⟨rfl, _, _, hst, fo_turn k, ?_⟩
  rw [List.map_cons]
  have : (T.node l x true r).seq = A.reverse := by rw [← hs]; simp [T.seq]
  rw [this]; exact hp.cons _

theorem c_Set_bad {x z : Int} (h : AF w.heap F L n v q) (hx : ¬ (0 ≤ x ∧ x < n)) :
    Calls Pg fn_seq_Forest_Set #[.pointer (some ⟨F, 0, none⟩), .int .i64 x, .int .i64 z] w fun e w' => e = .returned (errV 12) ∧ AS w w' F L n v q := by
  refine (calls_seq_Forest_Set _ _ _ _ (fun v' w' => v' = errV 12 ∧ AS w w' F L n v q) ?_).mono (by rintro e w' ⟨v, rfl, rfl, k⟩; exact ⟨rfl, k⟩)
  unfold sh_seq_Forest_Set
  refine alo_r fun hrow => ?_
  refine (c_check1 h).mono ?_
  rintro e w5 ⟨rfl, rfl⟩
  have hck : ck1 n x = 12 := by unfold ck1; rw [if_neg hx]
  exact ⟨_, rfl, err_i (fun _ => by rw [hck]; exact ⟨rfl, h.start' _⟩) (fun e => by omega)⟩
theorem c_Set {x : Nat} {z : Int} (h : AF w.heap F L n v (A :: q)) (hx : x ∈ A) (hz : -9223372036854775808 ≤ z ∧ z ≤ 9223372036854775807) :
    Calls Pg fn_seq_Forest_Set #[.pointer (some ⟨F, 0, none⟩), .int .i64 x, .int .i64 z] w fun e w' => e = .returned (errV 0) ∧ AS w w' F L n (upd v x z) (A :: q) := by
  obtain ⟨_, hlt, _, _, hn, _⟩ := h.nodup
  have hxn := hlt A (by simp) x hx
  refine (calls_seq_Forest_Set _ _ _ _ (fun v' w' => v' = errV 0 ∧ AS w w' F L n (upd v x z) (A :: q)) ?_).mono (by rintro e w' ⟨v, rfl, rfl, k⟩; exact ⟨rfl, k⟩)
  unfold sh_seq_Forest_Set
  refine alo_r fun hrow => ?_
  refine (c_check1 h).mono ?_
  rintro e w5 ⟨rfl, rfl⟩
  refine ⟨_, rfl, err_i (fun e => by rw [ck1_ok hxn] at e; exact absurd rfl e) (fun _ => ?_)⟩
  rw [wrap32_in (by omega) (by omega)]
  refine (c_liftA (h.alloc _) hx).mono ?_
  rintro e w7 ⟨rfl, s, l, r, ts, hst, k, hs, hp⟩
  refine ⟨rfl, ?_⟩
  have hxx : (x : Int).toNat = x := by omega
  have hst := (h.start' _).st hst
  repeat (first | with_reducible refine pt_i ?_ | with_reducible refine ldS_F (by first | assumption | exact St.drew (by assumption) | exact St.drew (St.drew (by assumption)) | exact St.drew (St.drew (St.drew (by assumption)))) ?_ | with_reducible refine ixS_F (by omega) (by omega) ?_ | with_reducible refine ld_up (by first | assumption | exact St.drew (by assumption) | exact St.drew (St.drew (by assumption)) | exact St.drew (St.drew (St.drew (by assumption)))) (by omega) ?_ | with_reducible refine ld_left (by first | assumption | exact St.drew (by assumption) | exact St.drew (St.drew (by assumption)) | exact St.drew (St.drew (St.drew (by assumption)))) (by omega) ?_ | with_reducible refine ld_right (by first | assumption | exact St.drew (by assumption) | exact St.drew (St.drew (by assumption)) | exact St.drew (St.drew (St.drew (by assumption)))) (by omega) ?_ | with_reducible refine ld_turned (by first | assumption | exact St.drew (by assumption) | exact St.drew (St.drew (by assumption)) | exact St.drew (St.drew (St.drew (by assumption)))) (by omega) ?_ | with_reducible refine ld_size (by first | assumption | exact St.drew (by assumption) | exact St.drew (St.drew (by assumption)) | exact St.drew (St.drew (St.drew (by assumption)))) (by omega) ?_ | with_reducible refine ld_value (by first | assumption | exact St.drew (by assumption) | exact St.drew (St.drew (by assumption)) | exact St.drew (St.drew (St.drew (by assumption)))) (by omega) ?_ | with_reducible refine ld_sum (by first | assumption | exact St.drew (by assumption) | exact St.drew (St.drew (by assumption)) | exact St.drew (St.drew (St.drew (by assumption)))) (by omega) ?_ | with_reducible refine ld_least (by first | assumption | exact St.drew (by assumption) | exact St.drew (St.drew (by assumption)) | exact St.drew (St.drew (St.drew (by assumption)))) (by omega) ?_ | with_reducible refine ld_most (by first | assumption | exact St.drew (by assumption) | exact St.drew (St.drew (by assumption)) | exact St.drew (St.drew (St.drew (by assumption)))) (by omega) ?_ | (with_reducible refine st_up (by first | assumption | exact St.drew (by assumption) | exact St.drew (St.drew (by assumption)) | exact St.drew (St.drew (St.drew (by assumption)))) (by omega) (fun _ hst => ?_)) | (with_reducible refine st_left (by first | assumption | exact St.drew (by assumption) | exact St.drew (St.drew (by assumption)) | exact St.drew (St.drew (St.drew (by assumption)))) (by omega) (fun _ hst => ?_)) | (with_reducible refine st_right (by first | assumption | exact St.drew (by assumption) | exact St.drew (St.drew (by assumption)) | exact St.drew (St.drew (St.drew (by assumption)))) (by omega) (fun _ hst => ?_)) | (with_reducible refine st_turned (by first | assumption | exact St.drew (by assumption) | exact St.drew (St.drew (by assumption)) | exact St.drew (St.drew (St.drew (by assumption)))) (by omega) (fun _ hst => ?_)) | (with_reducible refine st_size (by first | assumption | exact St.drew (by assumption) | exact St.drew (St.drew (by assumption)) | exact St.drew (St.drew (St.drew (by assumption)))) (by omega) (fun _ hst => ?_)) | (with_reducible refine st_value (by first | assumption | exact St.drew (by assumption) | exact St.drew (St.drew (by assumption)) | exact St.drew (St.drew (St.drew (by assumption)))) (by omega) (fun _ hst => ?_)) | (with_reducible refine st_sum (by first | assumption | exact St.drew (by assumption) | exact St.drew (St.drew (by assumption)) | exact St.drew (St.drew (St.drew (by assumption)))) (by omega) (fun _ hst => ?_)) | (with_reducible refine st_least (by first | assumption | exact St.drew (by assumption) | exact St.drew (St.drew (by assumption)) | exact St.drew (St.drew (St.drew (by assumption)))) (by omega) (fun _ hst => ?_)) | (with_reducible refine st_most (by first | assumption | exact St.drew (by assumption) | exact St.drew (St.drew (by assumption)) | exact St.drew (St.drew (St.drew (by assumption)))) (by omega) (fun _ hst => ?_)) | simp only [S.up_w_up, S.left_w_up, S.right_w_up, S.turned_w_up, S.size_w_up, S.value_w_up, S.sum_w_up, S.least_w_up, S.most_w_up, S.up_w_left, S.left_w_left, S.right_w_left, S.turned_w_left, S.size_w_left, S.value_w_left, S.sum_w_left, S.least_w_left, S.most_w_left, S.up_w_right, S.left_w_right, S.right_w_right, S.turned_w_right, S.size_w_right, S.value_w_right, S.sum_w_right, S.least_w_right, S.most_w_right, S.up_w_turned, S.left_w_turned, S.right_w_turned, S.turned_w_turned, S.size_w_turned, S.value_w_turned, S.sum_w_turned, S.least_w_turned, S.most_w_turned, S.up_w_size, S.left_w_size, S.right_w_size, S.turned_w_size, S.size_w_size, S.value_w_size, S.sum_w_size, S.least_w_size, S.most_w_size, S.up_w_value, S.left_w_value, S.right_w_value, S.turned_w_value, S.size_w_value, S.value_w_value, S.sum_w_value, S.least_w_value, S.most_w_value, S.up_w_sum, S.left_w_sum, S.right_w_sum, S.turned_w_sum, S.size_w_sum, S.value_w_sum, S.sum_w_sum, S.least_w_sum, S.most_w_sum, S.up_w_least, S.left_w_least, S.right_w_least, S.turned_w_least, S.size_w_least, S.value_w_least, S.sum_w_least, S.least_w_least, S.most_w_least, S.up_w_most, S.left_w_most, S.right_w_most, S.turned_w_most, S.size_w_most, S.value_w_most, S.sum_w_most, S.least_w_most, S.most_w_most, upd_same])
  refine (c_pull hst.i (by omega) (by omega) k.wf).mono ?_
  rintro e w8 ⟨rfl, hst8⟩
  rw [hxx] at hst8 hst
  refine ⟨rfl, rfl, _, _, hst.trans hst8, fo_set k hz, ?_⟩
  rw [List.map_cons, hs]; exact hp.cons _

theorem c_Cut_bad {x : Int} (h : AF w.heap F L n v q) (hx : ¬ (0 ≤ x ∧ x < n)) :
    Calls Pg fn_seq_Forest_Cut #[.pointer (some ⟨F, 0, none⟩), .int .i64 x] w fun e w' => e = .returned (.tuple #[.bool false, errV 12]) ∧ AS w w' F L n v q := by
  refine (calls_seq_Forest_Cut _ _ _ (fun v' w' => v' = .tuple #[.bool false, errV 12] ∧ AS w w' F L n v q) ?_).mono (by rintro e w' ⟨v, rfl, rfl, k⟩; exact ⟨rfl, k⟩)
  unfold sh_seq_Forest_Cut
  refine alo_r fun hrow => ?_
  refine (c_check1 h).mono ?_
  rintro e w5 ⟨rfl, rfl⟩
  have hck : ck1 n x = 12 := by unfold ck1; rw [if_neg hx]
  exact ⟨_, rfl, err_i (fun _ => by rw [hck]; exact ⟨rfl, h.start' _⟩) (fun e => by omega)⟩
/-- Parts of a list that meet at an item that stands in it once. -/
theorem split_unique {l a b c d : List Nat} {x : Nat} (h : l.Nodup) (h1 : l = a ++ x :: b) (h2 : l = c ++ x :: d) : a = c ∧ b = d := by
  subst h1
  induction a generalizing c with
  | nil =>
    cases c with
    | nil => injection h2 with _ h2; exact ⟨rfl, h2⟩
    | cons z c =>
      injection h2 with e1 e2
      subst e1
      rw [e2] at h
      simp at h
  | cons y a ih =>
    cases c with
    | nil =>
      injection h2 with e1 e2
      subst e1
      simp at h
    | cons z c =>
      injection h2 with e1 e2
      rw [List.cons_append, List.nodup_cons] at h
      obtain ⟨e3, e4⟩ := ih h.2 e2
      exact ⟨by rw [e1, e3], e4⟩
theorem c_Cut_no {x : Nat} {post : List Nat} (h : AF w.heap F L n v ((x :: post) :: q)) :
    Calls Pg fn_seq_Forest_Cut #[.pointer (some ⟨F, 0, none⟩), .int .i64 x] w fun e w' => e = .returned (.tuple #[.bool false, errV 0]) ∧ AS w w' F L n v ((x :: post) :: q) := by
  obtain ⟨hnd, hlt, _, _, hn, _⟩ := h.nodup
  have hxn := hlt (x :: post) (by simp) x (by simp)
  refine (calls_seq_Forest_Cut _ _ _ (fun v' w' => v' = .tuple #[.bool false, errV 0] ∧ AS w w' F L n v ((x :: post) :: q)) ?_).mono (by rintro e w' ⟨v, rfl, rfl, k⟩; exact ⟨rfl, k⟩)
  unfold sh_seq_Forest_Cut
  refine alo_r fun hrow => ?_
  refine (c_check1 h).mono ?_
  rintro e w5 ⟨rfl, rfl⟩
  refine ⟨_, rfl, err_i (fun e => by rw [ck1_ok hxn] at e; exact absurd rfl e) (fun _ => ?_)⟩
  rw [wrap32_in (by omega) (by omega)]
  refine (c_liftA (h.alloc _) (by simp)).mono ?_
  rintro e w7 ⟨rfl, s, l, r, ts, hst, k, hs, hp⟩
  refine ⟨rfl, ?_⟩
  have hxx : (x : Int).toNat = x := by omega
  have hst := (h.start' _).st hst
  have hnd1 : (x :: post).Nodup := by simp only [List.flatten_cons, List.nodup_append] at hnd; exact hnd.1
  have hl : l = .nil := by
    have e := split_unique hnd1 hs.symm (show x :: post = [] ++ x :: post from rfl)
    exact seq_nil e.1
  subst hl
  repeat (first | with_reducible refine pt_i ?_ | with_reducible refine ldS_F (by first | assumption | exact St.drew (by assumption) | exact St.drew (St.drew (by assumption)) | exact St.drew (St.drew (St.drew (by assumption)))) ?_ | with_reducible refine ixS_F (by omega) (by omega) ?_ | with_reducible refine ld_up (by first | assumption | exact St.drew (by assumption) | exact St.drew (St.drew (by assumption)) | exact St.drew (St.drew (St.drew (by assumption)))) (by omega) ?_ | with_reducible refine ld_left (by first | assumption | exact St.drew (by assumption) | exact St.drew (St.drew (by assumption)) | exact St.drew (St.drew (St.drew (by assumption)))) (by omega) ?_ | with_reducible refine ld_right (by first | assumption | exact St.drew (by assumption) | exact St.drew (St.drew (by assumption)) | exact St.drew (St.drew (St.drew (by assumption)))) (by omega) ?_ | with_reducible refine ld_turned (by first | assumption | exact St.drew (by assumption) | exact St.drew (St.drew (by assumption)) | exact St.drew (St.drew (St.drew (by assumption)))) (by omega) ?_ | with_reducible refine ld_size (by first | assumption | exact St.drew (by assumption) | exact St.drew (St.drew (by assumption)) | exact St.drew (St.drew (St.drew (by assumption)))) (by omega) ?_ | with_reducible refine ld_value (by first | assumption | exact St.drew (by assumption) | exact St.drew (St.drew (by assumption)) | exact St.drew (St.drew (St.drew (by assumption)))) (by omega) ?_ | with_reducible refine ld_sum (by first | assumption | exact St.drew (by assumption) | exact St.drew (St.drew (by assumption)) | exact St.drew (St.drew (St.drew (by assumption)))) (by omega) ?_ | with_reducible refine ld_least (by first | assumption | exact St.drew (by assumption) | exact St.drew (St.drew (by assumption)) | exact St.drew (St.drew (St.drew (by assumption)))) (by omega) ?_ | with_reducible refine ld_most (by first | assumption | exact St.drew (by assumption) | exact St.drew (St.drew (by assumption)) | exact St.drew (St.drew (St.drew (by assumption)))) (by omega) ?_ | (with_reducible refine st_up (by first | assumption | exact St.drew (by assumption) | exact St.drew (St.drew (by assumption)) | exact St.drew (St.drew (St.drew (by assumption)))) (by omega) (fun _ hst => ?_)) | (with_reducible refine st_left (by first | assumption | exact St.drew (by assumption) | exact St.drew (St.drew (by assumption)) | exact St.drew (St.drew (St.drew (by assumption)))) (by omega) (fun _ hst => ?_)) | (with_reducible refine st_right (by first | assumption | exact St.drew (by assumption) | exact St.drew (St.drew (by assumption)) | exact St.drew (St.drew (St.drew (by assumption)))) (by omega) (fun _ hst => ?_)) | (with_reducible refine st_turned (by first | assumption | exact St.drew (by assumption) | exact St.drew (St.drew (by assumption)) | exact St.drew (St.drew (St.drew (by assumption)))) (by omega) (fun _ hst => ?_)) | (with_reducible refine st_size (by first | assumption | exact St.drew (by assumption) | exact St.drew (St.drew (by assumption)) | exact St.drew (St.drew (St.drew (by assumption)))) (by omega) (fun _ hst => ?_)) | (with_reducible refine st_value (by first | assumption | exact St.drew (by assumption) | exact St.drew (St.drew (by assumption)) | exact St.drew (St.drew (St.drew (by assumption)))) (by omega) (fun _ hst => ?_)) | (with_reducible refine st_sum (by first | assumption | exact St.drew (by assumption) | exact St.drew (St.drew (by assumption)) | exact St.drew (St.drew (St.drew (by assumption)))) (by omega) (fun _ hst => ?_)) | (with_reducible refine st_least (by first | assumption | exact St.drew (by assumption) | exact St.drew (St.drew (by assumption)) | exact St.drew (St.drew (St.drew (by assumption)))) (by omega) (fun _ hst => ?_)) | (with_reducible refine st_most (by first | assumption | exact St.drew (by assumption) | exact St.drew (St.drew (by assumption)) | exact St.drew (St.drew (St.drew (by assumption)))) (by omega) (fun _ hst => ?_)) | simp only [S.up_w_up, S.left_w_up, S.right_w_up, S.turned_w_up, S.size_w_up, S.value_w_up, S.sum_w_up, S.least_w_up, S.most_w_up, S.up_w_left, S.left_w_left, S.right_w_left, S.turned_w_left, S.size_w_left, S.value_w_left, S.sum_w_left, S.least_w_left, S.most_w_left, S.up_w_right, S.left_w_right, S.right_w_right, S.turned_w_right, S.size_w_right, S.value_w_right, S.sum_w_right, S.least_w_right, S.most_w_right, S.up_w_turned, S.left_w_turned, S.right_w_turned, S.turned_w_turned, S.size_w_turned, S.value_w_turned, S.sum_w_turned, S.least_w_turned, S.most_w_turned, S.up_w_size, S.left_w_size, S.right_w_size, S.turned_w_size, S.size_w_size, S.value_w_size, S.sum_w_size, S.least_w_size, S.most_w_size, S.up_w_value, S.left_w_value, S.right_w_value, S.turned_w_value, S.size_w_value, S.value_w_value, S.sum_w_value, S.least_w_value, S.most_w_value, S.up_w_sum, S.left_w_sum, S.right_w_sum, S.turned_w_sum, S.size_w_sum, S.value_w_sum, S.sum_w_sum, S.least_w_sum, S.most_w_sum, S.up_w_least, S.left_w_least, S.right_w_least, S.turned_w_least, S.size_w_least, S.value_w_least, S.sum_w_least, S.least_w_least, S.most_w_least, S.up_w_most, S.left_w_most, S.right_w_most, S.turned_w_most, S.size_w_most, S.value_w_most, S.sum_w_most, S.least_w_most, S.most_w_most, upd_same])
  rw [hxx]
  have hleft : s.left x = -1 := k.tr.rep.1.left
  rw [hleft]
  refine bif_i (fun _ => ?_) (fun h => by cases h)
  refine ⟨rfl, s, _, hst, k, ?_⟩
  rw [List.map_cons, hs]; exact hp.cons _
theorem c_Cut_yes {x : Nat} {pre post : List Nat} (h : AF w.heap F L n v ((pre ++ x :: post) :: q)) (hpre : pre ≠ []) :
    Calls Pg fn_seq_Forest_Cut #[.pointer (some ⟨F, 0, none⟩), .int .i64 x] w fun e w' => e = .returned (.tuple #[.bool true, errV 0]) ∧ AS w w' F L n v (pre :: (x :: post) :: q) := by
  obtain ⟨hnd, hlt, _, _, hn, _⟩ := h.nodup
  have hxn := hlt (pre ++ x :: post) (by simp) x (by simp)
  refine (calls_seq_Forest_Cut _ _ _ (fun v' w' => v' = .tuple #[.bool true, errV 0] ∧ AS w w' F L n v (pre :: (x :: post) :: q)) ?_).mono (by rintro e w' ⟨v, rfl, rfl, k⟩; exact ⟨rfl, k⟩)
  unfold sh_seq_Forest_Cut
  refine alo_r fun hrow => ?_
  refine (c_check1 h).mono ?_
  rintro e w5 ⟨rfl, rfl⟩
  refine ⟨_, rfl, err_i (fun e => by rw [ck1_ok hxn] at e; exact absurd rfl e) (fun _ => ?_)⟩
  rw [wrap32_in (by omega) (by omega)]
  refine (c_liftA (h.alloc _) (by simp)).mono ?_
  rintro e w7 ⟨rfl, s, l, r, ts, hst, k, hs, hp⟩
  refine ⟨rfl, ?_⟩
  have hxx : (x : Int).toNat = x := by omega
  have hst := (h.start' _).st hst
  have hnd1 : (pre ++ x :: post).Nodup := by simp only [List.flatten_cons, List.nodup_append] at hnd; simp only [List.nodup_append]; exact hnd.1
  obtain ⟨e1, e2⟩ := split_unique hnd1 hs.symm rfl
  have hl : l ≠ .nil := by
    rintro rfl
    exact hpre e1.symm
  repeat (first | with_reducible refine pt_i ?_ | with_reducible refine ldS_F (by first | assumption | exact St.drew (by assumption) | exact St.drew (St.drew (by assumption)) | exact St.drew (St.drew (St.drew (by assumption)))) ?_ | with_reducible refine ixS_F (by omega) (by omega) ?_ | with_reducible refine ld_up (by first | assumption | exact St.drew (by assumption) | exact St.drew (St.drew (by assumption)) | exact St.drew (St.drew (St.drew (by assumption)))) (by omega) ?_ | with_reducible refine ld_left (by first | assumption | exact St.drew (by assumption) | exact St.drew (St.drew (by assumption)) | exact St.drew (St.drew (St.drew (by assumption)))) (by omega) ?_ | with_reducible refine ld_right (by first | assumption | exact St.drew (by assumption) | exact St.drew (St.drew (by assumption)) | exact St.drew (St.drew (St.drew (by assumption)))) (by omega) ?_ | with_reducible refine ld_turned (by first | assumption | exact St.drew (by assumption) | exact St.drew (St.drew (by assumption)) | exact St.drew (St.drew (St.drew (by assumption)))) (by omega) ?_ | with_reducible refine ld_size (by first | assumption | exact St.drew (by assumption) | exact St.drew (St.drew (by assumption)) | exact St.drew (St.drew (St.drew (by assumption)))) (by omega) ?_ | with_reducible refine ld_value (by first | assumption | exact St.drew (by assumption) | exact St.drew (St.drew (by assumption)) | exact St.drew (St.drew (St.drew (by assumption)))) (by omega) ?_ | with_reducible refine ld_sum (by first | assumption | exact St.drew (by assumption) | exact St.drew (St.drew (by assumption)) | exact St.drew (St.drew (St.drew (by assumption)))) (by omega) ?_ | with_reducible refine ld_least (by first | assumption | exact St.drew (by assumption) | exact St.drew (St.drew (by assumption)) | exact St.drew (St.drew (St.drew (by assumption)))) (by omega) ?_ | with_reducible refine ld_most (by first | assumption | exact St.drew (by assumption) | exact St.drew (St.drew (by assumption)) | exact St.drew (St.drew (St.drew (by assumption)))) (by omega) ?_ | (with_reducible refine st_up (by first | assumption | exact St.drew (by assumption) | exact St.drew (St.drew (by assumption)) | exact St.drew (St.drew (St.drew (by assumption)))) (by omega) (fun _ hst => ?_)) | (with_reducible refine st_left (by first | assumption | exact St.drew (by assumption) | exact St.drew (St.drew (by assumption)) | exact St.drew (St.drew (St.drew (by assumption)))) (by omega) (fun _ hst => ?_)) | (with_reducible refine st_right (by first | assumption | exact St.drew (by assumption) | exact St.drew (St.drew (by assumption)) | exact St.drew (St.drew (St.drew (by assumption)))) (by omega) (fun _ hst => ?_)) | (with_reducible refine st_turned (by first | assumption | exact St.drew (by assumption) | exact St.drew (St.drew (by assumption)) | exact St.drew (St.drew (St.drew (by assumption)))) (by omega) (fun _ hst => ?_)) | (with_reducible refine st_size (by first | assumption | exact St.drew (by assumption) | exact St.drew (St.drew (by assumption)) | exact St.drew (St.drew (St.drew (by assumption)))) (by omega) (fun _ hst => ?_)) | (with_reducible refine st_value (by first | assumption | exact St.drew (by assumption) | exact St.drew (St.drew (by assumption)) | exact St.drew (St.drew (St.drew (by assumption)))) (by omega) (fun _ hst => ?_)) | (with_reducible refine st_sum (by first | assumption | exact St.drew (by assumption) | exact St.drew (St.drew (by assumption)) | exact St.drew (St.drew (St.drew (by assumption)))) (by omega) (fun _ hst => ?_)) | (with_reducible refine st_least (by first | assumption | exact St.drew (by assumption) | exact St.drew (St.drew (by assumption)) | exact St.drew (St.drew (St.drew (by assumption)))) (by omega) (fun _ hst => ?_)) | (with_reducible refine st_most (by first | assumption | exact St.drew (by assumption) | exact St.drew (St.drew (by assumption)) | exact St.drew (St.drew (St.drew (by assumption)))) (by omega) (fun _ hst => ?_)) | simp only [S.up_w_up, S.left_w_up, S.right_w_up, S.turned_w_up, S.size_w_up, S.value_w_up, S.sum_w_up, S.least_w_up, S.most_w_up, S.up_w_left, S.left_w_left, S.right_w_left, S.turned_w_left, S.size_w_left, S.value_w_left, S.sum_w_left, S.least_w_left, S.most_w_left, S.up_w_right, S.left_w_right, S.right_w_right, S.turned_w_right, S.size_w_right, S.value_w_right, S.sum_w_right, S.least_w_right, S.most_w_right, S.up_w_turned, S.left_w_turned, S.right_w_turned, S.turned_w_turned, S.size_w_turned, S.value_w_turned, S.sum_w_turned, S.least_w_turned, S.most_w_turned, S.up_w_size, S.left_w_size, S.right_w_size, S.turned_w_size, S.size_w_size, S.value_w_size, S.sum_w_size, S.least_w_size, S.most_w_size, S.up_w_value, S.left_w_value, S.right_w_value, S.turned_w_value, S.size_w_value, S.value_w_value, S.sum_w_value, S.least_w_value, S.most_w_value, S.up_w_sum, S.left_w_sum, S.right_w_sum, S.turned_w_sum, S.size_w_sum, S.value_w_sum, S.sum_w_sum, S.least_w_sum, S.most_w_sum, S.up_w_least, S.left_w_least, S.right_w_least, S.turned_w_least, S.size_w_least, S.value_w_least, S.sum_w_least, S.least_w_least, S.most_w_least, S.up_w_most, S.left_w_most, S.right_w_most, S.turned_w_most, S.size_w_most, S.value_w_most, S.sum_w_most, S.least_w_most, S.most_w_most, upd_same])
  rw [hxx]
  have hleft : s.left x = l.rt := k.tr.rep.1.left
  have hl0 : l.rt ≠ -1 ∧ 0 ≤ l.rt ∧ l.rt < n := by
    rcases rt_cases l with e | ⟨z, e, hz⟩
    · cases l with
      | nil => exact absurd rfl hl
      | node => simp [T.rt] at e
    · have := k.tr.bd z (by simp [T.ls, hz]); omega
  rw [hleft]
  refine bif_i (fun hc => ?_) (fun _ => ?_)
  · simp at hc; exact absurd hc hl0.1
  have h1 := hl0.2.1
  have h2 := hl0.2.2
  repeat (first | with_reducible refine pt_i ?_ | with_reducible refine ldS_F (by first | assumption | exact St.drew (by assumption) | exact St.drew (St.drew (by assumption)) | exact St.drew (St.drew (St.drew (by assumption)))) ?_ | with_reducible refine ixS_F (by omega) (by omega) ?_ | with_reducible refine ld_up (by first | assumption | exact St.drew (by assumption) | exact St.drew (St.drew (by assumption)) | exact St.drew (St.drew (St.drew (by assumption)))) (by omega) ?_ | with_reducible refine ld_left (by first | assumption | exact St.drew (by assumption) | exact St.drew (St.drew (by assumption)) | exact St.drew (St.drew (St.drew (by assumption)))) (by omega) ?_ | with_reducible refine ld_right (by first | assumption | exact St.drew (by assumption) | exact St.drew (St.drew (by assumption)) | exact St.drew (St.drew (St.drew (by assumption)))) (by omega) ?_ | with_reducible refine ld_turned (by first | assumption | exact St.drew (by assumption) | exact St.drew (St.drew (by assumption)) | exact St.drew (St.drew (St.drew (by assumption)))) (by omega) ?_ | with_reducible refine ld_size (by first | assumption | exact St.drew (by assumption) | exact St.drew (St.drew (by assumption)) | exact St.drew (St.drew (St.drew (by assumption)))) (by omega) ?_ | with_reducible refine ld_value (by first | assumption | exact St.drew (by assumption) | exact St.drew (St.drew (by assumption)) | exact St.drew (St.drew (St.drew (by assumption)))) (by omega) ?_ | with_reducible refine ld_sum (by first | assumption | exact St.drew (by assumption) | exact St.drew (St.drew (by assumption)) | exact St.drew (St.drew (St.drew (by assumption)))) (by omega) ?_ | with_reducible refine ld_least (by first | assumption | exact St.drew (by assumption) | exact St.drew (St.drew (by assumption)) | exact St.drew (St.drew (St.drew (by assumption)))) (by omega) ?_ | with_reducible refine ld_most (by first | assumption | exact St.drew (by assumption) | exact St.drew (St.drew (by assumption)) | exact St.drew (St.drew (St.drew (by assumption)))) (by omega) ?_ | (with_reducible refine st_up (by first | assumption | exact St.drew (by assumption) | exact St.drew (St.drew (by assumption)) | exact St.drew (St.drew (St.drew (by assumption)))) (by omega) (fun _ hst => ?_)) | (with_reducible refine st_left (by first | assumption | exact St.drew (by assumption) | exact St.drew (St.drew (by assumption)) | exact St.drew (St.drew (St.drew (by assumption)))) (by omega) (fun _ hst => ?_)) | (with_reducible refine st_right (by first | assumption | exact St.drew (by assumption) | exact St.drew (St.drew (by assumption)) | exact St.drew (St.drew (St.drew (by assumption)))) (by omega) (fun _ hst => ?_)) | (with_reducible refine st_turned (by first | assumption | exact St.drew (by assumption) | exact St.drew (St.drew (by assumption)) | exact St.drew (St.drew (St.drew (by assumption)))) (by omega) (fun _ hst => ?_)) | (with_reducible refine st_size (by first | assumption | exact St.drew (by assumption) | exact St.drew (St.drew (by assumption)) | exact St.drew (St.drew (St.drew (by assumption)))) (by omega) (fun _ hst => ?_)) | (with_reducible refine st_value (by first | assumption | exact St.drew (by assumption) | exact St.drew (St.drew (by assumption)) | exact St.drew (St.drew (St.drew (by assumption)))) (by omega) (fun _ hst => ?_)) | (with_reducible refine st_sum (by first | assumption | exact St.drew (by assumption) | exact St.drew (St.drew (by assumption)) | exact St.drew (St.drew (St.drew (by assumption)))) (by omega) (fun _ hst => ?_)) | (with_reducible refine st_least (by first | assumption | exact St.drew (by assumption) | exact St.drew (St.drew (by assumption)) | exact St.drew (St.drew (St.drew (by assumption)))) (by omega) (fun _ hst => ?_)) | (with_reducible refine st_most (by first | assumption | exact St.drew (by assumption) | exact St.drew (St.drew (by assumption)) | exact St.drew (St.drew (St.drew (by assumption)))) (by omega) (fun _ hst => ?_)) | simp only [S.up_w_up, S.left_w_up, S.right_w_up, S.turned_w_up, S.size_w_up, S.value_w_up, S.sum_w_up, S.least_w_up, S.most_w_up, S.up_w_left, S.left_w_left, S.right_w_left, S.turned_w_left, S.size_w_left, S.value_w_left, S.sum_w_left, S.least_w_left, S.most_w_left, S.up_w_right, S.left_w_right, S.right_w_right, S.turned_w_right, S.size_w_right, S.value_w_right, S.sum_w_right, S.least_w_right, S.most_w_right, S.up_w_turned, S.left_w_turned, S.right_w_turned, S.turned_w_turned, S.size_w_turned, S.value_w_turned, S.sum_w_turned, S.least_w_turned, S.most_w_turned, S.up_w_size, S.left_w_size, S.right_w_size, S.turned_w_size, S.size_w_size, S.value_w_size, S.sum_w_size, S.least_w_size, S.most_w_size, S.up_w_value, S.left_w_value, S.right_w_value, S.turned_w_value, S.size_w_value, S.value_w_value, S.sum_w_value, S.least_w_value, S.most_w_value, S.up_w_sum, S.left_w_sum, S.right_w_sum, S.turned_w_sum, S.size_w_sum, S.value_w_sum, S.sum_w_sum, S.least_w_sum, S.most_w_sum, S.up_w_least, S.left_w_least, S.right_w_least, S.turned_w_least, S.size_w_least, S.value_w_least, S.sum_w_least, S.least_w_least, S.most_w_least, S.up_w_most, S.left_w_most, S.right_w_most, S.turned_w_most, S.size_w_most, S.value_w_most, S.sum_w_most, S.least_w_most, S.most_w_most, upd_same])
  have hkc := fo_cut k hl
  have hwf : Wf n ((s.w_up l.rt.toNat (-1)).w_left x (-1)) := by
    have := hkc.wf
    obtain ⟨p1, p2, p3, _⟩ := pullS_links ((s.w_up l.rt.toNat (-1)).w_left x (-1)) x
    intro i hi
    have := this i hi
    rwa [p1, p2, p3] at this
  rw [hxx] at hst
  refine (c_pull hst.i (by omega) (by omega) hwf).mono ?_
  rintro e w8 ⟨rfl, hst8⟩
  refine ⟨rfl, rfl, _, _, hst.trans hst8, hkc, ?_⟩
  rw [List.map_cons, List.map_cons, e1]
  have : (T.node .nil x false r).seq = x :: post := by simp [T.seq, e2]
  rw [this]
  exact (hp.cons _).cons _

theorem c_Join_bad {x y : Int} (h : AF w.heap F L n v q) (hx : ¬ ((0 ≤ x ∧ x < n) ∧ (0 ≤ y ∧ y < n))) :
    Calls Pg fn_seq_Forest_Join #[.pointer (some ⟨F, 0, none⟩), .int .i64 x, .int .i64 y] w fun e w' => e = .returned (errV 12) ∧ AS w w' F L n v q := by
  refine (calls_seq_Forest_Join _ _ _ _ (fun v' w' => v' = errV 12 ∧ AS w w' F L n v q) ?_).mono (by rintro e w' ⟨v, rfl, rfl, k⟩; exact ⟨rfl, k⟩)
  unfold sh_seq_Forest_Join
  refine alo_r fun hrow => ?_
  refine (c_check2 h).mono ?_
  rintro e w5 ⟨rfl, rfl⟩
  have hck : ck2 n x y = 12 := by unfold ck2; rw [if_neg hx]
  exact ⟨_, rfl, err_i (fun _ => by rw [hck]; exact ⟨rfl, h.start' _⟩) (fun e => by omega)⟩
theorem c_Join_no (h : AF w.heap F L n v (A :: q)) (ha : a ∈ A) (hb : b ∈ A) :
    Calls Pg fn_seq_Forest_Join #[.pointer (some ⟨F, 0, none⟩), .int .i64 a, .int .i64 b] w fun e w' => e = .returned (errV 20) ∧ AS w w' F L n v (A :: q) := by
  obtain ⟨hnd, hlt, _, _, hn, _⟩ := h.nodup
  have han := hlt A (by simp) a ha
  have hbn := hlt A (by simp) b hb
  refine (calls_seq_Forest_Join _ _ _ _ (fun v' w' => v' = errV 20 ∧ AS w w' F L n v (A :: q)) ?_).mono (by rintro e w' ⟨v, rfl, rfl, k⟩; exact ⟨rfl, k⟩)
  unfold sh_seq_Forest_Join
  refine alo_r fun hrow => ?_
  refine (c_check2 h).mono ?_
  rintro e w5 ⟨rfl, rfl⟩
  refine ⟨_, rfl, err_i (fun e => by rw [ck2_ok han hbn] at e; exact absurd rfl e) (fun _ => ?_)⟩
  rw [wrap32_in (by omega) (by omega), wrap32_in (by omega) (by omega)]
  refine (c_same_yes (h.alloc _) ha hb).mono ?_
  rintro e w7 ⟨rfl, has⟩
  exact ⟨_, rfl, rfl, (h.start' _).trans has⟩
theorem c_Join (h : AF w.heap F L n v (A :: B :: q)) (ha : a ∈ A) (hb : b ∈ B) :
    Calls Pg fn_seq_Forest_Join #[.pointer (some ⟨F, 0, none⟩), .int .i64 a, .int .i64 b] w fun e w' => e = .returned (errV 0) ∧ AS w w' F L n v ((A ++ B) :: q) := by
  obtain ⟨hnd, hlt, _, _, hn, _⟩ := h.nodup
  have han := hlt A (by simp) a ha
  have hbn := hlt B (by simp) b hb
  refine (calls_seq_Forest_Join _ _ _ _ (fun v' w' => v' = errV 0 ∧ AS w w' F L n v ((A ++ B) :: q)) ?_).mono (by rintro e w' ⟨v, rfl, rfl, k⟩; exact ⟨rfl, k⟩)
  unfold sh_seq_Forest_Join
  refine alo_r fun hrow => ?_
  refine (c_check2 h).mono ?_
  rintro e w5 ⟨rfl, rfl⟩
  refine ⟨_, rfl, err_i (fun e => by rw [ck2_ok han hbn] at e; exact absurd rfl e) (fun _ => ?_)⟩
  rw [wrap32_in (by omega) (by omega), wrap32_in (by omega) (by omega)]
  refine (c_same_no (h.alloc _) ha hb).mono ?_
  rintro e w9 ⟨rfl, has⟩
  refine ⟨_, rfl, ?_⟩
  refine bif_i (fun h => by cases h) (fun _ => ?_)
  have has := (h.start' _).trans has
  obtain ⟨s9, t9, ts9, hi9, k9, hs9, hp9⟩ := has.af.head
  refine (c_end (first := false) hi9 k9 (mem_seq.1 (by rw [hs9]; exact ha))).mono ?_
  rintro e w12 ⟨y, rfl, s12, l12, r12, hst12, k12, hs12, hr12⟩
  refine ⟨_, rfl, ?_⟩
  simp only [Bool.false_eq_true, if_false] at hr12
  subst hr12
  have hst12 := has.st hst12
  have hyn : y < n := k12.tr.bd y (by simp [T.ls])
  -- b's tree
  have hBm : B ∈ ts9.map T.seq := hp9.mem_iff.1 (by simp)
  obtain ⟨tb, htb, hBe⟩ := List.mem_map.1 hBm
  obtain ⟨ta, tc, rfl⟩ := List.append_of_mem htb
  have k12' : Fo n s12 v (tb :: .node l12 y false .nil :: (ta ++ tc)) := k12.reorder (((List.perm_middle (l₁ := ta) (l₂ := tc) (a := tb)).cons _).trans (List.Perm.swap _ _ _))
  refine (c_lift hst12.i k12'.tr (mem_seq.1 (by rw [hBe]; exact hb))).mono ?_
  rintro e w14 ⟨rfl, s14, l14, r14, hst14, hg⟩
  refine ⟨rfl, ?_⟩
  have hst14 := hst12.trans hst14
  have k14 : Fo n s14 v (.node l12 y false .nil :: .node l14 b false r14 :: (ta ++ tc)) := (k12'.gd hg).reorder (List.Perm.swap _ _ _)
  refine (c_hang hst14.i (by omega) (by omega) (by omega) (by omega)).mono ?_
  rintro e w16 ⟨rfl, hst16⟩
  refine ⟨rfl, ?_⟩
  have hkj := fo_join k14 (show (T.node l14 b false r14).rt = b from rfl)
  refine (c_pull hst16.i (by omega) (by omega) (hangS_wf k14.wf (by omega) (by omega) (by omega) (by omega))).mono ?_
  rintro e w18 ⟨rfl, hst18⟩
  refine ⟨rfl, rfl, _, _, (hst14.trans hst16).trans hst18, hkj, ?_⟩
  rw [List.map_cons]
  have e1 : (T.node l12 y false (.node l14 b false r14)).seq = A ++ B := by
    have h1 : (T.node l14 b false r14).seq = B := by rw [hg.seq, hBe]
    have h2 : l12.seq ++ [y] = A := by rw [← hs9, ← hs12]; simp [T.seq]
    rw [← h1, ← h2]
    simp [T.seq]
  rw [e1]
  refine List.Perm.cons _ ?_
  have p2 : (B :: q).Perm (B :: (ta ++ tc).map T.seq) := by
    refine hp9.trans ?_
    rw [List.map_append, List.map_cons, hBe, List.map_append]
    exact List.perm_middle
  exact (List.perm_cons _).1 p2
end
end Seq
end Go.Proofs.YtledchlbmilneaaDoor
