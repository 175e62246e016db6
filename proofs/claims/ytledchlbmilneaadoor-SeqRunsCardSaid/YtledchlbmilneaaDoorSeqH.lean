/-
The calls of layer 4 over lists of sequences.
Conditions: those that each theorem states.
-/
import Derived.Test.YtledchlbmilneaaDoorSeqG
namespace Go.Proofs.YtledchlbmilneaaDoor
open Go
set_option linter.unusedVariables false
set_option linter.unusedSimpArgs false
namespace Seq

/-- The forest tells these sequences, these values. -/
def AF (h : Array Obj) (F L n : Nat) (v : Nat → Int) (q : List (List Nat)) : Prop := ∃ s ts, IsF h F L n s ∧ Fo n s v ts ∧ q.Perm (ts.map T.seq)
def AS (w₀ w : World) (F L n : Nat) (v : Nat → Int) (q : List (List Nat)) : Prop := ∃ s ts, St w₀ w F L n s ∧ Fo n s v ts ∧ q.Perm (ts.map T.seq)
section
variable {w₀ w w' : World} {F L n : Nat} {v : Nat → Int} {q q' : List (List Nat)} {A B : List Nat}
theorem AS.af (h : AS w₀ w F L n v q) : AF w.heap F L n v q := let ⟨s, ts, a, b, c⟩ := h; ⟨s, ts, a.i, b, c⟩
theorem AS.chg (h : AS w₀ w F L n v q) : Chg (· = L) w₀ w := let ⟨_, _, a, _⟩ := h; a.c
theorem AF.start (h : AF w.heap F L n v q) : AS w w F L n v q := let ⟨s, ts, a, b, c⟩ := h; ⟨s, ts, St.start a, b, c⟩
theorem AS.trans (h : AS w₀ w F L n v q) {v' : Nat → Int} (k : AS w w' F L n v' q') : AS w₀ w' F L n v' q' := by
  obtain ⟨s, ts, a, b, c⟩ := h
  obtain ⟨s', ts', a', b', c'⟩ := k
  exact ⟨s', ts', a.trans a', b', c'⟩
theorem AS.st {s : S} (h : AS w₀ w F L n v q) (k : St w w' F L n s) : St w₀ w' F L n s := let ⟨_, _, a, _, _⟩ := h; a.trans k
theorem AS.drew (h : AS w₀ w F L n v q) : AS w₀ w.drew F L n v q := let ⟨s, ts, a, b, c⟩ := h; ⟨s, ts, a.drew, b, c⟩
theorem AS.alloc (h : AS w₀ w F L n v q) (o : Obj) : AS w₀ (w.alloc o) F L n v q := let ⟨s, ts, a, b, c⟩ := h; ⟨s, ts, a.alloc o, b, c⟩
theorem AS.own (h : AS w₀ w F L n v q) (k : Chg (w₀.heap.size ≤ ·) w w') : AS w₀ w' F L n v q := let ⟨s, ts, a, b, c⟩ := h; ⟨s, ts, a.own k, b, c⟩
theorem AS.perm (h : AS w₀ w F L n v q) (p : q.Perm q') : AS w₀ w F L n v q' := let ⟨s, ts, a, b, c⟩ := h; ⟨s, ts, a, b, p.symm.trans c⟩
theorem AF.perm {h : Array Obj} (k : AF h F L n v q) (p : q.Perm q') : AF h F L n v q' := let ⟨s, ts, a, b, c⟩ := k; ⟨s, ts, a, b, p.symm.trans c⟩
theorem AF.alloc (h : AF w.heap F L n v q) (o : Obj) : AF (w.alloc o).heap F L n v q := let ⟨s, ts, a, b, c⟩ := h; ⟨s, ts, a.alloc o, b, c⟩
theorem AF.lt {h : Array Obj} (k : AF h F L n v q) : F < h.size ∧ L < h.size := let ⟨s, ts, a, b, c⟩ := k; ⟨a.f.lt, a.l.lt⟩
theorem AF.keep (h : AF w.heap F L n v q) {S : Nat → Prop} (c : Chg S w w') (hF : ¬ S F) (hL : ¬ S L) : AF w'.heap F L n v q := let ⟨s, ts, a, b, d⟩ := h; ⟨s, ts, a.chg c hF hL, b, d⟩
/-- The tree of one of the sequences. -/
theorem AF.head {h : Array Obj} (k : AF h F L n v (A :: q)) : ∃ s t ts, IsF h F L n s ∧ Fo n s v (t :: ts) ∧ t.seq = A ∧ q.Perm (ts.map T.seq) := by
  obtain ⟨s, ts, a, b, c⟩ := k
  have hm : A ∈ ts.map T.seq := c.mem_iff.1 (by simp)
  obtain ⟨t, ht, rfl⟩ := List.mem_map.1 hm
  obtain ⟨x, y, rfl⟩ := List.append_of_mem ht
  have p : (x ++ t :: y).Perm (t :: (x ++ y)) := List.perm_middle
  refine ⟨s, t, x ++ y, a, b.reorder p, rfl, ?_⟩
  have := c.trans (p.map T.seq)
  exact (List.perm_cons _).1 this
theorem AF.find {h : Array Obj} (k : AF h F L n v q) {x : Nat} (hx : x < n) : ∃ A q', q.Perm (A :: q') ∧ x ∈ A := by
  obtain ⟨s, ts, a, b, c⟩ := k
  obtain ⟨t, ts', p, hxt⟩ := b.split hx
  exact ⟨t.seq, ts'.map T.seq, c.trans (p.map T.seq), mem_seq.2 hxt⟩
theorem AF.nodup {h : Array Obj} (k : AF h F L n v q) : q.flatten.Nodup ∧ (∀ A ∈ q, ∀ x ∈ A, x < n) ∧ (∀ A ∈ q, A ≠ []) ∧ VR v ∧ n ≤ 8388608 ∧ (∀ x, x < n → ∃ A ∈ q, x ∈ A) := by
  obtain ⟨s, ts, a, b, c⟩ := k
  have p1 : q.flatten.Perm (ts.map T.seq).flatten := c.flatten
  have p2 : ((ts.map T.seq).flatten).Perm (ts.flatMap T.ls) := by
    rw [← List.flatMap_def]
    clear b c p1
    induction ts with
    | nil => exact List.Perm.refl _
    | cons t ts ih => rw [List.flatMap_cons, List.flatMap_cons]; exact t.seq_perm.append ih
  have hmem : ∀ x, x ∈ q.flatten ↔ x < n := fun x => by rw [(p1.trans p2).mem_iff, b.perm.mem_iff, List.mem_range]
  refine ⟨(p1.trans p2).nodup_iff.2 b.nodup, fun A hA x hx => (hmem x).1 (List.mem_flatten.2 ⟨A, hA, hx⟩), ?_, b.vr, b.small, fun x hx => ?_⟩
  · intro A hA e
    obtain ⟨t, ht, rfl⟩ := List.mem_map.1 (c.mem_iff.1 hA)
    exact (b.rep t ht).2 (seq_nil e)
  · obtain ⟨A, hA, hxA⟩ := List.mem_flatten.1 ((hmem x).2 hx); exact ⟨A, hA, hxA⟩
end

/-! ## check -/
def inAll (n : Nat) (xs : List Int) : Bool := xs.all fun x => decide (0 ≤ x) && decide (x < n)
theorem c_check {w : World} {F L n : Nat} {s : S} {g c : Nat} {xs : List Int} (h : IsF w.heap F L n s) (r : Row w.heap g T_int (xs.map fun x => .int .i64 x)) (hl : xs.length ≤ 1000000) :
    Calls Pg fn_seq_Forest_check #[.pointer (some ⟨F, 0, none⟩), .slice (some ⟨g, 0, none⟩) xs.length c] w fun e w' => e = .returned (errV (if inAll n xs then 0 else 12)) ∧ w' = w := by
  refine (calls_seq_Forest_check _ _ _ _ _ (fun v' w' => v' = errV (if inAll n xs then 0 else 12) ∧ w' = w) ?_).mono (by rintro e w' ⟨v, rfl, rfl, k⟩; exact ⟨rfl, k⟩)
  unfold sh_seq_Forest_check
  have hst := St.start h
  refine bif_i (fun h => by cases h) (fun _ => ?_)
  let J : Nat → List Value → World → Prop := fun j vs w' => ∃ a b, vs = [.int .i64 (a.length : Nat)] ∧ xs = a ++ b ∧ j = b.length ∧ inAll n a = true ∧ w' = w
  refine ⟨LI J, LM J, ⟨xs.length, [], xs, rfl, rfl, rfl, rfl, rfl⟩, ?_⟩
  intro _ i w5 hI
  obtain ⟨a, b, hvs, hab, hj, hin, rfl⟩ := hI.at
  simp only [List.cons.injEq, Value.int.injEq, and_true, true_and] at hvs
  subst hvs
  have hlab : xs.length = a.length + b.length := by rw [hab]; simp
  refine bif_i (fun hc => ?_) (fun hc => ?_) <;> simp only [bne_iff_ne, ne_eq, bne_eq_false_iff_eq, Bool.not_eq_true, beq_iff_eq, beq_eq_false_iff_ne, decide_eq_true_eq, decide_eq_false_iff_not, Bool.not_eq_true', Bool.not_eq_false'] at hc
  · cases b with
    | nil => simp at hlab; omega
    | cons x b =>
      refine ixS_i (by omega) ?_
      refine ldI_r (n := x) r (by rw [hab]; simp) ?_
      have hbad : ¬ (0 ≤ x ∧ x < n) → errV (if inAll n xs then 0 else 12) = .iface T_api_Errno (.int .i64 12) := by
        intro hb
        have hd : (decide (0 ≤ x) && decide (x < (n : Int))) = false := by
          rw [Bool.and_eq_false_iff, decide_eq_false_iff_not, decide_eq_false_iff_not]; omega
        have : inAll n xs = false := by unfold inAll; rw [hab, List.all_append, List.all_cons, hd, Bool.false_and, Bool.and_false]
        rw [this]; rfl
      refine bif_i (fun h1 => ?_) (fun h1 => ?_) <;> simp only [bne_iff_ne, ne_eq, bne_eq_false_iff_eq, Bool.not_eq_true, beq_iff_eq, beq_eq_false_iff_ne, decide_eq_true_eq, decide_eq_false_iff_not, Bool.not_eq_true', Bool.not_eq_false'] at h1
      · exact ⟨(hbad (by omega)).symm, by first | rfl | trivial⟩
      · repeat (first | with_reducible refine pt_i ?_ | with_reducible refine ldS_F (by first | assumption | exact St.drew (by assumption) | exact St.drew (St.drew (by assumption)) | exact St.drew (St.drew (St.drew (by assumption)))) ?_ | with_reducible refine ixS_F (by omega) (by omega) ?_ | with_reducible refine ld_up (by first | assumption | exact St.drew (by assumption) | exact St.drew (St.drew (by assumption)) | exact St.drew (St.drew (St.drew (by assumption)))) (by omega) ?_ | with_reducible refine ld_left (by first | assumption | exact St.drew (by assumption) | exact St.drew (St.drew (by assumption)) | exact St.drew (St.drew (St.drew (by assumption)))) (by omega) ?_ | with_reducible refine ld_right (by first | assumption | exact St.drew (by assumption) | exact St.drew (St.drew (by assumption)) | exact St.drew (St.drew (St.drew (by assumption)))) (by omega) ?_ | with_reducible refine ld_turned (by first | assumption | exact St.drew (by assumption) | exact St.drew (St.drew (by assumption)) | exact St.drew (St.drew (St.drew (by assumption)))) (by omega) ?_ | with_reducible refine ld_size (by first | assumption | exact St.drew (by assumption) | exact St.drew (St.drew (by assumption)) | exact St.drew (St.drew (St.drew (by assumption)))) (by omega) ?_ | with_reducible refine ld_value (by first | assumption | exact St.drew (by assumption) | exact St.drew (St.drew (by assumption)) | exact St.drew (St.drew (St.drew (by assumption)))) (by omega) ?_ | with_reducible refine ld_sum (by first | assumption | exact St.drew (by assumption) | exact St.drew (St.drew (by assumption)) | exact St.drew (St.drew (St.drew (by assumption)))) (by omega) ?_ | with_reducible refine ld_least (by first | assumption | exact St.drew (by assumption) | exact St.drew (St.drew (by assumption)) | exact St.drew (St.drew (St.drew (by assumption)))) (by omega) ?_ | with_reducible refine ld_most (by first | assumption | exact St.drew (by assumption) | exact St.drew (St.drew (by assumption)) | exact St.drew (St.drew (St.drew (by assumption)))) (by omega) ?_ | (with_reducible refine st_up (by first | assumption | exact St.drew (by assumption) | exact St.drew (St.drew (by assumption)) | exact St.drew (St.drew (St.drew (by assumption)))) (by omega) (fun _ hst => ?_)) | (with_reducible refine st_left (by first | assumption | exact St.drew (by assumption) | exact St.drew (St.drew (by assumption)) | exact St.drew (St.drew (St.drew (by assumption)))) (by omega) (fun _ hst => ?_)) | (with_reducible refine st_right (by first | assumption | exact St.drew (by assumption) | exact St.drew (St.drew (by assumption)) | exact St.drew (St.drew (St.drew (by assumption)))) (by omega) (fun _ hst => ?_)) | (with_reducible refine st_turned (by first | assumption | exact St.drew (by assumption) | exact St.drew (St.drew (by assumption)) | exact St.drew (St.drew (St.drew (by assumption)))) (by omega) (fun _ hst => ?_)) | (with_reducible refine st_size (by first | assumption | exact St.drew (by assumption) | exact St.drew (St.drew (by assumption)) | exact St.drew (St.drew (St.drew (by assumption)))) (by omega) (fun _ hst => ?_)) | (with_reducible refine st_value (by first | assumption | exact St.drew (by assumption) | exact St.drew (St.drew (by assumption)) | exact St.drew (St.drew (St.drew (by assumption)))) (by omega) (fun _ hst => ?_)) | (with_reducible refine st_sum (by first | assumption | exact St.drew (by assumption) | exact St.drew (St.drew (by assumption)) | exact St.drew (St.drew (St.drew (by assumption)))) (by omega) (fun _ hst => ?_)) | (with_reducible refine st_least (by first | assumption | exact St.drew (by assumption) | exact St.drew (St.drew (by assumption)) | exact St.drew (St.drew (St.drew (by assumption)))) (by omega) (fun _ hst => ?_)) | (with_reducible refine st_most (by first | assumption | exact St.drew (by assumption) | exact St.drew (St.drew (by assumption)) | exact St.drew (St.drew (St.drew (by assumption)))) (by omega) (fun _ hst => ?_)) | simp only [S.up_w_up, S.left_w_up, S.right_w_up, S.turned_w_up, S.size_w_up, S.value_w_up, S.sum_w_up, S.least_w_up, S.most_w_up, S.up_w_left, S.left_w_left, S.right_w_left, S.turned_w_left, S.size_w_left, S.value_w_left, S.sum_w_left, S.least_w_left, S.most_w_left, S.up_w_right, S.left_w_right, S.right_w_right, S.turned_w_right, S.size_w_right, S.value_w_right, S.sum_w_right, S.least_w_right, S.most_w_right, S.up_w_turned, S.left_w_turned, S.right_w_turned, S.turned_w_turned, S.size_w_turned, S.value_w_turned, S.sum_w_turned, S.least_w_turned, S.most_w_turned, S.up_w_size, S.left_w_size, S.right_w_size, S.turned_w_size, S.size_w_size, S.value_w_size, S.sum_w_size, S.least_w_size, S.most_w_size, S.up_w_value, S.left_w_value, S.right_w_value, S.turned_w_value, S.size_w_value, S.value_w_value, S.sum_w_value, S.least_w_value, S.most_w_value, S.up_w_sum, S.left_w_sum, S.right_w_sum, S.turned_w_sum, S.size_w_sum, S.value_w_sum, S.sum_w_sum, S.least_w_sum, S.most_w_sum, S.up_w_least, S.left_w_least, S.right_w_least, S.turned_w_least, S.size_w_least, S.value_w_least, S.sum_w_least, S.least_w_least, S.most_w_least, S.up_w_most, S.left_w_most, S.right_w_most, S.turned_w_most, S.size_w_most, S.value_w_most, S.sum_w_most, S.least_w_most, S.most_w_most, upd_same])
        refine bif_i (fun h2 => ?_) (fun h2 => ?_) <;> simp only [bne_iff_ne, ne_eq, bne_eq_false_iff_eq, Bool.not_eq_true, beq_iff_eq, beq_eq_false_iff_ne, decide_eq_true_eq, decide_eq_false_iff_not, Bool.not_eq_true', Bool.not_eq_false'] at h2
        · exact ⟨(hbad (by omega)).symm, by first | rfl | trivial⟩
        · have e : IntKind.i64.wrap ((a.length : Int) + 1) = ((a ++ [x]).length : Nat) := by rw [wrap64_in (by omega) (by omega)]; simp
          rw [e]
          refine LI.again (k := b.length) ⟨a ++ [x], b, rfl, by rw [hab]; simp, rfl, ?_, rfl⟩ (by rw [hj]; simp)
          simp only [inAll, List.all_append, List.all_cons, List.all_nil, Bool.and_true, Bool.and_eq_true, decide_eq_true_eq] at hin ⊢
          exact ⟨hin, by omega, by omega⟩
  · have hb : b = [] := by cases b with
      | nil => rfl
      | cons => simp at hlab; omega
    subst hb
    have : inAll n xs = true := by rw [hab]; simpa using hin
    rw [this]
    exact ⟨rfl, rfl⟩
theorem c_check_nil {w : World} {b : Option Addr} {l c : Nat} :
    Calls Pg fn_seq_Forest_check #[.pointer none, .slice b l c] w fun e w' => e = .returned (errV 1) ∧ w' = w := by
  refine (calls_seq_Forest_check _ _ _ _ _ (fun v' w' => v' = errV 1 ∧ w' = w) ?_).mono (by rintro e w' ⟨v, rfl, rfl, k⟩; exact ⟨rfl, k⟩)
  unfold sh_seq_Forest_check
  exact bif_i (fun _ => ⟨rfl, rfl⟩) (fun h => by cases h)

/-! ## the inner calls -/
section
variable {w : World} {F L n : Nat} {v : Nat → Int} {q : List (List Nat)} {A B : List Nat} {a b x : Nat}

/-- 'lift', over sequences. -/
theorem c_liftA (h : AF w.heap F L n v (A :: q)) (hx : x ∈ A) :
    Calls Pg fn_seq_Forest_lift #[.pointer (some ⟨F, 0, none⟩), .int .i32 x] w fun e w' => e = .returned (.tuple #[]) ∧ ∃ s l r ts, St w w' F L n s ∧ Fo n s v (.node l x false r :: ts) ∧ (T.node l x false r).seq = A ∧ q.Perm (ts.map T.seq) := by
  obtain ⟨s, t, ts, hi, k, rfl, hp⟩ := h.head
  refine (c_liftF hi k (mem_seq.1 hx)).mono ?_
  rintro e w' ⟨he, s', l, r, hst, k', hs⟩
  exact ⟨he, s', l, r, ts, hst, k', hs, hp⟩

/-- 'same': of one sequence. -/
theorem c_same_yes (h : AF w.heap F L n v (A :: q)) (ha : a ∈ A) (hb : b ∈ A) :
    Calls Pg fn_seq_Forest_same #[.pointer (some ⟨F, 0, none⟩), .int .i32 a, .int .i32 b] w fun e w' => e = .returned (.bool true) ∧ AS w w' F L n v (A :: q) := by
  refine (calls_seq_Forest_same _ _ _ _ (fun v' w' => v' = .bool true ∧ AS w w' F L n v (A :: q)) ?_).mono (by rintro e w' ⟨v, rfl, rfl, k⟩; exact ⟨rfl, k⟩)
  unfold sh_seq_Forest_same
  obtain ⟨_, hlt, _, _, _, _⟩ := h.nodup
  have han := hlt A (by simp) a ha
  refine bif_i (fun hc => ⟨rfl, h.start⟩) (fun hc => ?_) <;> simp only [bne_iff_ne, ne_eq, bne_eq_false_iff_eq, Bool.not_eq_true, beq_iff_eq, beq_eq_false_iff_ne, decide_eq_true_eq, decide_eq_false_iff_not, Bool.not_eq_true', Bool.not_eq_false'] at hc
  refine (c_liftA h ha).mono ?_
  rintro e w3 ⟨rfl, s3, l3, r3, ts, hst3, k3, hs3, hp⟩
  refine ⟨rfl, ?_⟩
  refine (c_liftF hst3.i k3 (mem_seq.1 (by rw [hs3]; exact hb))).mono ?_
  rintro e w5 ⟨rfl, s5, l5, r5, hst5, k5, hs5⟩
  refine ⟨rfl, ?_⟩
  have haa : (a : Int).toNat = a := by omega
  repeat (first | with_reducible refine pt_i ?_ | with_reducible refine ldS_F (by first | assumption | exact St.drew (by assumption) | exact St.drew (St.drew (by assumption)) | exact St.drew (St.drew (St.drew (by assumption)))) ?_ | with_reducible refine ixS_F (by omega) (by omega) ?_ | with_reducible refine ld_up (by first | assumption | exact St.drew (by assumption) | exact St.drew (St.drew (by assumption)) | exact St.drew (St.drew (St.drew (by assumption)))) (by omega) ?_ | with_reducible refine ld_left (by first | assumption | exact St.drew (by assumption) | exact St.drew (St.drew (by assumption)) | exact St.drew (St.drew (St.drew (by assumption)))) (by omega) ?_ | with_reducible refine ld_right (by first | assumption | exact St.drew (by assumption) | exact St.drew (St.drew (by assumption)) | exact St.drew (St.drew (St.drew (by assumption)))) (by omega) ?_ | with_reducible refine ld_turned (by first | assumption | exact St.drew (by assumption) | exact St.drew (St.drew (by assumption)) | exact St.drew (St.drew (St.drew (by assumption)))) (by omega) ?_ | with_reducible refine ld_size (by first | assumption | exact St.drew (by assumption) | exact St.drew (St.drew (by assumption)) | exact St.drew (St.drew (St.drew (by assumption)))) (by omega) ?_ | with_reducible refine ld_value (by first | assumption | exact St.drew (by assumption) | exact St.drew (St.drew (by assumption)) | exact St.drew (St.drew (St.drew (by assumption)))) (by omega) ?_ | with_reducible refine ld_sum (by first | assumption | exact St.drew (by assumption) | exact St.drew (St.drew (by assumption)) | exact St.drew (St.drew (St.drew (by assumption)))) (by omega) ?_ | with_reducible refine ld_least (by first | assumption | exact St.drew (by assumption) | exact St.drew (St.drew (by assumption)) | exact St.drew (St.drew (St.drew (by assumption)))) (by omega) ?_ | with_reducible refine ld_most (by first | assumption | exact St.drew (by assumption) | exact St.drew (St.drew (by assumption)) | exact St.drew (St.drew (St.drew (by assumption)))) (by omega) ?_ | (with_reducible refine st_up (by first | assumption | exact St.drew (by assumption) | exact St.drew (St.drew (by assumption)) | exact St.drew (St.drew (St.drew (by assumption)))) (by omega) (fun _ hst => ?_)) | (with_reducible refine st_left (by first | assumption | exact St.drew (by assumption) | exact St.drew (St.drew (by assumption)) | exact St.drew (St.drew (St.drew (by assumption)))) (by omega) (fun _ hst => ?_)) | (with_reducible refine st_right (by first | assumption | exact St.drew (by assumption) | exact St.drew (St.drew (by assumption)) | exact St.drew (St.drew (St.drew (by assumption)))) (by omega) (fun _ hst => ?_)) | (with_reducible refine st_turned (by first | assumption | exact St.drew (by assumption) | exact St.drew (St.drew (by assumption)) | exact St.drew (St.drew (St.drew (by assumption)))) (by omega) (fun _ hst => ?_)) | (with_reducible refine st_size (by first | assumption | exact St.drew (by assumption) | exact St.drew (St.drew (by assumption)) | exact St.drew (St.drew (St.drew (by assumption)))) (by omega) (fun _ hst => ?_)) | (with_reducible refine st_value (by first | assumption | exact St.drew (by assumption) | exact St.drew (St.drew (by assumption)) | exact St.drew (St.drew (St.drew (by assumption)))) (by omega) (fun _ hst => ?_)) | (with_reducible refine st_sum (by first | assumption | exact St.drew (by assumption) | exact St.drew (St.drew (by assumption)) | exact St.drew (St.drew (St.drew (by assumption)))) (by omega) (fun _ hst => ?_)) | (with_reducible refine st_least (by first | assumption | exact St.drew (by assumption) | exact St.drew (St.drew (by assumption)) | exact St.drew (St.drew (St.drew (by assumption)))) (by omega) (fun _ hst => ?_)) | (with_reducible refine st_most (by first | assumption | exact St.drew (by assumption) | exact St.drew (St.drew (by assumption)) | exact St.drew (St.drew (St.drew (by assumption)))) (by omega) (fun _ hst => ?_)) | simp only [S.up_w_up, S.left_w_up, S.right_w_up, S.turned_w_up, S.size_w_up, S.value_w_up, S.sum_w_up, S.least_w_up, S.most_w_up, S.up_w_left, S.left_w_left, S.right_w_left, S.turned_w_left, S.size_w_left, S.value_w_left, S.sum_w_left, S.least_w_left, S.most_w_left, S.up_w_right, S.left_w_right, S.right_w_right, S.turned_w_right, S.size_w_right, S.value_w_right, S.sum_w_right, S.least_w_right, S.most_w_right, S.up_w_turned, S.left_w_turned, S.right_w_turned, S.turned_w_turned, S.size_w_turned, S.value_w_turned, S.sum_w_turned, S.least_w_turned, S.most_w_turned, S.up_w_size, S.left_w_size, S.right_w_size, S.turned_w_size, S.size_w_size, S.value_w_size, S.sum_w_size, S.least_w_size, S.most_w_size, S.up_w_value, S.left_w_value, S.right_w_value, S.turned_w_value, S.size_w_value, S.value_w_value, S.sum_w_value, S.least_w_value, S.most_w_value, S.up_w_sum, S.left_w_sum, S.right_w_sum, S.turned_w_sum, S.size_w_sum, S.value_w_sum, S.sum_w_sum, S.least_w_sum, S.most_w_sum, S.up_w_least, S.left_w_least, S.right_w_least, S.turned_w_least, S.size_w_least, S.value_w_least, S.sum_w_least, S.least_w_least, S.most_w_least, S.up_w_most, S.left_w_most, S.right_w_most, S.turned_w_most, S.size_w_most, S.value_w_most, S.sum_w_most, S.least_w_most, S.most_w_most, upd_same])
  rw [haa]
  -- a is not at the top any more
  have hne : a ≠ b := by omega
  have hal : a ∈ (T.node l5 b false r5).ls := mem_seq.1 (by rw [hs5, hs3]; exact ha)
  have hup : s5.up a ≠ -1 := by
    have hr := k5.tr.rep
    simp only [T.ls, List.mem_append, List.mem_cons] at hal
    have key : ∀ (t : T) (p : Int), p ≠ -1 → Rep s5 v p t → a ∈ t.ls → s5.up a ≠ -1 := by
      intro t
      induction t with
      | nil => intro p _ _ h; cases h
      | node l y b r hl hr =>
        intro p hp h hx
        simp only [T.ls, List.mem_append, List.mem_cons] at hx
        rcases hx with hx | rfl | hx
        · exact hl _ (by omega) h.2.1 hx
        · rw [h.1.up]; exact hp
        · exact hr _ (by omega) h.2.2 hx
    rcases hal with h1 | h1 | h1
    · exact key l5 b (by omega) hr.2.1 h1
    · exact absurd h1 hne
    · exact key r5 b (by omega) hr.2.2 h1
  refine ⟨by simpa using hup, s5, _, hst3.trans hst5, k5, ?_⟩
  rw [List.map_cons, hs5, hs3]
  exact hp.cons _
/-- 'same': of two. -/
theorem c_same_no (h : AF w.heap F L n v (A :: B :: q)) (ha : a ∈ A) (hb : b ∈ B) :
    Calls Pg fn_seq_Forest_same #[.pointer (some ⟨F, 0, none⟩), .int .i32 a, .int .i32 b] w fun e w' => e = .returned (.bool false) ∧ AS w w' F L n v (A :: B :: q) := by
  refine (calls_seq_Forest_same _ _ _ _ (fun v' w' => v' = .bool false ∧ AS w w' F L n v (A :: B :: q)) ?_).mono (by rintro e w' ⟨v, rfl, rfl, k⟩; exact ⟨rfl, k⟩)
  unfold sh_seq_Forest_same
  obtain ⟨hnd, hlt, _, _, _, _⟩ := h.nodup
  have han := hlt A (by simp) a ha
  have hne : a ≠ b := by
    rintro rfl
    simp only [List.flatten_cons, List.nodup_append] at hnd
    exact hnd.2.2 a ha a (by simp [hb]) rfl
  refine bif_i (fun hc => ?_) (fun hc => ?_) <;> simp only [bne_iff_ne, ne_eq, bne_eq_false_iff_eq, Bool.not_eq_true, beq_iff_eq, beq_eq_false_iff_ne, decide_eq_true_eq, decide_eq_false_iff_not, Bool.not_eq_true', Bool.not_eq_false'] at hc
  · omega
  refine (c_liftA h ha).mono ?_
  rintro e w3 ⟨rfl, s3, l3, r3, ts, hst3, k3, hs3, hp⟩
  refine ⟨rfl, ?_⟩
  have hA3 : AF w3.heap F L n v (B :: A :: q) := ⟨s3, _, hst3.i, k3, by
    rw [List.map_cons, hs3]; exact (List.Perm.swap _ _ _).trans (hp.cons _)⟩
  -- b's tree is another one
  have hBm : B ∈ ts.map T.seq := hp.mem_iff.1 (by simp)
  obtain ⟨tb, htb, hBe⟩ := List.mem_map.1 hBm
  obtain ⟨ta, tc, rfl⟩ := List.append_of_mem htb
  have k3' : Fo n s3 v (tb :: .node l3 a false r3 :: (ta ++ tc)) := k3.reorder (((List.perm_middle (l₁ := ta) (l₂ := tc) (a := tb)).cons _).trans (List.Perm.swap _ _ _))
  refine (c_lift hst3.i k3'.tr (mem_seq.1 (by rw [hBe]; exact hb))).mono ?_
  rintro e w5 ⟨rfl, s5, l5, r5, hst5, hg⟩
  refine ⟨rfl, ?_⟩
  have k5 := k3'.gd hg
  have haa : (a : Int).toNat = a := by omega
  repeat (first | with_reducible refine pt_i ?_ | with_reducible refine ldS_F (by first | assumption | exact St.drew (by assumption) | exact St.drew (St.drew (by assumption)) | exact St.drew (St.drew (St.drew (by assumption)))) ?_ | with_reducible refine ixS_F (by omega) (by omega) ?_ | with_reducible refine ld_up (by first | assumption | exact St.drew (by assumption) | exact St.drew (St.drew (by assumption)) | exact St.drew (St.drew (St.drew (by assumption)))) (by omega) ?_ | with_reducible refine ld_left (by first | assumption | exact St.drew (by assumption) | exact St.drew (St.drew (by assumption)) | exact St.drew (St.drew (St.drew (by assumption)))) (by omega) ?_ | with_reducible refine ld_right (by first | assumption | exact St.drew (by assumption) | exact St.drew (St.drew (by assumption)) | exact St.drew (St.drew (St.drew (by assumption)))) (by omega) ?_ | with_reducible refine ld_turned (by first | assumption | exact St.drew (by assumption) | exact St.drew (St.drew (by assumption)) | exact St.drew (St.drew (St.drew (by assumption)))) (by omega) ?_ | with_reducible refine ld_size (by first | assumption | exact St.drew (by assumption) | exact St.drew (St.drew (by assumption)) | exact St.drew (St.drew (St.drew (by assumption)))) (by omega) ?_ | with_reducible refine ld_value (by first | assumption | exact St.drew (by assumption) | exact St.drew (St.drew (by assumption)) | exact St.drew (St.drew (St.drew (by assumption)))) (by omega) ?_ | with_reducible refine ld_sum (by first | assumption | exact St.drew (by assumption) | exact St.drew (St.drew (by assumption)) | exact St.drew (St.drew (St.drew (by assumption)))) (by omega) ?_ | with_reducible refine ld_least (by first | assumption | exact St.drew (by assumption) | exact St.drew (St.drew (by assumption)) | exact St.drew (St.drew (St.drew (by assumption)))) (by omega) ?_ | with_reducible refine ld_most (by first | assumption | exact St.drew (by assumption) | exact St.drew (St.drew (by assumption)) | exact St.drew (St.drew (St.drew (by assumption)))) (by omega) ?_ | (with_reducible refine st_up (by first | assumption | exact St.drew (by assumption) | exact St.drew (St.drew (by assumption)) | exact St.drew (St.drew (St.drew (by assumption)))) (by omega) (fun _ hst => ?_)) | (with_reducible refine st_left (by first | assumption | exact St.drew (by assumption) | exact St.drew (St.drew (by assumption)) | exact St.drew (St.drew (St.drew (by assumption)))) (by omega) (fun _ hst => ?_)) | (with_reducible refine st_right (by first | assumption | exact St.drew (by assumption) | exact St.drew (St.drew (by assumption)) | exact St.drew (St.drew (St.drew (by assumption)))) (by omega) (fun _ hst => ?_)) | (with_reducible refine st_turned (by first | assumption | exact St.drew (by assumption) | exact St.drew (St.drew (by assumption)) | exact St.drew (St.drew (St.drew (by assumption)))) (by omega) (fun _ hst => ?_)) | (with_reducible refine st_size (by first | assumption | exact St.drew (by assumption) | exact St.drew (St.drew (by assumption)) | exact St.drew (St.drew (St.drew (by assumption)))) (by omega) (fun _ hst => ?_)) | (with_reducible refine st_value (by first | assumption | exact St.drew (by assumption) | exact St.drew (St.drew (by assumption)) | exact St.drew (St.drew (St.drew (by assumption)))) (by omega) (fun _ hst => ?_)) | (with_reducible refine st_sum (by first | assumption | exact St.drew (by assumption) | exact St.drew (St.drew (by assumption)) | exact St.drew (St.drew (St.drew (by assumption)))) (by omega) (fun _ hst => ?_)) | (with_reducible refine st_least (by first | assumption | exact St.drew (by assumption) | exact St.drew (St.drew (by assumption)) | exact St.drew (St.drew (St.drew (by assumption)))) (by omega) (fun _ hst => ?_)) | (with_reducible refine st_most (by first | assumption | exact St.drew (by assumption) | exact St.drew (St.drew (by assumption)) | exact St.drew (St.drew (St.drew (by assumption)))) (by omega) (fun _ hst => ?_)) | simp only [S.up_w_up, S.left_w_up, S.right_w_up, S.turned_w_up, S.size_w_up, S.value_w_up, S.sum_w_up, S.least_w_up, S.most_w_up, S.up_w_left, S.left_w_left, S.right_w_left, S.turned_w_left, S.size_w_left, S.value_w_left, S.sum_w_left, S.least_w_left, S.most_w_left, S.up_w_right, S.left_w_right, S.right_w_right, S.turned_w_right, S.size_w_right, S.value_w_right, S.sum_w_right, S.least_w_right, S.most_w_right, S.up_w_turned, S.left_w_turned, S.right_w_turned, S.turned_w_turned, S.size_w_turned, S.value_w_turned, S.sum_w_turned, S.least_w_turned, S.most_w_turned, S.up_w_size, S.left_w_size, S.right_w_size, S.turned_w_size, S.size_w_size, S.value_w_size, S.sum_w_size, S.least_w_size, S.most_w_size, S.up_w_value, S.left_w_value, S.right_w_value, S.turned_w_value, S.size_w_value, S.value_w_value, S.sum_w_value, S.least_w_value, S.most_w_value, S.up_w_sum, S.left_w_sum, S.right_w_sum, S.turned_w_sum, S.size_w_sum, S.value_w_sum, S.sum_w_sum, S.least_w_sum, S.most_w_sum, S.up_w_least, S.left_w_least, S.right_w_least, S.turned_w_least, S.size_w_least, S.value_w_least, S.sum_w_least, S.least_w_least, S.most_w_least, S.up_w_most, S.left_w_most, S.right_w_most, S.turned_w_most, S.size_w_most, S.value_w_most, S.sum_w_most, S.least_w_most, S.most_w_most, upd_same])
  rw [haa]
  have hup : s5.up a = -1 := (k5.rep (.node l3 a false r3) (by simp)).1.1.up
  rw [hup]
  refine ⟨rfl, s5, _, hst3.trans hst5, k5, ?_⟩
  rw [List.map_cons, List.map_cons, hg.seq, hBe, hs3]
  refine (List.Perm.swap _ _ _).trans ?_
  have p2 : (B :: q).Perm (B :: (ta ++ tc).map T.seq) := by
    refine hp.trans ?_
    rw [List.map_append, List.map_cons, hBe, List.map_append]
    exact List.perm_middle
  exact ((List.perm_cons _).1 p2 |>.cons A).cons B
end
end Seq
end Go.Proofs.YtledchlbmilneaaDoor
