/-
The exported calls of layer 4 that look for the least and the most.
Conditions: those that each theorem states.
-/
import Derived.Test.YtledchlbmilneaaDoorSeqO
namespace Go.Proofs.YtledchlbmilneaaDoor
open Go
set_option linter.unusedVariables false
set_option linter.unusedSimpArgs false
namespace Seq
theorem app_mid {l r pre post : List Nat} {y z : Nat} (h : l ++ y :: r = pre ++ z :: post) :
    (∃ p, l = pre ++ z :: p) ∨ (pre = l ∧ z = y ∧ post = r) ∨ (∃ p, pre = l ++ y :: p ∧ r = p ++ z :: post) := by
  rcases List.append_eq_append_iff.1 h with ⟨a, h1, h2⟩ | ⟨a, h1, h2⟩
  · cases a with
    | nil => simp at h1 h2; exact .inr (.inl ⟨h1, h2.1.symm, h2.2.symm⟩)
    | cons b a => simp at h2; obtain ⟨rfl, h2⟩ := h2; exact .inr (.inr ⟨a, h1, h2⟩)
  · cases a with
    | nil => simp at h1 h2; exact .inr (.inl ⟨h1.symm, h2.1, h2.2⟩)
    | cons b a => simp at h2; obtain ⟨rfl, h2⟩ := h2; exact .inl ⟨a, h1⟩
section
variable {w : World} {F L n : Nat} {v : Nat → Int} {q : List (List Nat)} {A B : List Nat} {a b x : Nat}

/-! ## Least -/
/-- z is the first of q's items whose value is the least. -/
def FstMn (v : Nat → Int) (q : List Nat) (z : Nat) : Prop := ∃ pre post, q = pre ++ z :: post ∧ (∀ y ∈ q, v z ≤ v y) ∧ (∀ y ∈ pre, v z < v y)
theorem FstMn.ex {v : Nat → Int} : ∀ (q : List Nat), q ≠ [] → ∃ z, FstMn v q z
  | [], h => absurd rfl h
  | [y], _ => ⟨y, [], [], rfl, by intro u hu; simp at hu; subst hu; exact Int.le_refl _, by simp⟩
  | y :: u :: q, _ => by
    obtain ⟨z, pre, post, h1, h2, h3⟩ := FstMn.ex (v := v) (u :: q) (by simp)
    by_cases h : v z < v y
    · refine ⟨z, y :: pre, post, by rw [h1]; rfl, ?_, ?_⟩
      · intro t ht; rcases List.mem_cons.1 ht with rfl | ht
        · omega
        · exact h2 t ht
      · intro t ht; rcases List.mem_cons.1 ht with rfl | ht
        · exact h
        · exact h3 t ht
    · refine ⟨y, [], u :: q, rfl, ?_, by simp⟩
      intro t ht; rcases List.mem_cons.1 ht with rfl | ht
      · omega
      · have := h2 t ht; omega
theorem FstMn.mem {v : Nat → Int} {q : List Nat} {z : Nat} (h : FstMn v q z) : z ∈ q := by
  obtain ⟨pre, post, rfl, _⟩ := h; simp
theorem FstMn.val {v : Nat → Int} {q : List Nat} {z : Nat} (h : FstMn v q z) {m : Int} (k : IsMn v q m) : v z = m := by
  obtain ⟨y, hy, e⟩ := k.1
  obtain ⟨pre, post, h1, h2, h3⟩ := h
  have a := h2 y hy
  have b := k.2 z (by rw [h1]; simp)
  omega
def IMn (F p a : Nat) (v : Nat → Int) (m : Int) (z : Nat) (q : List Nat) (w : World) : Prop := Row w.heap p T_p_seq_Forest [.pointer (some ⟨F, 0, none⟩)] ∧ Row w.heap a T_int64 [.int .i64 m] ∧ v z = m ∧ FstMn v q z

theorem c_Least_1 {s : S} {c : List Fr} {l r : T} {y z p : Nat} {m : Int} {ts : List T} (h : IsF w.heap F L n s) (k : Fo n s v (plug c (.node l y false r) :: ts)) (hI : IMn F p a v m z (l.seq ++ y :: r.seq) w) :
    Calls Pg fn_seq_Forest_Least_1 #[recV s y, .pointer (some ⟨p, 0, none⟩), .pointer (some ⟨a, 0, none⟩)] w fun e w' => ∃ d : Int, e = .returned (.int .i64 d) ∧ Chg (· = a) w w' ∧ Say z (IMn F p a v m z) l.seq y r.seq d w' := by
  obtain ⟨hp, ha, hm, pre, post, hq, hmin, hpre⟩ := hI
  refine (calls_seq_Forest_Least_1 _ _ _ _ _ _ _ _ _ _ _ _ (fun v' w' => ∃ d : Int, v' = .int .i64 d ∧ Chg (· = a) w w' ∧ Say z (IMn F p a v m z) l.seq y r.seq d w') ?_).mono (by rintro e w' ⟨v, rfl, d, rfl, k⟩; exact ⟨d, rfl, k⟩)
  unfold sh_seq_Forest_Least_1
  refine alo_r fun hrow => ?_
  have hst := (St.start h).alloc (.cells #[.int .i32 (s.up y), .int .i32 (s.left y), .int .i32 (s.right y), .bool (s.turned y), .int .i32 (s.size y), .int .i64 (s.value y), .int .i64 (s.sum y), .int .i64 (s.least y), .int .i64 (s.most y)] T_seq_node)
  have hp := hp.alloc (.cells #[.int .i32 (s.up y), .int .i32 (s.left y), .int .i32 (s.right y), .bool (s.turned y), .int .i32 (s.size y), .int .i64 (s.value y), .int .i64 (s.sum y), .int .i64 (s.least y), .int .i64 (s.most y)] T_seq_node)
  have ha := ha.alloc (.cells #[.int .i32 (s.up y), .int .i32 (s.left y), .int .i32 (s.right y), .bool (s.turned y), .int .i32 (s.size y), .int .i64 (s.value y), .int .i64 (s.sum y), .int .i64 (s.least y), .int .i64 (s.most y)] T_seq_node)
  have hch : Chg (· = a) w (w.alloc (.cells #[.int .i32 (s.up y), .int .i32 (s.left y), .int .i32 (s.right y), .bool (s.turned y), .int .i32 (s.size y), .int .i64 (s.value y), .int .i64 (s.sum y), .int .i64 (s.least y), .int .i64 (s.most y)] T_seq_node)) := (Chg.refl _ _).alloc _
  generalize hw1 : w.alloc (.cells #[.int .i32 (s.up y), .int .i32 (s.left y), .int .i32 (s.right y), .bool (s.turned y), .int .i32 (s.size y), .int .i64 (s.value y), .int .i64 (s.sum y), .int .i64 (s.least y), .int .i64 (s.most y)] T_seq_node) = w1 at *
  obtain ⟨⟨hN, hRl, hRr⟩, _⟩ := (rep_plug c _).1 k.tr.rep
  have hyn : y < n := k.tr.bd y (by rw [(plug_ls c _).mem_iff]; simp [T.ls])
  have hval : s.value y = v y := k.here hyn
  have cl : (∃ u ∈ l.seq, v u = m) → z ∈ l.seq ∧ FstMn v l.seq z := by
    rintro ⟨u, hu, e⟩
    rcases app_mid hq with ⟨p', e'⟩ | ⟨e', _⟩ | ⟨p', e', _⟩
    · exact ⟨by rw [e']; simp, pre, p', e', fun t ht => hmin t (by simp [ht]), hpre⟩
    · have := hpre u (by rw [e']; exact hu); omega
    · have := hpre u (by rw [e']; simp [hu]); omega
  have cy : (¬ ∃ u ∈ l.seq, v u = m) → v y = m → z = y := by
    intro hno e
    rcases app_mid hq with ⟨p', e'⟩ | ⟨_, e', _⟩ | ⟨p', e', _⟩
    · exact absurd ⟨z, by rw [e']; simp, hm⟩ hno
    · exact e'
    · have := hpre y (by rw [e']; simp); omega
  have cr : (¬ ∃ u ∈ l.seq, v u = m) → v y ≠ m → z ∈ r.seq ∧ FstMn v r.seq z := by
    intro hno e
    rcases app_mid hq with ⟨p', e'⟩ | ⟨_, e', _⟩ | ⟨p', e', er⟩
    · exact absurd ⟨z, by rw [e']; simp, hm⟩ hno
    · subst e'; omega
    · exact ⟨by rw [er]; simp, p', post, er, fun t ht => hmin t (by simp [ht]), fun t ht => hpre t (by rw [e']; simp [ht])⟩
  have fin : (¬ ∃ u ∈ l.seq, v u = m) → ∀ w2, Chg (· = a) w w2 → Row w2.heap p T_p_seq_Forest [.pointer (some ⟨F, 0, none⟩)] → Row w2.heap a T_int64 [.int .i64 m] → ∀ wl : Int, wl = s.value y →
      ldI .i64 ⟨a, 0, none⟩ w2 fun m' => bif (wl == m') then (∃ d : Int, Value.int .i64 (0 : Int) = .int .i64 d ∧ Chg (· = a) w w2 ∧ Say z (IMn F p a v m z) l.seq y r.seq d w2) else (∃ d : Int, Value.int .i64 (1 : Int) = .int .i64 d ∧ Chg (· = a) w w2 ∧ Say z (IMn F p a v m z) l.seq y r.seq d w2) := by
    rintro hno w2 hc2 hp2 ha2 wl rfl
    refine ldI_r ha2 rfl ?_
    refine bif_i (fun h1 => ?_) (fun h1 => ?_) <;> simp only [bne_iff_ne, ne_eq, bne_eq_false_iff_eq, Bool.not_eq_true, beq_iff_eq, beq_eq_false_iff_ne, decide_eq_true_eq, decide_eq_false_iff_not, Bool.not_eq_true', Bool.not_eq_false'] at h1
    · exact ⟨0, rfl, hc2, .inr (.inl ⟨cy hno (by rw [← hval]; exact h1), rfl⟩)⟩
    · obtain ⟨c1, c2⟩ := cr hno (by rw [← hval]; exact h1)
      exact ⟨1, rfl, hc2, .inr (.inr ⟨c1, by omega, hp2, ha2, hm, c2⟩)⟩
  refine ldI_a hrow rfl ?_
  refine bif_i (fun hc => ?_) (fun hc => ?_) <;> simp only [bne_iff_ne, ne_eq, bne_eq_false_iff_eq, Bool.not_eq_true, beq_iff_eq, beq_eq_false_iff_ne, decide_eq_true_eq, decide_eq_false_iff_not, Bool.not_eq_true', Bool.not_eq_false'] at hc
  · have hl' : l.rt ≠ -1 := by rw [← hN.left]; exact hc
    obtain ⟨yl, hyl⟩ : ∃ u : Nat, l.rt = u := by
      rcases rt_cases l with e | ⟨u, e, _⟩
      · exact absurd e hl'
      · exact ⟨u, e⟩
    have hyn : yl < n := k.tr.bd yl (by rw [(plug_ls c _).mem_iff]; have := rt_mem hyl.symm; simp [T.ls, this])
    have hag := (hRl.root hyl.symm).2.1
    have hleft : s.left y = yl := by rw [hN.left, hyl]
    have hyy : (yl : Int).toNat = yl := by omega
    refine pt_i (ldP_r hp.drew rfl (pt_i (ldS_F hst.drew ?_)))
    refine ldI_a hrow.drew rfl ?_
    rw [hleft]
    repeat (first | with_reducible refine pt_i ?_ | with_reducible refine ldS_F (by first | assumption | exact St.drew (by assumption) | exact St.drew (St.drew (by assumption)) | exact St.drew (St.drew (St.drew (by assumption)))) ?_ | with_reducible refine ixS_F (by omega) (by omega) ?_ | with_reducible refine ld_up (by first | assumption | exact St.drew (by assumption) | exact St.drew (St.drew (by assumption)) | exact St.drew (St.drew (St.drew (by assumption)))) (by omega) ?_ | with_reducible refine ld_left (by first | assumption | exact St.drew (by assumption) | exact St.drew (St.drew (by assumption)) | exact St.drew (St.drew (St.drew (by assumption)))) (by omega) ?_ | with_reducible refine ld_right (by first | assumption | exact St.drew (by assumption) | exact St.drew (St.drew (by assumption)) | exact St.drew (St.drew (St.drew (by assumption)))) (by omega) ?_ | with_reducible refine ld_turned (by first | assumption | exact St.drew (by assumption) | exact St.drew (St.drew (by assumption)) | exact St.drew (St.drew (St.drew (by assumption)))) (by omega) ?_ | with_reducible refine ld_size (by first | assumption | exact St.drew (by assumption) | exact St.drew (St.drew (by assumption)) | exact St.drew (St.drew (St.drew (by assumption)))) (by omega) ?_ | with_reducible refine ld_value (by first | assumption | exact St.drew (by assumption) | exact St.drew (St.drew (by assumption)) | exact St.drew (St.drew (St.drew (by assumption)))) (by omega) ?_ | with_reducible refine ld_sum (by first | assumption | exact St.drew (by assumption) | exact St.drew (St.drew (by assumption)) | exact St.drew (St.drew (St.drew (by assumption)))) (by omega) ?_ | with_reducible refine ld_least (by first | assumption | exact St.drew (by assumption) | exact St.drew (St.drew (by assumption)) | exact St.drew (St.drew (St.drew (by assumption)))) (by omega) ?_ | with_reducible refine ld_most (by first | assumption | exact St.drew (by assumption) | exact St.drew (St.drew (by assumption)) | exact St.drew (St.drew (St.drew (by assumption)))) (by omega) ?_ | (with_reducible refine st_up (by first | assumption | exact St.drew (by assumption) | exact St.drew (St.drew (by assumption)) | exact St.drew (St.drew (St.drew (by assumption)))) (by omega) (fun _ hst => ?_)) | (with_reducible refine st_left (by first | assumption | exact St.drew (by assumption) | exact St.drew (St.drew (by assumption)) | exact St.drew (St.drew (St.drew (by assumption)))) (by omega) (fun _ hst => ?_)) | (with_reducible refine st_right (by first | assumption | exact St.drew (by assumption) | exact St.drew (St.drew (by assumption)) | exact St.drew (St.drew (St.drew (by assumption)))) (by omega) (fun _ hst => ?_)) | (with_reducible refine st_turned (by first | assumption | exact St.drew (by assumption) | exact St.drew (St.drew (by assumption)) | exact St.drew (St.drew (St.drew (by assumption)))) (by omega) (fun _ hst => ?_)) | (with_reducible refine st_size (by first | assumption | exact St.drew (by assumption) | exact St.drew (St.drew (by assumption)) | exact St.drew (St.drew (St.drew (by assumption)))) (by omega) (fun _ hst => ?_)) | (with_reducible refine st_value (by first | assumption | exact St.drew (by assumption) | exact St.drew (St.drew (by assumption)) | exact St.drew (St.drew (St.drew (by assumption)))) (by omega) (fun _ hst => ?_)) | (with_reducible refine st_sum (by first | assumption | exact St.drew (by assumption) | exact St.drew (St.drew (by assumption)) | exact St.drew (St.drew (St.drew (by assumption)))) (by omega) (fun _ hst => ?_)) | (with_reducible refine st_least (by first | assumption | exact St.drew (by assumption) | exact St.drew (St.drew (by assumption)) | exact St.drew (St.drew (St.drew (by assumption)))) (by omega) (fun _ hst => ?_)) | (with_reducible refine st_most (by first | assumption | exact St.drew (by assumption) | exact St.drew (St.drew (by assumption)) | exact St.drew (St.drew (St.drew (by assumption)))) (by omega) (fun _ hst => ?_)) | simp only [S.up_w_up, S.left_w_up, S.right_w_up, S.turned_w_up, S.size_w_up, S.value_w_up, S.sum_w_up, S.least_w_up, S.most_w_up, S.up_w_left, S.left_w_left, S.right_w_left, S.turned_w_left, S.size_w_left, S.value_w_left, S.sum_w_left, S.least_w_left, S.most_w_left, S.up_w_right, S.left_w_right, S.right_w_right, S.turned_w_right, S.size_w_right, S.value_w_right, S.sum_w_right, S.least_w_right, S.most_w_right, S.up_w_turned, S.left_w_turned, S.right_w_turned, S.turned_w_turned, S.size_w_turned, S.value_w_turned, S.sum_w_turned, S.least_w_turned, S.most_w_turned, S.up_w_size, S.left_w_size, S.right_w_size, S.turned_w_size, S.size_w_size, S.value_w_size, S.sum_w_size, S.least_w_size, S.most_w_size, S.up_w_value, S.left_w_value, S.right_w_value, S.turned_w_value, S.size_w_value, S.value_w_value, S.sum_w_value, S.least_w_value, S.most_w_value, S.up_w_sum, S.left_w_sum, S.right_w_sum, S.turned_w_sum, S.size_w_sum, S.value_w_sum, S.sum_w_sum, S.least_w_sum, S.most_w_sum, S.up_w_least, S.left_w_least, S.right_w_least, S.turned_w_least, S.size_w_least, S.value_w_least, S.sum_w_least, S.least_w_least, S.most_w_least, S.up_w_most, S.left_w_most, S.right_w_most, S.turned_w_most, S.size_w_most, S.value_w_most, S.sum_w_most, S.least_w_most, S.most_w_most, upd_same])
    rw [hyy]
    refine ldI_r ha.drew rfl ?_
    refine bif_i (fun h1 => ?_) (fun h1 => ?_) <;> simp only [bne_iff_ne, ne_eq, bne_eq_false_iff_eq, Bool.not_eq_true, beq_iff_eq, beq_eq_false_iff_ne, decide_eq_true_eq, decide_eq_false_iff_not, Bool.not_eq_true', Bool.not_eq_false'] at h1
    · obtain ⟨u, hu, e⟩ := hag.least.1
      obtain ⟨c1, c2⟩ := cl ⟨u, mem_seq.2 hu, by rw [e, h1]⟩
      exact ⟨-1, rfl, hch.drew, .inl ⟨c1, by omega, hp.drew, ha.drew, hm, c2⟩⟩
    · have hno : ¬ ∃ u ∈ l.seq, v u = m := by
        rintro ⟨u, hu, e⟩
        have e1 := hag.least.2 u (mem_seq.1 hu)
        obtain ⟨t, ht, e2⟩ := hag.least.1
        have e3 := hmin t (by simp [mem_seq.2 ht])
        omega
      refine ldI_a hrow.drew rfl ?_
      refine pt_i ?_
      exact fin hno _ hch.drew hp.drew ha.drew _ rfl
  · have hl : l = .nil := by
      cases l with
      | nil => rfl
      | node => rw [hN.left] at hc; simp [T.rt] at hc
    have hno : ¬ ∃ u ∈ l.seq, v u = m := by rw [hl]; simp [T.seq]
    refine ldI_a hrow rfl ?_
    refine pt_i ?_
    exact fin hno _ hch.drew hp.drew ha.drew _ rfl

theorem c_Least_bad {x : Int} (h : AF w.heap F L n v q) (hx : ¬ (0 ≤ x ∧ x < n)) :
    Calls Pg fn_seq_Forest_Least #[.pointer (some ⟨F, 0, none⟩), .int .i64 x] w fun e w' => e = .returned (.tuple #[.int .i64 0, errV 12]) ∧ AS w w' F L n v q := by
  refine (calls_seq_Forest_Least _ _ _ (fun v' w' => v' = .tuple #[.int .i64 0, errV 12] ∧ AS w w' F L n v q) ?_).mono (by rintro e w' ⟨v, rfl, rfl, k⟩; exact ⟨rfl, k⟩)
  unfold sh_seq_Forest_Least
  refine alo_r fun hp => ?_
  refine ldP_r hp rfl ?_
  refine (c_top_bad (h.alloc _) hx).mono ?_
  rintro e w4 ⟨rfl, has⟩
  exact ⟨_, _, rfl, err_i (fun _ => ⟨rfl, (h.start.alloc _).trans has⟩) (fun e => by omega)⟩
theorem c_Least {x : Nat} (h : AF w.heap F L n v (A :: q)) (hx : x ∈ A) :
    Calls Pg fn_seq_Forest_Least #[.pointer (some ⟨F, 0, none⟩), .int .i64 x] w fun e w' => (∃ z : Nat, FstMn v A z ∧ e = .returned (.tuple #[.int .i64 z, errV 0])) ∧ AS w w' F L n v (A :: q) := by
  obtain ⟨hnd, hlt, _, _, hn, _⟩ := h.nodup
  have hxn := hlt A (by simp) x hx
  have hlts := h.lt
  obtain ⟨z, hz⟩ := FstMn.ex (v := v) A (by rintro rfl; cases hx)
  refine (calls_seq_Forest_Least _ _ _ (fun v' w' => (∃ z : Nat, FstMn v A z ∧ v' = .tuple #[.int .i64 z, errV 0]) ∧ AS w w' F L n v (A :: q)) ?_).mono (by
    rintro e w' ⟨v, rfl, ⟨z, h1, h2⟩, k⟩
    exact ⟨⟨z, h1, by rw [h2]⟩, k⟩)
  unfold sh_seq_Forest_Least
  refine alo_r fun hp => ?_
  refine ldP_r hp rfl ?_
  refine (c_top (h.alloc _) hx).mono ?_
  rintro e w4 ⟨rfl, s, l, r, ts, hst, k, hs, hpm⟩
  refine ⟨_, _, rfl, err_i (fun e => absurd rfl e) (fun _ => ?_)⟩
  have hp4 := hst.c.row (show ¬ w.heap.size = L by omega) hp
  have hst0 : St w w4 F L n s := ⟨hst.i, ((Chg.refl _ w).alloc _).trans hst.c, hlts⟩
  have hsz4 := hst.c.size
  have hs0 : (w.alloc (.cells #[.pointer (some ⟨F, 0, none⟩)] T_p_seq_Forest)).heap.size = w.heap.size + 1 := by show (w.heap.push _).size = _; simp
  rw [hs0] at hsz4
  have hxx : (x : Int).toNat = x := by omega
  have hseq : (T.node l x false r).seq = A := by simpa [T.seq] using hs
  have hm : v z = s.least x := hz.val (by
    have h1 := k.tr.rep.1.agg.least
    have hpm := (T.node l x false r).seq_perm
    rw [hseq] at hpm
    have hpm : A.Perm (l.ls ++ x :: r.ls) := by simpa [T.ls] using hpm
    exact ⟨let ⟨y, hy, e⟩ := h1.1; ⟨y, by first | exact hpm.mem_iff.2 hy | (have := hpm.mem_iff (a := y); simp at this hy ⊢; grind), e⟩, fun y hy => h1.2 y (by first | exact hpm.mem_iff.1 hy | (have := hpm.mem_iff (a := y); simp at this hy ⊢; grind))⟩)
  have hst := hst0
  repeat (first | with_reducible refine pt_i ?_ | with_reducible refine ldS_F (by first | assumption | exact St.drew (by assumption) | exact St.drew (St.drew (by assumption)) | exact St.drew (St.drew (St.drew (by assumption)))) ?_ | with_reducible refine ixS_F (by omega) (by omega) ?_ | with_reducible refine ld_up (by first | assumption | exact St.drew (by assumption) | exact St.drew (St.drew (by assumption)) | exact St.drew (St.drew (St.drew (by assumption)))) (by omega) ?_ | with_reducible refine ld_left (by first | assumption | exact St.drew (by assumption) | exact St.drew (St.drew (by assumption)) | exact St.drew (St.drew (St.drew (by assumption)))) (by omega) ?_ | with_reducible refine ld_right (by first | assumption | exact St.drew (by assumption) | exact St.drew (St.drew (by assumption)) | exact St.drew (St.drew (St.drew (by assumption)))) (by omega) ?_ | with_reducible refine ld_turned (by first | assumption | exact St.drew (by assumption) | exact St.drew (St.drew (by assumption)) | exact St.drew (St.drew (St.drew (by assumption)))) (by omega) ?_ | with_reducible refine ld_size (by first | assumption | exact St.drew (by assumption) | exact St.drew (St.drew (by assumption)) | exact St.drew (St.drew (St.drew (by assumption)))) (by omega) ?_ | with_reducible refine ld_value (by first | assumption | exact St.drew (by assumption) | exact St.drew (St.drew (by assumption)) | exact St.drew (St.drew (St.drew (by assumption)))) (by omega) ?_ | with_reducible refine ld_sum (by first | assumption | exact St.drew (by assumption) | exact St.drew (St.drew (by assumption)) | exact St.drew (St.drew (St.drew (by assumption)))) (by omega) ?_ | with_reducible refine ld_least (by first | assumption | exact St.drew (by assumption) | exact St.drew (St.drew (by assumption)) | exact St.drew (St.drew (St.drew (by assumption)))) (by omega) ?_ | with_reducible refine ld_most (by first | assumption | exact St.drew (by assumption) | exact St.drew (St.drew (by assumption)) | exact St.drew (St.drew (St.drew (by assumption)))) (by omega) ?_ | (with_reducible refine st_up (by first | assumption | exact St.drew (by assumption) | exact St.drew (St.drew (by assumption)) | exact St.drew (St.drew (St.drew (by assumption)))) (by omega) (fun _ hst => ?_)) | (with_reducible refine st_left (by first | assumption | exact St.drew (by assumption) | exact St.drew (St.drew (by assumption)) | exact St.drew (St.drew (St.drew (by assumption)))) (by omega) (fun _ hst => ?_)) | (with_reducible refine st_right (by first | assumption | exact St.drew (by assumption) | exact St.drew (St.drew (by assumption)) | exact St.drew (St.drew (St.drew (by assumption)))) (by omega) (fun _ hst => ?_)) | (with_reducible refine st_turned (by first | assumption | exact St.drew (by assumption) | exact St.drew (St.drew (by assumption)) | exact St.drew (St.drew (St.drew (by assumption)))) (by omega) (fun _ hst => ?_)) | (with_reducible refine st_size (by first | assumption | exact St.drew (by assumption) | exact St.drew (St.drew (by assumption)) | exact St.drew (St.drew (St.drew (by assumption)))) (by omega) (fun _ hst => ?_)) | (with_reducible refine st_value (by first | assumption | exact St.drew (by assumption) | exact St.drew (St.drew (by assumption)) | exact St.drew (St.drew (St.drew (by assumption)))) (by omega) (fun _ hst => ?_)) | (with_reducible refine st_sum (by first | assumption | exact St.drew (by assumption) | exact St.drew (St.drew (by assumption)) | exact St.drew (St.drew (St.drew (by assumption)))) (by omega) (fun _ hst => ?_)) | (with_reducible refine st_least (by first | assumption | exact St.drew (by assumption) | exact St.drew (St.drew (by assumption)) | exact St.drew (St.drew (St.drew (by assumption)))) (by omega) (fun _ hst => ?_)) | (with_reducible refine st_most (by first | assumption | exact St.drew (by assumption) | exact St.drew (St.drew (by assumption)) | exact St.drew (St.drew (St.drew (by assumption)))) (by omega) (fun _ hst => ?_)) | simp only [S.up_w_up, S.left_w_up, S.right_w_up, S.turned_w_up, S.size_w_up, S.value_w_up, S.sum_w_up, S.least_w_up, S.most_w_up, S.up_w_left, S.left_w_left, S.right_w_left, S.turned_w_left, S.size_w_left, S.value_w_left, S.sum_w_left, S.least_w_left, S.most_w_left, S.up_w_right, S.left_w_right, S.right_w_right, S.turned_w_right, S.size_w_right, S.value_w_right, S.sum_w_right, S.least_w_right, S.most_w_right, S.up_w_turned, S.left_w_turned, S.right_w_turned, S.turned_w_turned, S.size_w_turned, S.value_w_turned, S.sum_w_turned, S.least_w_turned, S.most_w_turned, S.up_w_size, S.left_w_size, S.right_w_size, S.turned_w_size, S.size_w_size, S.value_w_size, S.sum_w_size, S.least_w_size, S.most_w_size, S.up_w_value, S.left_w_value, S.right_w_value, S.turned_w_value, S.size_w_value, S.value_w_value, S.sum_w_value, S.least_w_value, S.most_w_value, S.up_w_sum, S.left_w_sum, S.right_w_sum, S.turned_w_sum, S.size_w_sum, S.value_w_sum, S.sum_w_sum, S.least_w_sum, S.most_w_sum, S.up_w_least, S.left_w_least, S.right_w_least, S.turned_w_least, S.size_w_least, S.value_w_least, S.sum_w_least, S.least_w_least, S.most_w_least, S.up_w_most, S.left_w_most, S.right_w_most, S.turned_w_most, S.size_w_most, S.value_w_most, S.sum_w_most, S.least_w_most, S.most_w_most, upd_same])
  rw [hxx]
  refine alo_r fun ha => ?_
  refine sto_r ha (by simp) rfl fun ha => ?_
  have hp5 := (hp4.alloc (.cells #[.int .i64 0] T_int64)).set_other ⟨w4.heap.size, 0, none⟩ (.int .i64 (s.least x)) (by show w4.heap.size ≠ _; omega)
  have hst5 : St w ((w4.alloc (.cells #[.int .i64 0] T_int64)).setCell ⟨w4.heap.size, 0, none⟩ (.int .i64 (s.least x))) F L n s :=
    (hst0.alloc _).own ((Chg.refl _ _).setCell _ _ (.inl (by show w.heap.size ≤ w4.heap.size; omega)))
  refine ldP_r hp5 rfl ?_
  rw [wrap32_in (by omega) (by omega)]
  refine (c_downA (by kernel_rfl) (I := IMn F w.heap.size w4.heap.size v (s.least x) z) hst5 k rfl (mem_seq.1 (by rw [hseq]; exact hz.mem)) ?_ (by omega) ?_ ?_).mono ?_
  · rw [hseq]
    exact ⟨hp5, ha, hm, hz⟩
  · rintro q w' w'' ⟨h1, h2, h3⟩ hc
    exact ⟨hc.row (show ¬ _ = L by omega) h1, hc.row (show ¬ _ = L by omega) h2, h3⟩
  · intro c l y r s' w' hi' k' hz' hI'
    refine (c_Least_1 hi' k' (by simpa [T.seq] using hI')).mono ?_
    rintro e w'' ⟨d, rfl, hc, hs⟩
    exact ⟨d, rfl, hc, hs⟩
  · rintro e w' ⟨rfl, hA'⟩
    refine ⟨_, rfl, ⟨z, hz, rfl⟩, ?_⟩
    rw [hseq] at hA'
    exact hA'.perm (hpm.symm.cons _)

/-! ## Most -/
/-- z is the first of q's items whose value is the most. -/
def FstMx (v : Nat → Int) (q : List Nat) (z : Nat) : Prop := ∃ pre post, q = pre ++ z :: post ∧ (∀ y ∈ q, v y ≤ v z) ∧ (∀ y ∈ pre, v y < v z)
theorem FstMx.ex {v : Nat → Int} : ∀ (q : List Nat), q ≠ [] → ∃ z, FstMx v q z
  | [], h => absurd rfl h
  | [y], _ => ⟨y, [], [], rfl, by intro u hu; simp at hu; subst hu; exact Int.le_refl _, by simp⟩
  | y :: u :: q, _ => by
    obtain ⟨z, pre, post, h1, h2, h3⟩ := FstMx.ex (v := v) (u :: q) (by simp)
    by_cases h : v y < v z
    · refine ⟨z, y :: pre, post, by rw [h1]; rfl, ?_, ?_⟩
      · intro t ht; rcases List.mem_cons.1 ht with rfl | ht
        · omega
        · exact h2 t ht
      · intro t ht; rcases List.mem_cons.1 ht with rfl | ht
        · exact h
        · exact h3 t ht
    · refine ⟨y, [], u :: q, rfl, ?_, by simp⟩
      intro t ht; rcases List.mem_cons.1 ht with rfl | ht
      · omega
      · have := h2 t ht; omega
theorem FstMx.mem {v : Nat → Int} {q : List Nat} {z : Nat} (h : FstMx v q z) : z ∈ q := by
  obtain ⟨pre, post, rfl, _⟩ := h; simp
theorem FstMx.val {v : Nat → Int} {q : List Nat} {z : Nat} (h : FstMx v q z) {m : Int} (k : IsMx v q m) : v z = m := by
  obtain ⟨y, hy, e⟩ := k.1
  obtain ⟨pre, post, h1, h2, h3⟩ := h
  have a := h2 y hy
  have b := k.2 z (by rw [h1]; simp)
  omega
def IMx (F p a : Nat) (v : Nat → Int) (m : Int) (z : Nat) (q : List Nat) (w : World) : Prop := Row w.heap p T_p_seq_Forest [.pointer (some ⟨F, 0, none⟩)] ∧ Row w.heap a T_int64 [.int .i64 m] ∧ v z = m ∧ FstMx v q z

theorem c_Most_1 {s : S} {c : List Fr} {l r : T} {y z p : Nat} {m : Int} {ts : List T} (h : IsF w.heap F L n s) (k : Fo n s v (plug c (.node l y false r) :: ts)) (hI : IMx F p a v m z (l.seq ++ y :: r.seq) w) :
    Calls Pg fn_seq_Forest_Most_1 #[recV s y, .pointer (some ⟨p, 0, none⟩), .pointer (some ⟨a, 0, none⟩)] w fun e w' => ∃ d : Int, e = .returned (.int .i64 d) ∧ Chg (· = a) w w' ∧ Say z (IMx F p a v m z) l.seq y r.seq d w' := by
  obtain ⟨hp, ha, hm, pre, post, hq, hmin, hpre⟩ := hI
  refine (calls_seq_Forest_Most_1 _ _ _ _ _ _ _ _ _ _ _ _ (fun v' w' => ∃ d : Int, v' = .int .i64 d ∧ Chg (· = a) w w' ∧ Say z (IMx F p a v m z) l.seq y r.seq d w') ?_).mono (by rintro e w' ⟨v, rfl, d, rfl, k⟩; exact ⟨d, rfl, k⟩)
  unfold sh_seq_Forest_Most_1
  refine alo_r fun hrow => ?_
  have hst := (St.start h).alloc (.cells #[.int .i32 (s.up y), .int .i32 (s.left y), .int .i32 (s.right y), .bool (s.turned y), .int .i32 (s.size y), .int .i64 (s.value y), .int .i64 (s.sum y), .int .i64 (s.least y), .int .i64 (s.most y)] T_seq_node)
  have hp := hp.alloc (.cells #[.int .i32 (s.up y), .int .i32 (s.left y), .int .i32 (s.right y), .bool (s.turned y), .int .i32 (s.size y), .int .i64 (s.value y), .int .i64 (s.sum y), .int .i64 (s.least y), .int .i64 (s.most y)] T_seq_node)
  have ha := ha.alloc (.cells #[.int .i32 (s.up y), .int .i32 (s.left y), .int .i32 (s.right y), .bool (s.turned y), .int .i32 (s.size y), .int .i64 (s.value y), .int .i64 (s.sum y), .int .i64 (s.least y), .int .i64 (s.most y)] T_seq_node)
  have hch : Chg (· = a) w (w.alloc (.cells #[.int .i32 (s.up y), .int .i32 (s.left y), .int .i32 (s.right y), .bool (s.turned y), .int .i32 (s.size y), .int .i64 (s.value y), .int .i64 (s.sum y), .int .i64 (s.least y), .int .i64 (s.most y)] T_seq_node)) := (Chg.refl _ _).alloc _
  generalize hw1 : w.alloc (.cells #[.int .i32 (s.up y), .int .i32 (s.left y), .int .i32 (s.right y), .bool (s.turned y), .int .i32 (s.size y), .int .i64 (s.value y), .int .i64 (s.sum y), .int .i64 (s.least y), .int .i64 (s.most y)] T_seq_node) = w1 at *
  obtain ⟨⟨hN, hRl, hRr⟩, _⟩ := (rep_plug c _).1 k.tr.rep
  have hyn : y < n := k.tr.bd y (by rw [(plug_ls c _).mem_iff]; simp [T.ls])
  have hval : s.value y = v y := k.here hyn
  have cl : (∃ u ∈ l.seq, v u = m) → z ∈ l.seq ∧ FstMx v l.seq z := by
    rintro ⟨u, hu, e⟩
    rcases app_mid hq with ⟨p', e'⟩ | ⟨e', _⟩ | ⟨p', e', _⟩
    · exact ⟨by rw [e']; simp, pre, p', e', fun t ht => hmin t (by simp [ht]), hpre⟩
    · have := hpre u (by rw [e']; exact hu); omega
    · have := hpre u (by rw [e']; simp [hu]); omega
  have cy : (¬ ∃ u ∈ l.seq, v u = m) → v y = m → z = y := by
    intro hno e
    rcases app_mid hq with ⟨p', e'⟩ | ⟨_, e', _⟩ | ⟨p', e', _⟩
    · exact absurd ⟨z, by rw [e']; simp, hm⟩ hno
    · exact e'
    · have := hpre y (by rw [e']; simp); omega
  have cr : (¬ ∃ u ∈ l.seq, v u = m) → v y ≠ m → z ∈ r.seq ∧ FstMx v r.seq z := by
    intro hno e
    rcases app_mid hq with ⟨p', e'⟩ | ⟨_, e', _⟩ | ⟨p', e', er⟩
    · exact absurd ⟨z, by rw [e']; simp, hm⟩ hno
    · subst e'; omega
    · exact ⟨by rw [er]; simp, p', post, er, fun t ht => hmin t (by simp [ht]), fun t ht => hpre t (by rw [e']; simp [ht])⟩
  have fin : (¬ ∃ u ∈ l.seq, v u = m) → ∀ w2, Chg (· = a) w w2 → Row w2.heap p T_p_seq_Forest [.pointer (some ⟨F, 0, none⟩)] → Row w2.heap a T_int64 [.int .i64 m] → ∀ wl : Int, wl = s.value y →
      ldI .i64 ⟨a, 0, none⟩ w2 fun m' => bif (wl == m') then (∃ d : Int, Value.int .i64 (0 : Int) = .int .i64 d ∧ Chg (· = a) w w2 ∧ Say z (IMx F p a v m z) l.seq y r.seq d w2) else (∃ d : Int, Value.int .i64 (1 : Int) = .int .i64 d ∧ Chg (· = a) w w2 ∧ Say z (IMx F p a v m z) l.seq y r.seq d w2) := by
    rintro hno w2 hc2 hp2 ha2 wl rfl
    refine ldI_r ha2 rfl ?_
    refine bif_i (fun h1 => ?_) (fun h1 => ?_) <;> simp only [bne_iff_ne, ne_eq, bne_eq_false_iff_eq, Bool.not_eq_true, beq_iff_eq, beq_eq_false_iff_ne, decide_eq_true_eq, decide_eq_false_iff_not, Bool.not_eq_true', Bool.not_eq_false'] at h1
    · exact ⟨0, rfl, hc2, .inr (.inl ⟨cy hno (by rw [← hval]; exact h1), rfl⟩)⟩
    · obtain ⟨c1, c2⟩ := cr hno (by rw [← hval]; exact h1)
      exact ⟨1, rfl, hc2, .inr (.inr ⟨c1, by omega, hp2, ha2, hm, c2⟩)⟩
  refine ldI_a hrow rfl ?_
  refine bif_i (fun hc => ?_) (fun hc => ?_) <;> simp only [bne_iff_ne, ne_eq, bne_eq_false_iff_eq, Bool.not_eq_true, beq_iff_eq, beq_eq_false_iff_ne, decide_eq_true_eq, decide_eq_false_iff_not, Bool.not_eq_true', Bool.not_eq_false'] at hc
  · have hl' : l.rt ≠ -1 := by rw [← hN.left]; exact hc
    obtain ⟨yl, hyl⟩ : ∃ u : Nat, l.rt = u := by
      rcases rt_cases l with e | ⟨u, e, _⟩
      · exact absurd e hl'
      · exact ⟨u, e⟩
    have hyn : yl < n := k.tr.bd yl (by rw [(plug_ls c _).mem_iff]; have := rt_mem hyl.symm; simp [T.ls, this])
    have hag := (hRl.root hyl.symm).2.1
    have hleft : s.left y = yl := by rw [hN.left, hyl]
    have hyy : (yl : Int).toNat = yl := by omega
    refine pt_i (ldP_r hp.drew rfl (pt_i (ldS_F hst.drew ?_)))
    refine ldI_a hrow.drew rfl ?_
    rw [hleft]
    repeat (first | with_reducible refine pt_i ?_ | with_reducible refine ldS_F (by first | assumption | exact St.drew (by assumption) | exact St.drew (St.drew (by assumption)) | exact St.drew (St.drew (St.drew (by assumption)))) ?_ | with_reducible refine ixS_F (by omega) (by omega) ?_ | with_reducible refine ld_up (by first | assumption | exact St.drew (by assumption) | exact St.drew (St.drew (by assumption)) | exact St.drew (St.drew (St.drew (by assumption)))) (by omega) ?_ | with_reducible refine ld_left (by first | assumption | exact St.drew (by assumption) | exact St.drew (St.drew (by assumption)) | exact St.drew (St.drew (St.drew (by assumption)))) (by omega) ?_ | with_reducible refine ld_right (by first | assumption | exact St.drew (by assumption) | exact St.drew (St.drew (by assumption)) | exact St.drew (St.drew (St.drew (by assumption)))) (by omega) ?_ | with_reducible refine ld_turned (by first | assumption | exact St.drew (by assumption) | exact St.drew (St.drew (by assumption)) | exact St.drew (St.drew (St.drew (by assumption)))) (by omega) ?_ | with_reducible refine ld_size (by first | assumption | exact St.drew (by assumption) | exact St.drew (St.drew (by assumption)) | exact St.drew (St.drew (St.drew (by assumption)))) (by omega) ?_ | with_reducible refine ld_value (by first | assumption | exact St.drew (by assumption) | exact St.drew (St.drew (by assumption)) | exact St.drew (St.drew (St.drew (by assumption)))) (by omega) ?_ | with_reducible refine ld_sum (by first | assumption | exact St.drew (by assumption) | exact St.drew (St.drew (by assumption)) | exact St.drew (St.drew (St.drew (by assumption)))) (by omega) ?_ | with_reducible refine ld_least (by first | assumption | exact St.drew (by assumption) | exact St.drew (St.drew (by assumption)) | exact St.drew (St.drew (St.drew (by assumption)))) (by omega) ?_ | with_reducible refine ld_most (by first | assumption | exact St.drew (by assumption) | exact St.drew (St.drew (by assumption)) | exact St.drew (St.drew (St.drew (by assumption)))) (by omega) ?_ | (with_reducible refine st_up (by first | assumption | exact St.drew (by assumption) | exact St.drew (St.drew (by assumption)) | exact St.drew (St.drew (St.drew (by assumption)))) (by omega) (fun _ hst => ?_)) | (with_reducible refine st_left (by first | assumption | exact St.drew (by assumption) | exact St.drew (St.drew (by assumption)) | exact St.drew (St.drew (St.drew (by assumption)))) (by omega) (fun _ hst => ?_)) | (with_reducible refine st_right (by first | assumption | exact St.drew (by assumption) | exact St.drew (St.drew (by assumption)) | exact St.drew (St.drew (St.drew (by assumption)))) (by omega) (fun _ hst => ?_)) | (with_reducible refine st_turned (by first | assumption | exact St.drew (by assumption) | exact St.drew (St.drew (by assumption)) | exact St.drew (St.drew (St.drew (by assumption)))) (by omega) (fun _ hst => ?_)) | (with_reducible refine st_size (by first | assumption | exact St.drew (by assumption) | exact St.drew (St.drew (by assumption)) | exact St.drew (St.drew (St.drew (by assumption)))) (by omega) (fun _ hst => ?_)) | (with_reducible refine st_value (by first | assumption | exact St.drew (by assumption) | exact St.drew (St.drew (by assumption)) | exact St.drew (St.drew (St.drew (by assumption)))) (by omega) (fun _ hst => ?_)) | (with_reducible refine st_sum (by first | assumption | exact St.drew (by assumption) | exact St.drew (St.drew (by assumption)) | exact St.drew (St.drew (St.drew (by assumption)))) (by omega) (fun _ hst => ?_)) | (with_reducible refine st_least (by first | assumption | exact St.drew (by assumption) | exact St.drew (St.drew (by assumption)) | exact St.drew (St.drew (St.drew (by assumption)))) (by omega) (fun _ hst => ?_)) | (with_reducible refine st_most (by first | assumption | exact St.drew (by assumption) | exact St.drew (St.drew (by assumption)) | exact St.drew (St.drew (St.drew (by assumption)))) (by omega) (fun _ hst => ?_)) | simp only [S.up_w_up, S.left_w_up, S.right_w_up, S.turned_w_up, S.size_w_up, S.value_w_up, S.sum_w_up, S.least_w_up, S.most_w_up, S.up_w_left, S.left_w_left, S.right_w_left, S.turned_w_left, S.size_w_left, S.value_w_left, S.sum_w_left, S.least_w_left, S.most_w_left, S.up_w_right, S.left_w_right, S.right_w_right, S.turned_w_right, S.size_w_right, S.value_w_right, S.sum_w_right, S.least_w_right, S.most_w_right, S.up_w_turned, S.left_w_turned, S.right_w_turned, S.turned_w_turned, S.size_w_turned, S.value_w_turned, S.sum_w_turned, S.least_w_turned, S.most_w_turned, S.up_w_size, S.left_w_size, S.right_w_size, S.turned_w_size, S.size_w_size, S.value_w_size, S.sum_w_size, S.least_w_size, S.most_w_size, S.up_w_value, S.left_w_value, S.right_w_value, S.turned_w_value, S.size_w_value, S.value_w_value, S.sum_w_value, S.least_w_value, S.most_w_value, S.up_w_sum, S.left_w_sum, S.right_w_sum, S.turned_w_sum, S.size_w_sum, S.value_w_sum, S.sum_w_sum, S.least_w_sum, S.most_w_sum, S.up_w_least, S.left_w_least, S.right_w_least, S.turned_w_least, S.size_w_least, S.value_w_least, S.sum_w_least, S.least_w_least, S.most_w_least, S.up_w_most, S.left_w_most, S.right_w_most, S.turned_w_most, S.size_w_most, S.value_w_most, S.sum_w_most, S.least_w_most, S.most_w_most, upd_same])
    rw [hyy]
    refine ldI_r ha.drew rfl ?_
    refine bif_i (fun h1 => ?_) (fun h1 => ?_) <;> simp only [bne_iff_ne, ne_eq, bne_eq_false_iff_eq, Bool.not_eq_true, beq_iff_eq, beq_eq_false_iff_ne, decide_eq_true_eq, decide_eq_false_iff_not, Bool.not_eq_true', Bool.not_eq_false'] at h1
    · obtain ⟨u, hu, e⟩ := hag.most.1
      obtain ⟨c1, c2⟩ := cl ⟨u, mem_seq.2 hu, by rw [e, h1]⟩
      exact ⟨-1, rfl, hch.drew, .inl ⟨c1, by omega, hp.drew, ha.drew, hm, c2⟩⟩
    · have hno : ¬ ∃ u ∈ l.seq, v u = m := by
        rintro ⟨u, hu, e⟩
        have e1 := hag.most.2 u (mem_seq.1 hu)
        obtain ⟨t, ht, e2⟩ := hag.most.1
        have e3 := hmin t (by simp [mem_seq.2 ht])
        omega
      refine ldI_a hrow.drew rfl ?_
      refine pt_i ?_
      exact fin hno _ hch.drew hp.drew ha.drew _ rfl
  · have hl : l = .nil := by
      cases l with
      | nil => rfl
      | node => rw [hN.left] at hc; simp [T.rt] at hc
    have hno : ¬ ∃ u ∈ l.seq, v u = m := by rw [hl]; simp [T.seq]
    refine ldI_a hrow rfl ?_
    refine pt_i ?_
    exact fin hno _ hch.drew hp.drew ha.drew _ rfl

theorem c_Most_bad {x : Int} (h : AF w.heap F L n v q) (hx : ¬ (0 ≤ x ∧ x < n)) :
    Calls Pg fn_seq_Forest_Most #[.pointer (some ⟨F, 0, none⟩), .int .i64 x] w fun e w' => e = .returned (.tuple #[.int .i64 0, errV 12]) ∧ AS w w' F L n v q := by
  refine (calls_seq_Forest_Most _ _ _ (fun v' w' => v' = .tuple #[.int .i64 0, errV 12] ∧ AS w w' F L n v q) ?_).mono (by rintro e w' ⟨v, rfl, rfl, k⟩; exact ⟨rfl, k⟩)
  unfold sh_seq_Forest_Most
  refine alo_r fun hp => ?_
  refine ldP_r hp rfl ?_
  refine (c_top_bad (h.alloc _) hx).mono ?_
  rintro e w4 ⟨rfl, has⟩
  exact ⟨_, _, rfl, err_i (fun _ => ⟨rfl, (h.start.alloc _).trans has⟩) (fun e => by omega)⟩
theorem c_Most {x : Nat} (h : AF w.heap F L n v (A :: q)) (hx : x ∈ A) :
    Calls Pg fn_seq_Forest_Most #[.pointer (some ⟨F, 0, none⟩), .int .i64 x] w fun e w' => (∃ z : Nat, FstMx v A z ∧ e = .returned (.tuple #[.int .i64 z, errV 0])) ∧ AS w w' F L n v (A :: q) := by
  obtain ⟨hnd, hlt, _, _, hn, _⟩ := h.nodup
  have hxn := hlt A (by simp) x hx
  have hlts := h.lt
  obtain ⟨z, hz⟩ := FstMx.ex (v := v) A (by rintro rfl; cases hx)
  refine (calls_seq_Forest_Most _ _ _ (fun v' w' => (∃ z : Nat, FstMx v A z ∧ v' = .tuple #[.int .i64 z, errV 0]) ∧ AS w w' F L n v (A :: q)) ?_).mono (by
    rintro e w' ⟨v, rfl, ⟨z, h1, h2⟩, k⟩
    exact ⟨⟨z, h1, by rw [h2]⟩, k⟩)
  unfold sh_seq_Forest_Most
  refine alo_r fun hp => ?_
  refine ldP_r hp rfl ?_
  refine (c_top (h.alloc _) hx).mono ?_
  rintro e w4 ⟨rfl, s, l, r, ts, hst, k, hs, hpm⟩
  refine ⟨_, _, rfl, err_i (fun e => absurd rfl e) (fun _ => ?_)⟩
  have hp4 := hst.c.row (show ¬ w.heap.size = L by omega) hp
  have hst0 : St w w4 F L n s := ⟨hst.i, ((Chg.refl _ w).alloc _).trans hst.c, hlts⟩
  have hsz4 := hst.c.size
  have hs0 : (w.alloc (.cells #[.pointer (some ⟨F, 0, none⟩)] T_p_seq_Forest)).heap.size = w.heap.size + 1 := by show (w.heap.push _).size = _; simp
  rw [hs0] at hsz4
  have hxx : (x : Int).toNat = x := by omega
  have hseq : (T.node l x false r).seq = A := by simpa [T.seq] using hs
  have hm : v z = s.most x := hz.val (by
    have h1 := k.tr.rep.1.agg.most
    have hpm := (T.node l x false r).seq_perm
    rw [hseq] at hpm
    have hpm : A.Perm (l.ls ++ x :: r.ls) := by simpa [T.ls] using hpm
    exact ⟨let ⟨y, hy, e⟩ := h1.1; ⟨y, by first | exact hpm.mem_iff.2 hy | (have := hpm.mem_iff (a := y); simp at this hy ⊢; grind), e⟩, fun y hy => h1.2 y (by first | exact hpm.mem_iff.1 hy | (have := hpm.mem_iff (a := y); simp at this hy ⊢; grind))⟩)
  have hst := hst0
  repeat (first | with_reducible refine pt_i ?_ | with_reducible refine ldS_F (by first | assumption | exact St.drew (by assumption) | exact St.drew (St.drew (by assumption)) | exact St.drew (St.drew (St.drew (by assumption)))) ?_ | with_reducible refine ixS_F (by omega) (by omega) ?_ | with_reducible refine ld_up (by first | assumption | exact St.drew (by assumption) | exact St.drew (St.drew (by assumption)) | exact St.drew (St.drew (St.drew (by assumption)))) (by omega) ?_ | with_reducible refine ld_left (by first | assumption | exact St.drew (by assumption) | exact St.drew (St.drew (by assumption)) | exact St.drew (St.drew (St.drew (by assumption)))) (by omega) ?_ | with_reducible refine ld_right (by first | assumption | exact St.drew (by assumption) | exact St.drew (St.drew (by assumption)) | exact St.drew (St.drew (St.drew (by assumption)))) (by omega) ?_ | with_reducible refine ld_turned (by first | assumption | exact St.drew (by assumption) | exact St.drew (St.drew (by assumption)) | exact St.drew (St.drew (St.drew (by assumption)))) (by omega) ?_ | with_reducible refine ld_size (by first | assumption | exact St.drew (by assumption) | exact St.drew (St.drew (by assumption)) | exact St.drew (St.drew (St.drew (by assumption)))) (by omega) ?_ | with_reducible refine ld_value (by first | assumption | exact St.drew (by assumption) | exact St.drew (St.drew (by assumption)) | exact St.drew (St.drew (St.drew (by assumption)))) (by omega) ?_ | with_reducible refine ld_sum (by first | assumption | exact St.drew (by assumption) | exact St.drew (St.drew (by assumption)) | exact St.drew (St.drew (St.drew (by assumption)))) (by omega) ?_ | with_reducible refine ld_least (by first | assumption | exact St.drew (by assumption) | exact St.drew (St.drew (by assumption)) | exact St.drew (St.drew (St.drew (by assumption)))) (by omega) ?_ | with_reducible refine ld_most (by first | assumption | exact St.drew (by assumption) | exact St.drew (St.drew (by assumption)) | exact St.drew (St.drew (St.drew (by assumption)))) (by omega) ?_ | (with_reducible refine st_up (by first | assumption | exact St.drew (by assumption) | exact St.drew (St.drew (by assumption)) | exact St.drew (St.drew (St.drew (by assumption)))) (by omega) (fun _ hst => ?_)) | (with_reducible refine st_left (by first | assumption | exact St.drew (by assumption) | exact St.drew (St.drew (by assumption)) | exact St.drew (St.drew (St.drew (by assumption)))) (by omega) (fun _ hst => ?_)) | (with_reducible refine st_right (by first | assumption | exact St.drew (by assumption) | exact St.drew (St.drew (by assumption)) | exact St.drew (St.drew (St.drew (by assumption)))) (by omega) (fun _ hst => ?_)) | (with_reducible refine st_turned (by first | assumption | exact St.drew (by assumption) | exact St.drew (St.drew (by assumption)) | exact St.drew (St.drew (St.drew (by assumption)))) (by omega) (fun _ hst => ?_)) | (with_reducible refine st_size (by first | assumption | exact St.drew (by assumption) | exact St.drew (St.drew (by assumption)) | exact St.drew (St.drew (St.drew (by assumption)))) (by omega) (fun _ hst => ?_)) | (with_reducible refine st_value (by first | assumption | exact St.drew (by assumption) | exact St.drew (St.drew (by assumption)) | exact St.drew (St.drew (St.drew (by assumption)))) (by omega) (fun _ hst => ?_)) | (with_reducible refine st_sum (by first | assumption | exact St.drew (by assumption) | exact St.drew (St.drew (by assumption)) | exact St.drew (St.drew (St.drew (by assumption)))) (by omega) (fun _ hst => ?_)) | (with_reducible refine st_least (by first | assumption | exact St.drew (by assumption) | exact St.drew (St.drew (by assumption)) | exact St.drew (St.drew (St.drew (by assumption)))) (by omega) (fun _ hst => ?_)) | (with_reducible refine st_most (by first | assumption | exact St.drew (by assumption) | exact St.drew (St.drew (by assumption)) | exact St.drew (St.drew (St.drew (by assumption)))) (by omega) (fun _ hst => ?_)) | simp only [S.up_w_up, S.left_w_up, S.right_w_up, S.turned_w_up, S.size_w_up, S.value_w_up, S.sum_w_up, S.least_w_up, S.most_w_up, S.up_w_left, S.left_w_left, S.right_w_left, S.turned_w_left, S.size_w_left, S.value_w_left, S.sum_w_left, S.least_w_left, S.most_w_left, S.up_w_right, S.left_w_right, S.right_w_right, S.turned_w_right, S.size_w_right, S.value_w_right, S.sum_w_right, S.least_w_right, S.most_w_right, S.up_w_turned, S.left_w_turned, S.right_w_turned, S.turned_w_turned, S.size_w_turned, S.value_w_turned, S.sum_w_turned, S.least_w_turned, S.most_w_turned, S.up_w_size, S.left_w_size, S.right_w_size, S.turned_w_size, S.size_w_size, S.value_w_size, S.sum_w_size, S.least_w_size, S.most_w_size, S.up_w_value, S.left_w_value, S.right_w_value, S.turned_w_value, S.size_w_value, S.value_w_value, S.sum_w_value, S.least_w_value, S.most_w_value, S.up_w_sum, S.left_w_sum, S.right_w_sum, S.turned_w_sum, S.size_w_sum, S.value_w_sum, S.sum_w_sum, S.least_w_sum, S.most_w_sum, S.up_w_least, S.left_w_least, S.right_w_least, S.turned_w_least, S.size_w_least, S.value_w_least, S.sum_w_least, S.least_w_least, S.most_w_least, S.up_w_most, S.left_w_most, S.right_w_most, S.turned_w_most, S.size_w_most, S.value_w_most, S.sum_w_most, S.least_w_most, S.most_w_most, upd_same])
  rw [hxx]
  refine alo_r fun ha => ?_
  refine sto_r ha (by simp) rfl fun ha => ?_
  have hp5 := (hp4.alloc (.cells #[.int .i64 0] T_int64)).set_other ⟨w4.heap.size, 0, none⟩ (.int .i64 (s.most x)) (by show w4.heap.size ≠ _; omega)
  have hst5 : St w ((w4.alloc (.cells #[.int .i64 0] T_int64)).setCell ⟨w4.heap.size, 0, none⟩ (.int .i64 (s.most x))) F L n s :=
    (hst0.alloc _).own ((Chg.refl _ _).setCell _ _ (.inl (by show w.heap.size ≤ w4.heap.size; omega)))
  refine ldP_r hp5 rfl ?_
  rw [wrap32_in (by omega) (by omega)]
  refine (c_downA (by kernel_rfl) (I := IMx F w.heap.size w4.heap.size v (s.most x) z) hst5 k rfl (mem_seq.1 (by rw [hseq]; exact hz.mem)) ?_ (by omega) ?_ ?_).mono ?_
  · rw [hseq]
    exact ⟨hp5, ha, hm, hz⟩
  · rintro q w' w'' ⟨h1, h2, h3⟩ hc
    exact ⟨hc.row (show ¬ _ = L by omega) h1, hc.row (show ¬ _ = L by omega) h2, h3⟩
  · intro c l y r s' w' hi' k' hz' hI'
    refine (c_Most_1 hi' k' (by simpa [T.seq] using hI')).mono ?_
    rintro e w'' ⟨d, rfl, hc, hs⟩
    exact ⟨d, rfl, hc, hs⟩
  · rintro e w' ⟨rfl, hA'⟩
    refine ⟨_, rfl, ⟨z, hz, rfl⟩, ?_⟩
    rw [hseq] at hA'
    exact hA'.perm (hpm.symm.cons _)
end
end Seq
end Go.Proofs.YtledchlbmilneaaDoor
