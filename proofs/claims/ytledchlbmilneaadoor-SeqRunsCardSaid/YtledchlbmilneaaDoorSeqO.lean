/-
The exported calls of layer 4 that look for an item: the one at a place, the least, the most.
Conditions: those that each theorem states.
-/
import Derived.Test.YtledchlbmilneaaDoorSeqN
namespace Go.Proofs.YtledchlbmilneaaDoor
open Go
set_option linter.unusedVariables false
set_option linter.unusedSimpArgs false
theorem ldI_a {w : World} {k : IntKind} {b o : Nat} {e : TypeId} {cs : List Value} {n : Int} {K : Int → Prop} (r : Row w.heap b e cs) (h : cs[o]? = some (.int k n)) (kk : K n) : ldI k ((Addr.mk b 0 none).add o) w K := by
  rw [add_mk, Nat.zero_add]; exact ldI_r r h kk
theorem Row.drew {w : World} {b : Nat} {e : TypeId} {cs : List Value} (r : Row w.heap b e cs) : Row w.drew.heap b e cs := r
namespace Seq
section
variable {w : World} {F L n : Nat} {v : Nat → Int} {q : List (List Nat)} {A B : List Nat} {a b x : Nat}

/-- What a node's looking function says. -/
def Say (z : Nat) (I : List Nat → World → Prop) (l : List Nat) (y : Nat) (r : List Nat) (d : Int) (w : World) : Prop :=
  (z ∈ l ∧ d < 0 ∧ I l w) ∨ (z = y ∧ d = 0) ∨ (z ∈ r ∧ 0 < d ∧ I r w)

def IAt (F p a : Nat) (z : Nat) (q : List Nat) (w : World) : Prop := Row w.heap p T_p_seq_Forest [.pointer (some ⟨F, 0, none⟩)] ∧ ∃ k : Nat, Row w.heap a T_int [.int .i64 k] ∧ q[k]? = some z

theorem c_At_1 {s : S} {c : List Fr} {l r : T} {y z p : Nat} {ts : List T} (h : IsF w.heap F L n s) (k : Fo n s v (plug c (.node l y false r) :: ts)) (hI : IAt F p a z (l.seq ++ y :: r.seq) w) :
    Calls Pg fn_seq_Forest_At_1 #[recV s y, .pointer (some ⟨p, 0, none⟩), .pointer (some ⟨a, 0, none⟩)] w fun e w' => ∃ d : Int, e = .returned (.int .i64 d) ∧ Chg (· = a) w w' ∧ (a ≠ p → Say z (IAt F p a z) l.seq y r.seq d w') := by
  obtain ⟨hp, i, ha, hi⟩ := hI
  refine (calls_seq_Forest_At_1 _ _ _ _ _ _ _ _ _ _ _ _ (fun v' w' => ∃ d : Int, v' = .int .i64 d ∧ Chg (· = a) w w' ∧ (a ≠ p → Say z (IAt F p a z) l.seq y r.seq d w')) ?_).mono (by rintro e w' ⟨v, rfl, d, rfl, k⟩; exact ⟨d, rfl, k⟩)
  unfold sh_seq_Forest_At_1
  refine alo_r fun hrow => ?_
  have hst := (St.start h).alloc (.cells #[.int .i32 (s.up y), .int .i32 (s.left y), .int .i32 (s.right y), .bool (s.turned y), .int .i32 (s.size y), .int .i64 (s.value y), .int .i64 (s.sum y), .int .i64 (s.least y), .int .i64 (s.most y)] T_seq_node)
  have hp := hp.alloc (.cells #[.int .i32 (s.up y), .int .i32 (s.left y), .int .i32 (s.right y), .bool (s.turned y), .int .i32 (s.size y), .int .i64 (s.value y), .int .i64 (s.sum y), .int .i64 (s.least y), .int .i64 (s.most y)] T_seq_node)
  have ha := ha.alloc (.cells #[.int .i32 (s.up y), .int .i32 (s.left y), .int .i32 (s.right y), .bool (s.turned y), .int .i32 (s.size y), .int .i64 (s.value y), .int .i64 (s.sum y), .int .i64 (s.least y), .int .i64 (s.most y)] T_seq_node)
  have hch : Chg (· = a) w (w.alloc (.cells #[.int .i32 (s.up y), .int .i32 (s.left y), .int .i32 (s.right y), .bool (s.turned y), .int .i32 (s.size y), .int .i64 (s.value y), .int .i64 (s.sum y), .int .i64 (s.least y), .int .i64 (s.most y)] T_seq_node)) := (Chg.refl _ _).alloc _
  generalize hw1 : w.alloc (.cells #[.int .i32 (s.up y), .int .i32 (s.left y), .int .i32 (s.right y), .bool (s.turned y), .int .i32 (s.size y), .int .i64 (s.value y), .int .i64 (s.sum y), .int .i64 (s.least y), .int .i64 (s.most y)] T_seq_node) = w1 at *
  obtain ⟨⟨hN, hRl, hRr⟩, _⟩ := (rep_plug c _).1 k.tr.rep
  have hlen := k.tr.len
  rw [(plug_ls c _).length_eq] at hlen
  simp only [T.ls, List.length_append, List.length_cons] at hlen
  have hll := l.seq_perm.length_eq
  have hrl := r.seq_perm.length_eq
  have hil : i < l.seq.length + (r.seq.length + 1) := by
    have := (List.getElem?_eq_some_iff.1 hi).1
    simpa using this
  -- what is said, once the size of the left side is known
  have fin1 : ∀ w2, Chg (· = a) w w2 → Row w2.heap p T_p_seq_Forest [.pointer (some ⟨F, 0, none⟩)] → Row w2.heap a T_int [.int .i64 i] → i ≤ l.seq.length → (a ≠ p → Say z (IAt F p a z) l.seq y r.seq ((i : Int) - l.seq.length) w2) := by
    intro w2 _ hp2 ha2 hle _
    by_cases e : i = l.seq.length
    · refine .inr (.inl ⟨?_, by omega⟩)
      rw [List.getElem?_append_right (by omega)] at hi
      simp [e] at hi; exact hi.symm
    · rw [List.getElem?_append_left (by omega)] at hi
      exact .inl ⟨List.mem_of_getElem? hi, by omega, hp2, i, ha2, hi⟩
  have fin2 : ∀ w2, Row w2.heap p T_p_seq_Forest [.pointer (some ⟨F, 0, none⟩)] → Row w2.heap a T_int [.int .i64 ((i : Int) - (l.seq.length + 1))] → ¬ i ≤ l.seq.length → Say z (IAt F p a z) l.seq y r.seq 1 w2 := by
    intro w2 hp2 ha2 hle
    rw [List.getElem?_append_right (by omega)] at hi
    have e : i - l.seq.length = (i - (l.seq.length + 1)) + 1 := by omega
    rw [e, List.getElem?_cons_succ] at hi
    refine .inr (.inr ⟨List.mem_of_getElem? hi, by omega, hp2, i - (l.seq.length + 1), ?_, hi⟩)
    have : ((i - (l.seq.length + 1) : Nat) : Int) = (i : Int) - (l.seq.length + 1) := by omega
    rw [this]; exact ha2
  refine ldI_a hrow rfl ?_
  refine bif_i (fun hc => ?_) (fun hc => ?_) <;> simp only [bne_iff_ne, ne_eq, bne_eq_false_iff_eq, Bool.not_eq_true, beq_iff_eq, beq_eq_false_iff_ne, decide_eq_true_eq, decide_eq_false_iff_not, Bool.not_eq_true', Bool.not_eq_false'] at hc
  · have hl' : l.rt ≠ -1 := by rw [← hN.left]; exact hc
    obtain ⟨yl, hyl⟩ : ∃ u : Nat, l.rt = u := by
      rcases rt_cases l with e | ⟨u, e, _⟩
      · exact absurd e hl'
      · exact ⟨u, e⟩
    have hyn : yl < n := k.tr.bd yl (by rw [(plug_ls c _).mem_iff]; have := rt_mem hyl.symm; simp [T.ls, this])
    have hag := (hRl.root hyl.symm).2.1
    have hleft : s.left y = yl := by rw [hN.left, hyl]
    have hyy : (yl : Int).toNat = yl := by omega
    have hsz : s.size (yl : Int).toNat = l.seq.length := by rw [hyy, hag.size, hll]
    refine pt_i (ldP_r hp.drew rfl (pt_i (ldS_F hst.drew ?_)))
    refine ldI_a hrow.drew rfl ?_
    rw [hleft]
    repeat (first | with_reducible refine pt_i ?_ | with_reducible refine ldS_F (by first | assumption | exact St.drew (by assumption) | exact St.drew (St.drew (by assumption)) | exact St.drew (St.drew (St.drew (by assumption)))) ?_ | with_reducible refine ixS_F (by omega) (by omega) ?_ | with_reducible refine ld_up (by first | assumption | exact St.drew (by assumption) | exact St.drew (St.drew (by assumption)) | exact St.drew (St.drew (St.drew (by assumption)))) (by omega) ?_ | with_reducible refine ld_left (by first | assumption | exact St.drew (by assumption) | exact St.drew (St.drew (by assumption)) | exact St.drew (St.drew (St.drew (by assumption)))) (by omega) ?_ | with_reducible refine ld_right (by first | assumption | exact St.drew (by assumption) | exact St.drew (St.drew (by assumption)) | exact St.drew (St.drew (St.drew (by assumption)))) (by omega) ?_ | with_reducible refine ld_turned (by first | assumption | exact St.drew (by assumption) | exact St.drew (St.drew (by assumption)) | exact St.drew (St.drew (St.drew (by assumption)))) (by omega) ?_ | with_reducible refine ld_size (by first | assumption | exact St.drew (by assumption) | exact St.drew (St.drew (by assumption)) | exact St.drew (St.drew (St.drew (by assumption)))) (by omega) ?_ | with_reducible refine ld_value (by first | assumption | exact St.drew (by assumption) | exact St.drew (St.drew (by assumption)) | exact St.drew (St.drew (St.drew (by assumption)))) (by omega) ?_ | with_reducible refine ld_sum (by first | assumption | exact St.drew (by assumption) | exact St.drew (St.drew (by assumption)) | exact St.drew (St.drew (St.drew (by assumption)))) (by omega) ?_ | with_reducible refine ld_least (by first | assumption | exact St.drew (by assumption) | exact St.drew (St.drew (by assumption)) | exact St.drew (St.drew (St.drew (by assumption)))) (by omega) ?_ | with_reducible refine ld_most (by first | assumption | exact St.drew (by assumption) | exact St.drew (St.drew (by assumption)) | exact St.drew (St.drew (St.drew (by assumption)))) (by omega) ?_ | (with_reducible refine st_up (by first | assumption | exact St.drew (by assumption) | exact St.drew (St.drew (by assumption)) | exact St.drew (St.drew (St.drew (by assumption)))) (by omega) (fun _ hst => ?_)) | (with_reducible refine st_left (by first | assumption | exact St.drew (by assumption) | exact St.drew (St.drew (by assumption)) | exact St.drew (St.drew (St.drew (by assumption)))) (by omega) (fun _ hst => ?_)) | (with_reducible refine st_right (by first | assumption | exact St.drew (by assumption) | exact St.drew (St.drew (by assumption)) | exact St.drew (St.drew (St.drew (by assumption)))) (by omega) (fun _ hst => ?_)) | (with_reducible refine st_turned (by first | assumption | exact St.drew (by assumption) | exact St.drew (St.drew (by assumption)) | exact St.drew (St.drew (St.drew (by assumption)))) (by omega) (fun _ hst => ?_)) | (with_reducible refine st_size (by first | assumption | exact St.drew (by assumption) | exact St.drew (St.drew (by assumption)) | exact St.drew (St.drew (St.drew (by assumption)))) (by omega) (fun _ hst => ?_)) | (with_reducible refine st_value (by first | assumption | exact St.drew (by assumption) | exact St.drew (St.drew (by assumption)) | exact St.drew (St.drew (St.drew (by assumption)))) (by omega) (fun _ hst => ?_)) | (with_reducible refine st_sum (by first | assumption | exact St.drew (by assumption) | exact St.drew (St.drew (by assumption)) | exact St.drew (St.drew (St.drew (by assumption)))) (by omega) (fun _ hst => ?_)) | (with_reducible refine st_least (by first | assumption | exact St.drew (by assumption) | exact St.drew (St.drew (by assumption)) | exact St.drew (St.drew (St.drew (by assumption)))) (by omega) (fun _ hst => ?_)) | (with_reducible refine st_most (by first | assumption | exact St.drew (by assumption) | exact St.drew (St.drew (by assumption)) | exact St.drew (St.drew (St.drew (by assumption)))) (by omega) (fun _ hst => ?_)) | simp only [S.up_w_up, S.left_w_up, S.right_w_up, S.turned_w_up, S.size_w_up, S.value_w_up, S.sum_w_up, S.least_w_up, S.most_w_up, S.up_w_left, S.left_w_left, S.right_w_left, S.turned_w_left, S.size_w_left, S.value_w_left, S.sum_w_left, S.least_w_left, S.most_w_left, S.up_w_right, S.left_w_right, S.right_w_right, S.turned_w_right, S.size_w_right, S.value_w_right, S.sum_w_right, S.least_w_right, S.most_w_right, S.up_w_turned, S.left_w_turned, S.right_w_turned, S.turned_w_turned, S.size_w_turned, S.value_w_turned, S.sum_w_turned, S.least_w_turned, S.most_w_turned, S.up_w_size, S.left_w_size, S.right_w_size, S.turned_w_size, S.size_w_size, S.value_w_size, S.sum_w_size, S.least_w_size, S.most_w_size, S.up_w_value, S.left_w_value, S.right_w_value, S.turned_w_value, S.size_w_value, S.value_w_value, S.sum_w_value, S.least_w_value, S.most_w_value, S.up_w_sum, S.left_w_sum, S.right_w_sum, S.turned_w_sum, S.size_w_sum, S.value_w_sum, S.sum_w_sum, S.least_w_sum, S.most_w_sum, S.up_w_least, S.left_w_least, S.right_w_least, S.turned_w_least, S.size_w_least, S.value_w_least, S.sum_w_least, S.least_w_least, S.most_w_least, S.up_w_most, S.left_w_most, S.right_w_most, S.turned_w_most, S.size_w_most, S.value_w_most, S.sum_w_most, S.least_w_most, S.most_w_most, upd_same])
    rw [hsz, wrap64_in (by omega) (by omega)]
    refine ldI_r ha.drew rfl ?_
    refine bif_i (fun h1 => ?_) (fun h1 => ?_) <;> simp only [bne_iff_ne, ne_eq, bne_eq_false_iff_eq, Bool.not_eq_true, beq_iff_eq, beq_eq_false_iff_ne, decide_eq_true_eq, decide_eq_false_iff_not, Bool.not_eq_true', Bool.not_eq_false'] at h1
    · refine pt_i ?_
      refine ldI_r ha.drew rfl ?_
      rw [wrap64_in (by omega) (by omega)]
      exact ⟨_, rfl, hch.drew, fin1 _ hch.drew hp.drew ha.drew (by omega)⟩
    · refine pt_i ?_
      refine ldI_r ha.drew rfl ?_
      refine pt_i ?_
      rw [wrap64_in (x := (l.seq.length : Int) + 1) (by omega) (by omega), wrap64_in (by omega) (by omega)]
      refine sto_r ha.drew (by simp) rfl fun hr2 => ?_
      exact ⟨1, rfl, hch.drew.setCell _ _ (.inl rfl), fun hne => fin2 _ (hp.drew.set_other _ _ hne) hr2 (by omega)⟩
  · have hl : l = .nil := by
      cases l with
      | nil => rfl
      | node => rw [hN.left] at hc; simp [T.rt] at hc
    have hl0 : l.seq.length = 0 := by rw [hl]; rfl
    refine pt_i ?_
    refine ldI_r ha rfl ?_
    refine bif_i (fun h1 => ?_) (fun h1 => ?_) <;> simp only [bne_iff_ne, ne_eq, bne_eq_false_iff_eq, Bool.not_eq_true, beq_iff_eq, beq_eq_false_iff_ne, decide_eq_true_eq, decide_eq_false_iff_not, Bool.not_eq_true', Bool.not_eq_false'] at h1
    · refine pt_i ?_
      refine ldI_r ha rfl ?_
      rw [wrap64_in (by omega) (by omega)]
      have := fin1 _ hch hp ha (by omega)
      rw [hl0] at this
      exact ⟨_, rfl, hch, this⟩
    · refine pt_i ?_
      refine ldI_r ha rfl ?_
      refine pt_i ?_
      rw [wrap64_in (by omega) (by omega)]
      refine sto_r ha (by simp) rfl fun hr2 => ?_
      have := fun hne => fin2 _ (hp.set_other ⟨a, 0, none⟩ (.int .i64 ((i : Int) - 1)) hne) (by rw [hl0]; exact hr2) (by omega)
      exact ⟨1, rfl, hch.setCell _ _ (.inl rfl), this⟩

theorem dcv_i {P : Program} {E : List FuncId} {g : FuncId} {first cap : Array Value} {args : List Value} {w : World} {X : Ending → World → Prop} (h : E.contains g = true) (k : Calls P g ((first.toList ++ args) ++ cap.toList).toArray w X) :
    dcv P E (.func (.func g) first cap) args w X := by unfold dcv; simp only [h, cond_true]; exact k

/-- Going down with a function that says, of every node, where z is. -/
theorem c_downA {w₀ w : World} {s : S} {t : T} {ts : List T} {f : FuncId} {c1 c2 : Nat} {x z : Nat} {I : List Nat → World → Prop} (hE : Eall.contains f = true)
    (hst : St w₀ w F L n s) (k : Fo n s v (t :: ts)) (hx : t.rt = x) (hz : z ∈ t.ls) (hI : I t.seq w) (h1 : w₀.heap.size ≤ c2)
    (stab : ∀ q w' w'', I q w' → Chg (· = L) w' w'' → I q w'')
    (hto : ∀ c l y r s' w', IsF w'.heap F L n s' → Fo n s' v (plug c (.node l y false r) :: ts) → z ∈ (T.node l y false r).ls → I (T.node l y false r).seq w' →
      Calls Pg f #[recV s' y, .pointer (some ⟨c1, 0, none⟩), .pointer (some ⟨c2, 0, none⟩)] w' fun e w'' => ∃ d : Int, e = .returned (.int .i64 d) ∧ Chg (· = c2) w' w'' ∧ Say z I l.seq y r.seq d w'') :
    Calls Pg fn_seq_Forest_down #[.pointer (some ⟨F, 0, none⟩), .int .i32 x, .func (.func f) #[] #[.pointer (some ⟨c1, 0, none⟩), .pointer (some ⟨c2, 0, none⟩)]] w fun e w' => e = .returned (.int .i64 z) ∧ AS w₀ w' F L n v (t.seq :: ts.map T.seq) := by
  refine (c_down (base := w₀.heap.size) (I := I) hst.i k hx hz hI hst.lt.1 hst.lt.2 stab ?_ hst.c.size).mono ?_
  · intro c l y r s' w' hi' k' hb' hs' hz' hI'
    refine dcv_i hE ?_
    refine (hto c l y r s' w' hi' k' hz' hI').mono ?_
    rintro e w'' ⟨d, rfl, hc, hs⟩
    refine ⟨d, rfl, hc.mono (fun j _ e => by subst e; exact h1), ?_⟩
    rcases hs with ⟨a, b, c⟩ | ⟨a, b⟩ | ⟨a, b, c⟩
    · exact .inl ⟨mem_seq.1 a, b, c⟩
    · exact .inr (.inl ⟨a, b⟩)
    · exact .inr (.inr ⟨mem_seq.1 a, b, c⟩)
  · rintro e w' ⟨rfl, s', t', hi', hc', k', hs'⟩
    refine ⟨rfl, s', t' :: ts, ⟨hi', hst.c.trans' hc' (fun i h => h), hst.lt⟩, k', ?_⟩
    rw [List.map_cons, hs']

theorem c_At_bad {x i : Int} (h : AF w.heap F L n v q) (hx : ¬ (0 ≤ x ∧ x < n)) :
    Calls Pg fn_seq_Forest_At #[.pointer (some ⟨F, 0, none⟩), .int .i64 x, .int .i64 i] w fun e w' => e = .returned (.tuple #[.int .i64 0, errV 12]) ∧ AS w w' F L n v q := by
  refine (calls_seq_Forest_At _ _ _ _ (fun v' w' => v' = .tuple #[.int .i64 0, errV 12] ∧ AS w w' F L n v q) ?_).mono (by rintro e w' ⟨v, rfl, rfl, k⟩; exact ⟨rfl, k⟩)
  unfold sh_seq_Forest_At
  refine alo_r fun hp => alo_r fun ha => ?_
  refine ldP_r (hp.alloc _) rfl ?_
  refine (c_top_bad ((h.alloc _).alloc _) hx).mono ?_
  rintro e w4 ⟨rfl, has⟩
  exact ⟨_, _, rfl, err_i (fun _ => ⟨rfl, ((h.start.alloc _).alloc _).trans has⟩) (fun e => by omega)⟩
theorem c_At {x : Nat} {i : Int} (h : AF w.heap F L n v (A :: q)) (hx : x ∈ A) (hi : -9223372036854775808 ≤ i ∧ i ≤ 9223372036854775807) :
    Calls Pg fn_seq_Forest_At #[.pointer (some ⟨F, 0, none⟩), .int .i64 x, .int .i64 i] w fun e w' =>
      (∃ z : Nat, 0 ≤ i ∧ A[i.toNat]? = some z ∧ e = .returned (.tuple #[.int .i64 z, errV 0]) ∨ ¬ (0 ≤ i ∧ i < A.length) ∧ e = .returned (.tuple #[.int .i64 0, errV 1])) ∧ AS w w' F L n v (A :: q) := by
  obtain ⟨hnd, hlt, _, _, hn, _⟩ := h.nodup
  have hxn := hlt A (by simp) x hx
  have hlts := h.lt
  refine (calls_seq_Forest_At _ _ _ _ (fun v' w' => (∃ z : Nat, 0 ≤ i ∧ A[i.toNat]? = some z ∧ v' = .tuple #[.int .i64 z, errV 0] ∨ ¬ (0 ≤ i ∧ i < A.length) ∧ v' = .tuple #[.int .i64 0, errV 1]) ∧ AS w w' F L n v (A :: q)) ?_).mono (by
    rintro e w' ⟨v, rfl, ⟨z, h | h⟩, k⟩
    · exact ⟨⟨z, .inl ⟨h.1, h.2.1, by rw [h.2.2]⟩⟩, k⟩
    · exact ⟨⟨z, .inr ⟨h.1, by rw [h.2]⟩⟩, k⟩)
  unfold sh_seq_Forest_At
  refine alo_r fun hp => alo_r fun ha => ?_
  refine ldP_r (hp.alloc _) rfl ?_
  refine (c_top ((h.alloc _).alloc _) hx).mono ?_
  rintro e w4 ⟨rfl, s, l, r, ts, hst, k, hs, hpm⟩
  refine ⟨_, _, rfl, err_i (fun e => absurd rfl e) (fun _ => ?_)⟩
  have hs0 : w.heap.size + 1 = (w.alloc (.cells #[.pointer (some ⟨F, 0, none⟩)] T_p_seq_Forest)).heap.size := by show _ = (w.heap.push _).size; simp
  have hp4 := hst.c.row (show ¬ w.heap.size = L by omega) (hp.alloc _)
  have ha4 := hst.c.row (show ¬ _ = L by rw [← hs0]; omega) ha
  rw [← hs0] at ha4 ⊢
  have hst0 : St w w4 F L n s := ⟨hst.i, (((Chg.refl _ w).alloc _).alloc _).trans hst.c, hlts⟩
  have has := AS.of hst0 k hs hpm
  have hxx : (x : Int).toNat = x := by omega
  have hlen : s.size x = A.length := by
    rw [k.tr.rep.1.agg.size, ← hs]
    have h1 := l.seq_perm.length_eq
    have h2 := r.seq_perm.length_eq
    simp [h1, h2]
  have hA : A.length ≤ 8388608 := by
    have hl := k.tr.len
    rw [← hs]
    have h1 := l.seq_perm.length_eq
    have h2 := r.seq_perm.length_eq
    simp [T.ls] at hl
    simp [h1, h2]; omega
  refine ldI_r ha4.drew rfl ?_
  refine bif_i (fun h1 => ?_) (fun h1 => ?_) <;> simp only [bne_iff_ne, ne_eq, bne_eq_false_iff_eq, Bool.not_eq_true, beq_iff_eq, beq_eq_false_iff_ne, decide_eq_true_eq, decide_eq_false_iff_not, Bool.not_eq_true', Bool.not_eq_false'] at h1
  · exact ⟨⟨0, .inr ⟨by omega, rfl⟩⟩, has.drew⟩
  · refine ldI_r ha4.drew rfl ?_
    have hst := hst0.drew
    have hp4 := hp4.drew
    have ha4 := ha4.drew
    have has := has.drew
    generalize w4.drew = w5 at *
    repeat (first | with_reducible refine pt_i ?_ | with_reducible refine ldS_F (by first | assumption | exact St.drew (by assumption) | exact St.drew (St.drew (by assumption)) | exact St.drew (St.drew (St.drew (by assumption)))) ?_ | with_reducible refine ixS_F (by omega) (by omega) ?_ | with_reducible refine ld_up (by first | assumption | exact St.drew (by assumption) | exact St.drew (St.drew (by assumption)) | exact St.drew (St.drew (St.drew (by assumption)))) (by omega) ?_ | with_reducible refine ld_left (by first | assumption | exact St.drew (by assumption) | exact St.drew (St.drew (by assumption)) | exact St.drew (St.drew (St.drew (by assumption)))) (by omega) ?_ | with_reducible refine ld_right (by first | assumption | exact St.drew (by assumption) | exact St.drew (St.drew (by assumption)) | exact St.drew (St.drew (St.drew (by assumption)))) (by omega) ?_ | with_reducible refine ld_turned (by first | assumption | exact St.drew (by assumption) | exact St.drew (St.drew (by assumption)) | exact St.drew (St.drew (St.drew (by assumption)))) (by omega) ?_ | with_reducible refine ld_size (by first | assumption | exact St.drew (by assumption) | exact St.drew (St.drew (by assumption)) | exact St.drew (St.drew (St.drew (by assumption)))) (by omega) ?_ | with_reducible refine ld_value (by first | assumption | exact St.drew (by assumption) | exact St.drew (St.drew (by assumption)) | exact St.drew (St.drew (St.drew (by assumption)))) (by omega) ?_ | with_reducible refine ld_sum (by first | assumption | exact St.drew (by assumption) | exact St.drew (St.drew (by assumption)) | exact St.drew (St.drew (St.drew (by assumption)))) (by omega) ?_ | with_reducible refine ld_least (by first | assumption | exact St.drew (by assumption) | exact St.drew (St.drew (by assumption)) | exact St.drew (St.drew (St.drew (by assumption)))) (by omega) ?_ | with_reducible refine ld_most (by first | assumption | exact St.drew (by assumption) | exact St.drew (St.drew (by assumption)) | exact St.drew (St.drew (St.drew (by assumption)))) (by omega) ?_ | (with_reducible refine st_up (by first | assumption | exact St.drew (by assumption) | exact St.drew (St.drew (by assumption)) | exact St.drew (St.drew (St.drew (by assumption)))) (by omega) (fun _ hst => ?_)) | (with_reducible refine st_left (by first | assumption | exact St.drew (by assumption) | exact St.drew (St.drew (by assumption)) | exact St.drew (St.drew (St.drew (by assumption)))) (by omega) (fun _ hst => ?_)) | (with_reducible refine st_right (by first | assumption | exact St.drew (by assumption) | exact St.drew (St.drew (by assumption)) | exact St.drew (St.drew (St.drew (by assumption)))) (by omega) (fun _ hst => ?_)) | (with_reducible refine st_turned (by first | assumption | exact St.drew (by assumption) | exact St.drew (St.drew (by assumption)) | exact St.drew (St.drew (St.drew (by assumption)))) (by omega) (fun _ hst => ?_)) | (with_reducible refine st_size (by first | assumption | exact St.drew (by assumption) | exact St.drew (St.drew (by assumption)) | exact St.drew (St.drew (St.drew (by assumption)))) (by omega) (fun _ hst => ?_)) | (with_reducible refine st_value (by first | assumption | exact St.drew (by assumption) | exact St.drew (St.drew (by assumption)) | exact St.drew (St.drew (St.drew (by assumption)))) (by omega) (fun _ hst => ?_)) | (with_reducible refine st_sum (by first | assumption | exact St.drew (by assumption) | exact St.drew (St.drew (by assumption)) | exact St.drew (St.drew (St.drew (by assumption)))) (by omega) (fun _ hst => ?_)) | (with_reducible refine st_least (by first | assumption | exact St.drew (by assumption) | exact St.drew (St.drew (by assumption)) | exact St.drew (St.drew (St.drew (by assumption)))) (by omega) (fun _ hst => ?_)) | (with_reducible refine st_most (by first | assumption | exact St.drew (by assumption) | exact St.drew (St.drew (by assumption)) | exact St.drew (St.drew (St.drew (by assumption)))) (by omega) (fun _ hst => ?_)) | simp only [S.up_w_up, S.left_w_up, S.right_w_up, S.turned_w_up, S.size_w_up, S.value_w_up, S.sum_w_up, S.least_w_up, S.most_w_up, S.up_w_left, S.left_w_left, S.right_w_left, S.turned_w_left, S.size_w_left, S.value_w_left, S.sum_w_left, S.least_w_left, S.most_w_left, S.up_w_right, S.left_w_right, S.right_w_right, S.turned_w_right, S.size_w_right, S.value_w_right, S.sum_w_right, S.least_w_right, S.most_w_right, S.up_w_turned, S.left_w_turned, S.right_w_turned, S.turned_w_turned, S.size_w_turned, S.value_w_turned, S.sum_w_turned, S.least_w_turned, S.most_w_turned, S.up_w_size, S.left_w_size, S.right_w_size, S.turned_w_size, S.size_w_size, S.value_w_size, S.sum_w_size, S.least_w_size, S.most_w_size, S.up_w_value, S.left_w_value, S.right_w_value, S.turned_w_value, S.size_w_value, S.value_w_value, S.sum_w_value, S.least_w_value, S.most_w_value, S.up_w_sum, S.left_w_sum, S.right_w_sum, S.turned_w_sum, S.size_w_sum, S.value_w_sum, S.sum_w_sum, S.least_w_sum, S.most_w_sum, S.up_w_least, S.left_w_least, S.right_w_least, S.turned_w_least, S.size_w_least, S.value_w_least, S.sum_w_least, S.least_w_least, S.most_w_least, S.up_w_most, S.left_w_most, S.right_w_most, S.turned_w_most, S.size_w_most, S.value_w_most, S.sum_w_most, S.least_w_most, S.most_w_most, upd_same])
    rw [hxx, hlen, wrap64_in (by omega) (by omega)]
    refine bif_i (fun h2 => ?_) (fun h2 => ?_) <;> simp only [bne_iff_ne, ne_eq, bne_eq_false_iff_eq, Bool.not_eq_true, beq_iff_eq, beq_eq_false_iff_ne, decide_eq_true_eq, decide_eq_false_iff_not, Bool.not_eq_true', Bool.not_eq_false'] at h2
    · exact ⟨⟨0, .inr ⟨by omega, rfl⟩⟩, has⟩
    · refine ldP_r hp4 rfl ?_
      rw [wrap32_in (by omega) (by omega)]
      have hiA : i.toNat < A.length := by omega
      obtain ⟨z, hz⟩ : ∃ z, A[i.toNat]? = some z := ⟨_, List.getElem?_eq_getElem hiA⟩
      have hzA := List.mem_of_getElem? hz
      have hseq : (T.node l x false r).seq = A := by simpa [T.seq] using hs
      refine (c_downA (by kernel_rfl) (I := IAt F w.heap.size (w.heap.size + 1) z) hst k rfl (mem_seq.1 (by rw [hseq]; exact hzA)) ?_ (by omega) ?_ ?_).mono ?_
      · rw [hseq]
        refine ⟨hp4, i.toNat, ?_, hz⟩
        have : (i.toNat : Int) = i := by omega
        rw [this]; exact ha4
      · rintro q w' w'' ⟨h1, i, h2, h3⟩ hc
        exact ⟨hc.row (show ¬ _ = L by omega) h1, i, hc.row (show ¬ _ = L by omega) h2, h3⟩
      · intro c l y r s' w' hi' k' hz' hI'
        refine (c_At_1 hi' k' (by simpa [T.seq] using hI')).mono ?_
        rintro e w'' ⟨d, rfl, hc, hs⟩
        exact ⟨d, rfl, hc, hs (by omega)⟩
      · rintro e w' ⟨rfl, hA'⟩
        refine ⟨_, rfl, ⟨z, .inl ⟨by omega, hz, rfl⟩⟩, ?_⟩
        rw [hseq] at hA'
        exact hA'.perm (hpm.symm.cons _)
end
end Seq
end Go.Proofs.YtledchlbmilneaaDoor
