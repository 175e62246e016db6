/-
Layer 4: going down a tree to what is looked for.
Conditions: those that each theorem states.
-/
import Derived.Test.YtledchlbmilneaaDoorSeqJ
import Derived.Test.YtledchlbmilneaaDoorShSeq
namespace Go.Proofs.YtledchlbmilneaaDoor
open Go
set_option linter.unusedVariables false
set_option linter.unusedSimpArgs false
namespace Seq
/-- A node's record as a value. -/
def recV (s : S) (y : Nat) : Value := .agg #[.int .i32 (s.up y), .int .i32 (s.left y), .int .i32 (s.right y), .bool (s.turned y), .int .i32 (s.size y), .int .i64 (s.value y), .int .i64 (s.sum y), .int .i64 (s.least y), .int .i64 (s.most y)]

theorem dcv_mono {P : Program} {E : List FuncId} {f : Value} {args : List Value} {w : World} {X Y : Ending → World → Prop} (h : dcv P E f args w X) (hXY : ∀ e w', X e w' → Y e w') : dcv P E f args w Y := by
  unfold dcv at *
  split at h
  · rename_i g a b
    cases hg : E.contains g <;> simp only [hg, cond_true, cond_false] at h ⊢
    exact Calls.mono h hXY
  · exact h.elim
theorem c_down {w : World} {F L n base : Nat} {s : S} {v : Nat → Int} {t : T} {ts : List T} {to : Value} {x z : Nat} {I : List Nat → World → Prop}
    (h : IsF w.heap F L n s) (k : Fo n s v (t :: ts)) (hx : t.rt = x) (hz : z ∈ t.ls) (hI : I t.seq w) (hF : F < base) (hL : L < base)
    (stab : ∀ q w' w'', I q w' → Chg (· = L) w' w'' → I q w'')
    (hto : ∀ c l y r s' w', IsF w'.heap F L n s' → Fo n s' v (plug c (.node l y false r) :: ts) → base ≤ w'.heap.size → (plug c (.node l y false r)).seq = t.seq → z ∈ (T.node l y false r).ls → I (T.node l y false r).seq w' →
      dcv Pg Eall to [recV s' y] w' fun e w'' => ∃ d : Int, e = .returned (.int .i64 d) ∧ Chg (base ≤ ·) w' w'' ∧
        ((z ∈ l.ls ∧ d < 0 ∧ I l.seq w'') ∨ (z = y ∧ d = 0) ∨ (z ∈ r.ls ∧ 0 < d ∧ I r.seq w'')))
    (hb : base ≤ w.heap.size) :
    Calls Pg fn_seq_Forest_down #[.pointer (some ⟨F, 0, none⟩), .int .i32 x, to] w fun e w' => e = .returned (.int .i64 z) ∧ ∃ s' t', IsF w'.heap F L n s' ∧ Chg (fun k => k = L ∨ base ≤ k) w w' ∧ Fo n s' v (t' :: ts) ∧ t'.seq = t.seq := by
  refine (calls_seq_Forest_down _ _ _ _ (fun v' w' => v' = .int .i64 z ∧ ∃ s' t', IsF w'.heap F L n s' ∧ Chg (fun k => k = L ∨ base ≤ k) w w' ∧ Fo n s' v (t' :: ts) ∧ t'.seq = t.seq) ?_).mono (by rintro e w' ⟨v, rfl, rfl, k⟩; exact ⟨rfl, k⟩)
  unfold sh_seq_Forest_down
  let J : Nat → List Value → World → Prop := fun j vs w' => ∃ c l b r s', ∃ y : Nat, vs = [.int .i32 y] ∧ IsF w'.heap F L n s' ∧ Chg (fun k => k = L ∨ base ≤ k) w w' ∧ Fo n s' v (plug c (.node l y b r) :: ts) ∧ (plug c (.node l y b r)).seq = t.seq ∧
    z ∈ (T.node l y b r).ls ∧ I (T.node l y b r).seq w' ∧ j = (T.node l y b r).ls.length
  obtain ⟨l0, b0, r0, rfl⟩ : ∃ l b r, t = .node l x b r := by
    cases t with
    | nil => cases hz
    | node l y b r => simp only [T.rt] at hx; have : y = x := by omega
                      subst this; exact ⟨l, b, r, rfl⟩
  refine ⟨LI J, LM J, ⟨_, [], l0, b0, r0, s, x, rfl, h, Chg.refl _ _, k, rfl, hz, hI, rfl⟩, ?_⟩
  intro _ y w6 hJ
  obtain ⟨c, l, b, r, s6, y, hvs, hi6, hc6, k6, hs6, hz6, hI6, hj⟩ := hJ.at
  simp only [List.cons.injEq, Value.int.injEq, and_true, true_and] at hvs
  subst hvs
  have hyn : y < n := k6.tr.bd y (by rw [(plug_ls c _).mem_iff]; simp [T.ls])
  have hyy : (y : Int).toNat = y := by omega
  obtain ⟨_, ⟨a1, a2⟩, a3, a4⟩ := k6.wf y hyn
  refine (c_push hi6 (by omega) (by omega) (by rw [hyy]; exact a1) (by rw [hyy]; exact a2) (by rw [hyy]; exact a3) (by rw [hyy]; exact a4)).mono ?_
  rintro e w7 ⟨rfl, hst7⟩
  refine ⟨rfl, ?_⟩
  have hg := gd_push k6.tr
  have k7 := k6.gd hg
  have hs7 := hg.seq.trans hs6
  obtain ⟨l', r', hsh⟩ := pushT_shape l y b r
  have hperm := pushT_ls l y b r
  have hseq := pushT_seq l y b r
  rw [hsh] at k7 hs7 hperm hseq
  have hz7 : z ∈ (T.node l' y false r').ls := hperm.mem_iff.1 hz6
  have hI7 : I (T.node l' y false r').seq w7 := by rw [hseq]; exact stab _ _ _ hI6 hst7.c
  have hlen := hperm.length_eq
  have hst := St.start hst7.i
  have hbw : base ≤ w7.heap.size := Nat.le_trans hb (Nat.le_trans hc6.size hst7.c.size)
  repeat (first | with_reducible refine pt_i ?_ | with_reducible refine ldS_F (by first | assumption | exact St.drew (by assumption) | exact St.drew (St.drew (by assumption)) | exact St.drew (St.drew (St.drew (by assumption)))) ?_ | with_reducible refine ixS_F (by omega) (by omega) ?_ | with_reducible refine ld_up (by first | assumption | exact St.drew (by assumption) | exact St.drew (St.drew (by assumption)) | exact St.drew (St.drew (St.drew (by assumption)))) (by omega) ?_ | with_reducible refine ld_left (by first | assumption | exact St.drew (by assumption) | exact St.drew (St.drew (by assumption)) | exact St.drew (St.drew (St.drew (by assumption)))) (by omega) ?_ | with_reducible refine ld_right (by first | assumption | exact St.drew (by assumption) | exact St.drew (St.drew (by assumption)) | exact St.drew (St.drew (St.drew (by assumption)))) (by omega) ?_ | with_reducible refine ld_turned (by first | assumption | exact St.drew (by assumption) | exact St.drew (St.drew (by assumption)) | exact St.drew (St.drew (St.drew (by assumption)))) (by omega) ?_ | with_reducible refine ld_size (by first | assumption | exact St.drew (by assumption) | exact St.drew (St.drew (by assumption)) | exact St.drew (St.drew (St.drew (by assumption)))) (by omega) ?_ | with_reducible refine ld_value (by first | assumption | exact St.drew (by assumption) | exact St.drew (St.drew (by assumption)) | exact St.drew (St.drew (St.drew (by assumption)))) (by omega) ?_ | with_reducible refine ld_sum (by first | assumption | exact St.drew (by assumption) | exact St.drew (St.drew (by assumption)) | exact St.drew (St.drew (St.drew (by assumption)))) (by omega) ?_ | with_reducible refine ld_least (by first | assumption | exact St.drew (by assumption) | exact St.drew (St.drew (by assumption)) | exact St.drew (St.drew (St.drew (by assumption)))) (by omega) ?_ | with_reducible refine ld_most (by first | assumption | exact St.drew (by assumption) | exact St.drew (St.drew (by assumption)) | exact St.drew (St.drew (St.drew (by assumption)))) (by omega) ?_ | (with_reducible refine st_up (by first | assumption | exact St.drew (by assumption) | exact St.drew (St.drew (by assumption)) | exact St.drew (St.drew (St.drew (by assumption)))) (by omega) (fun _ hst => ?_)) | (with_reducible refine st_left (by first | assumption | exact St.drew (by assumption) | exact St.drew (St.drew (by assumption)) | exact St.drew (St.drew (St.drew (by assumption)))) (by omega) (fun _ hst => ?_)) | (with_reducible refine st_right (by first | assumption | exact St.drew (by assumption) | exact St.drew (St.drew (by assumption)) | exact St.drew (St.drew (St.drew (by assumption)))) (by omega) (fun _ hst => ?_)) | (with_reducible refine st_turned (by first | assumption | exact St.drew (by assumption) | exact St.drew (St.drew (by assumption)) | exact St.drew (St.drew (St.drew (by assumption)))) (by omega) (fun _ hst => ?_)) | (with_reducible refine st_size (by first | assumption | exact St.drew (by assumption) | exact St.drew (St.drew (by assumption)) | exact St.drew (St.drew (St.drew (by assumption)))) (by omega) (fun _ hst => ?_)) | (with_reducible refine st_value (by first | assumption | exact St.drew (by assumption) | exact St.drew (St.drew (by assumption)) | exact St.drew (St.drew (St.drew (by assumption)))) (by omega) (fun _ hst => ?_)) | (with_reducible refine st_sum (by first | assumption | exact St.drew (by assumption) | exact St.drew (St.drew (by assumption)) | exact St.drew (St.drew (St.drew (by assumption)))) (by omega) (fun _ hst => ?_)) | (with_reducible refine st_least (by first | assumption | exact St.drew (by assumption) | exact St.drew (St.drew (by assumption)) | exact St.drew (St.drew (St.drew (by assumption)))) (by omega) (fun _ hst => ?_)) | (with_reducible refine st_most (by first | assumption | exact St.drew (by assumption) | exact St.drew (St.drew (by assumption)) | exact St.drew (St.drew (St.drew (by assumption)))) (by omega) (fun _ hst => ?_)) | simp only [S.up_w_up, S.left_w_up, S.right_w_up, S.turned_w_up, S.size_w_up, S.value_w_up, S.sum_w_up, S.least_w_up, S.most_w_up, S.up_w_left, S.left_w_left, S.right_w_left, S.turned_w_left, S.size_w_left, S.value_w_left, S.sum_w_left, S.least_w_left, S.most_w_left, S.up_w_right, S.left_w_right, S.right_w_right, S.turned_w_right, S.size_w_right, S.value_w_right, S.sum_w_right, S.least_w_right, S.most_w_right, S.up_w_turned, S.left_w_turned, S.right_w_turned, S.turned_w_turned, S.size_w_turned, S.value_w_turned, S.sum_w_turned, S.least_w_turned, S.most_w_turned, S.up_w_size, S.left_w_size, S.right_w_size, S.turned_w_size, S.size_w_size, S.value_w_size, S.sum_w_size, S.least_w_size, S.most_w_size, S.up_w_value, S.left_w_value, S.right_w_value, S.turned_w_value, S.size_w_value, S.value_w_value, S.sum_w_value, S.least_w_value, S.most_w_value, S.up_w_sum, S.left_w_sum, S.right_w_sum, S.turned_w_sum, S.size_w_sum, S.value_w_sum, S.sum_w_sum, S.least_w_sum, S.most_w_sum, S.up_w_least, S.left_w_least, S.right_w_least, S.turned_w_least, S.size_w_least, S.value_w_least, S.sum_w_least, S.least_w_least, S.most_w_least, S.up_w_most, S.left_w_most, S.right_w_most, S.turned_w_most, S.size_w_most, S.value_w_most, S.sum_w_most, S.least_w_most, S.most_w_most, upd_same])
  rw [hyy]
  have hcall := hto c l' y r' _ w7 hst7.i k7 hbw hs7 hz7 hI7
  refine dcv_mono hcall ?_
  rintro e w22 ⟨d, rfl, hc22, hd⟩
  refine ⟨d, rfl, ?_⟩
  have hi22 := hst7.i.chg hc22 (by omega) (by omega)
  have hc22' : Chg (fun k => k = L ∨ base ≤ k) w w22 := (hc6.trans (hst7.c.mono (fun _ _ h => .inl h))).trans (hc22.mono (fun _ _ h => .inr h))
  have hst := St.start hi22
  obtain ⟨⟨hN, hRl, hRr⟩, _⟩ := (rep_plug c _).1 k7.tr.rep
  have next : ∀ (d' : Bool) (u : T), u = (if d' then l' else r') → z ∈ u.ls → I u.seq w22 → u.ls.length < (T.node l y b r).ls.length → ∃ y' : Nat, u.rt = y' ∧ J u.ls.length [.int .i32 y'] w22 := by
    intro d' u hu hzu hIu hlt
    cases u with
    | nil => cases hzu
    | node l6 y6 b6 r6 =>
      refine ⟨y6, rfl, (if d' then ⟨true, y, false, r'⟩ else ⟨false, y, false, l'⟩) :: c, l6, b6, r6, _, y6, rfl, hi22, hc22', ?_, ?_, hzu, hIu, rfl⟩
      · cases d' <;> simp only [Bool.false_eq_true, if_false, if_true] at hu ⊢ <;> rw [hu] <;> exact k7
      · cases d' <;> simp only [Bool.false_eq_true, if_false, if_true] at hu ⊢ <;> rw [hu] <;> exact hs7
  have hlt : ∀ u : T, u = l' ∨ u = r' → u.ls.length < (T.node l y b r).ls.length := by
    intro u hu
    rw [hlen]
    simp only [T.ls, List.length_append, List.length_cons]
    rcases hu with rfl | rfl <;> omega
  refine bif_i (fun h1 => ?_) (fun h1 => ?_) <;> simp only [bne_iff_ne, ne_eq, bne_eq_false_iff_eq, Bool.not_eq_true, beq_iff_eq, beq_eq_false_iff_ne, decide_eq_true_eq, decide_eq_false_iff_not, Bool.not_eq_true', Bool.not_eq_false'] at h1
  · obtain ⟨hzl, hIl⟩ : z ∈ l'.ls ∧ I l'.seq w22 := by
      rcases hd with ⟨a, _, b⟩ | ⟨_, e⟩ | ⟨_, e, _⟩
      · exact ⟨a, b⟩
      · omega
      · omega
    obtain ⟨y', hy', hJ'⟩ := next true l' rfl hzl hIl (hlt _ (.inl rfl))
    have hleft : (pushS s6 y).left y = y' := by rw [hN.left]; exact hy'
    repeat (first | with_reducible refine pt_i ?_ | with_reducible refine ldS_F (by first | assumption | exact St.drew (by assumption) | exact St.drew (St.drew (by assumption)) | exact St.drew (St.drew (St.drew (by assumption)))) ?_ | with_reducible refine ixS_F (by omega) (by omega) ?_ | with_reducible refine ld_up (by first | assumption | exact St.drew (by assumption) | exact St.drew (St.drew (by assumption)) | exact St.drew (St.drew (St.drew (by assumption)))) (by omega) ?_ | with_reducible refine ld_left (by first | assumption | exact St.drew (by assumption) | exact St.drew (St.drew (by assumption)) | exact St.drew (St.drew (St.drew (by assumption)))) (by omega) ?_ | with_reducible refine ld_right (by first | assumption | exact St.drew (by assumption) | exact St.drew (St.drew (by assumption)) | exact St.drew (St.drew (St.drew (by assumption)))) (by omega) ?_ | with_reducible refine ld_turned (by first | assumption | exact St.drew (by assumption) | exact St.drew (St.drew (by assumption)) | exact St.drew (St.drew (St.drew (by assumption)))) (by omega) ?_ | with_reducible refine ld_size (by first | assumption | exact St.drew (by assumption) | exact St.drew (St.drew (by assumption)) | exact St.drew (St.drew (St.drew (by assumption)))) (by omega) ?_ | with_reducible refine ld_value (by first | assumption | exact St.drew (by assumption) | exact St.drew (St.drew (by assumption)) | exact St.drew (St.drew (St.drew (by assumption)))) (by omega) ?_ | with_reducible refine ld_sum (by first | assumption | exact St.drew (by assumption) | exact St.drew (St.drew (by assumption)) | exact St.drew (St.drew (St.drew (by assumption)))) (by omega) ?_ | with_reducible refine ld_least (by first | assumption | exact St.drew (by assumption) | exact St.drew (St.drew (by assumption)) | exact St.drew (St.drew (St.drew (by assumption)))) (by omega) ?_ | with_reducible refine ld_most (by first | assumption | exact St.drew (by assumption) | exact St.drew (St.drew (by assumption)) | exact St.drew (St.drew (St.drew (by assumption)))) (by omega) ?_ | (with_reducible refine st_up (by first | assumption | exact St.drew (by assumption) | exact St.drew (St.drew (by assumption)) | exact St.drew (St.drew (St.drew (by assumption)))) (by omega) (fun _ hst => ?_)) | (with_reducible refine st_left (by first | assumption | exact St.drew (by assumption) | exact St.drew (St.drew (by assumption)) | exact St.drew (St.drew (St.drew (by assumption)))) (by omega) (fun _ hst => ?_)) | (with_reducible refine st_right (by first | assumption | exact St.drew (by assumption) | exact St.drew (St.drew (by assumption)) | exact St.drew (St.drew (St.drew (by assumption)))) (by omega) (fun _ hst => ?_)) | (with_reducible refine st_turned (by first | assumption | exact St.drew (by assumption) | exact St.drew (St.drew (by assumption)) | exact St.drew (St.drew (St.drew (by assumption)))) (by omega) (fun _ hst => ?_)) | (with_reducible refine st_size (by first | assumption | exact St.drew (by assumption) | exact St.drew (St.drew (by assumption)) | exact St.drew (St.drew (St.drew (by assumption)))) (by omega) (fun _ hst => ?_)) | (with_reducible refine st_value (by first | assumption | exact St.drew (by assumption) | exact St.drew (St.drew (by assumption)) | exact St.drew (St.drew (St.drew (by assumption)))) (by omega) (fun _ hst => ?_)) | (with_reducible refine st_sum (by first | assumption | exact St.drew (by assumption) | exact St.drew (St.drew (by assumption)) | exact St.drew (St.drew (St.drew (by assumption)))) (by omega) (fun _ hst => ?_)) | (with_reducible refine st_least (by first | assumption | exact St.drew (by assumption) | exact St.drew (St.drew (by assumption)) | exact St.drew (St.drew (St.drew (by assumption)))) (by omega) (fun _ hst => ?_)) | (with_reducible refine st_most (by first | assumption | exact St.drew (by assumption) | exact St.drew (St.drew (by assumption)) | exact St.drew (St.drew (St.drew (by assumption)))) (by omega) (fun _ hst => ?_)) | simp only [S.up_w_up, S.left_w_up, S.right_w_up, S.turned_w_up, S.size_w_up, S.value_w_up, S.sum_w_up, S.least_w_up, S.most_w_up, S.up_w_left, S.left_w_left, S.right_w_left, S.turned_w_left, S.size_w_left, S.value_w_left, S.sum_w_left, S.least_w_left, S.most_w_left, S.up_w_right, S.left_w_right, S.right_w_right, S.turned_w_right, S.size_w_right, S.value_w_right, S.sum_w_right, S.least_w_right, S.most_w_right, S.up_w_turned, S.left_w_turned, S.right_w_turned, S.turned_w_turned, S.size_w_turned, S.value_w_turned, S.sum_w_turned, S.least_w_turned, S.most_w_turned, S.up_w_size, S.left_w_size, S.right_w_size, S.turned_w_size, S.size_w_size, S.value_w_size, S.sum_w_size, S.least_w_size, S.most_w_size, S.up_w_value, S.left_w_value, S.right_w_value, S.turned_w_value, S.size_w_value, S.value_w_value, S.sum_w_value, S.least_w_value, S.most_w_value, S.up_w_sum, S.left_w_sum, S.right_w_sum, S.turned_w_sum, S.size_w_sum, S.value_w_sum, S.sum_w_sum, S.least_w_sum, S.most_w_sum, S.up_w_least, S.left_w_least, S.right_w_least, S.turned_w_least, S.size_w_least, S.value_w_least, S.sum_w_least, S.least_w_least, S.most_w_least, S.up_w_most, S.left_w_most, S.right_w_most, S.turned_w_most, S.size_w_most, S.value_w_most, S.sum_w_most, S.least_w_most, S.most_w_most, upd_same])
    rw [hyy, hleft]
    exact LI.again hJ' (by rw [hj]; exact hlt _ (.inl rfl))
  · refine bif_i (fun h2 => ?_) (fun h2 => ?_) <;> simp only [bne_iff_ne, ne_eq, bne_eq_false_iff_eq, Bool.not_eq_true, beq_iff_eq, beq_eq_false_iff_ne, decide_eq_true_eq, decide_eq_false_iff_not, Bool.not_eq_true', Bool.not_eq_false'] at h2
    · obtain ⟨hzr, hIr⟩ : z ∈ r'.ls ∧ I r'.seq w22 := by
        rcases hd with ⟨_, e, _⟩ | ⟨_, e⟩ | ⟨a, _, b⟩
        · omega
        · omega
        · exact ⟨a, b⟩
      obtain ⟨y', hy', hJ'⟩ := next false r' rfl hzr hIr (hlt _ (.inr rfl))
      have hright : (pushS s6 y).right y = y' := by rw [hN.right]; exact hy'
      repeat (first | with_reducible refine pt_i ?_ | with_reducible refine ldS_F (by first | assumption | exact St.drew (by assumption) | exact St.drew (St.drew (by assumption)) | exact St.drew (St.drew (St.drew (by assumption)))) ?_ | with_reducible refine ixS_F (by omega) (by omega) ?_ | with_reducible refine ld_up (by first | assumption | exact St.drew (by assumption) | exact St.drew (St.drew (by assumption)) | exact St.drew (St.drew (St.drew (by assumption)))) (by omega) ?_ | with_reducible refine ld_left (by first | assumption | exact St.drew (by assumption) | exact St.drew (St.drew (by assumption)) | exact St.drew (St.drew (St.drew (by assumption)))) (by omega) ?_ | with_reducible refine ld_right (by first | assumption | exact St.drew (by assumption) | exact St.drew (St.drew (by assumption)) | exact St.drew (St.drew (St.drew (by assumption)))) (by omega) ?_ | with_reducible refine ld_turned (by first | assumption | exact St.drew (by assumption) | exact St.drew (St.drew (by assumption)) | exact St.drew (St.drew (St.drew (by assumption)))) (by omega) ?_ | with_reducible refine ld_size (by first | assumption | exact St.drew (by assumption) | exact St.drew (St.drew (by assumption)) | exact St.drew (St.drew (St.drew (by assumption)))) (by omega) ?_ | with_reducible refine ld_value (by first | assumption | exact St.drew (by assumption) | exact St.drew (St.drew (by assumption)) | exact St.drew (St.drew (St.drew (by assumption)))) (by omega) ?_ | with_reducible refine ld_sum (by first | assumption | exact St.drew (by assumption) | exact St.drew (St.drew (by assumption)) | exact St.drew (St.drew (St.drew (by assumption)))) (by omega) ?_ | with_reducible refine ld_least (by first | assumption | exact St.drew (by assumption) | exact St.drew (St.drew (by assumption)) | exact St.drew (St.drew (St.drew (by assumption)))) (by omega) ?_ | with_reducible refine ld_most (by first | assumption | exact St.drew (by assumption) | exact St.drew (St.drew (by assumption)) | exact St.drew (St.drew (St.drew (by assumption)))) (by omega) ?_ | (with_reducible refine st_up (by first | assumption | exact St.drew (by assumption) | exact St.drew (St.drew (by assumption)) | exact St.drew (St.drew (St.drew (by assumption)))) (by omega) (fun _ hst => ?_)) | (with_reducible refine st_left (by first | assumption | exact St.drew (by assumption) | exact St.drew (St.drew (by assumption)) | exact St.drew (St.drew (St.drew (by assumption)))) (by omega) (fun _ hst => ?_)) | (with_reducible refine st_right (by first | assumption | exact St.drew (by assumption) | exact St.drew (St.drew (by assumption)) | exact St.drew (St.drew (St.drew (by assumption)))) (by omega) (fun _ hst => ?_)) | (with_reducible refine st_turned (by first | assumption | exact St.drew (by assumption) | exact St.drew (St.drew (by assumption)) | exact St.drew (St.drew (St.drew (by assumption)))) (by omega) (fun _ hst => ?_)) | (with_reducible refine st_size (by first | assumption | exact St.drew (by assumption) | exact St.drew (St.drew (by assumption)) | exact St.drew (St.drew (St.drew (by assumption)))) (by omega) (fun _ hst => ?_)) | (with_reducible refine st_value (by first | assumption | exact St.drew (by assumption) | exact St.drew (St.drew (by assumption)) | exact St.drew (St.drew (St.drew (by assumption)))) (by omega) (fun _ hst => ?_)) | (with_reducible refine st_sum (by first | assumption | exact St.drew (by assumption) | exact St.drew (St.drew (by assumption)) | exact St.drew (St.drew (St.drew (by assumption)))) (by omega) (fun _ hst => ?_)) | (with_reducible refine st_least (by first | assumption | exact St.drew (by assumption) | exact St.drew (St.drew (by assumption)) | exact St.drew (St.drew (St.drew (by assumption)))) (by omega) (fun _ hst => ?_)) | (with_reducible refine st_most (by first | assumption | exact St.drew (by assumption) | exact St.drew (St.drew (by assumption)) | exact St.drew (St.drew (St.drew (by assumption)))) (by omega) (fun _ hst => ?_)) | simp only [S.up_w_up, S.left_w_up, S.right_w_up, S.turned_w_up, S.size_w_up, S.value_w_up, S.sum_w_up, S.least_w_up, S.most_w_up, S.up_w_left, S.left_w_left, S.right_w_left, S.turned_w_left, S.size_w_left, S.value_w_left, S.sum_w_left, S.least_w_left, S.most_w_left, S.up_w_right, S.left_w_right, S.right_w_right, S.turned_w_right, S.size_w_right, S.value_w_right, S.sum_w_right, S.least_w_right, S.most_w_right, S.up_w_turned, S.left_w_turned, S.right_w_turned, S.turned_w_turned, S.size_w_turned, S.value_w_turned, S.sum_w_turned, S.least_w_turned, S.most_w_turned, S.up_w_size, S.left_w_size, S.right_w_size, S.turned_w_size, S.size_w_size, S.value_w_size, S.sum_w_size, S.least_w_size, S.most_w_size, S.up_w_value, S.left_w_value, S.right_w_value, S.turned_w_value, S.size_w_value, S.value_w_value, S.sum_w_value, S.least_w_value, S.most_w_value, S.up_w_sum, S.left_w_sum, S.right_w_sum, S.turned_w_sum, S.size_w_sum, S.value_w_sum, S.sum_w_sum, S.least_w_sum, S.most_w_sum, S.up_w_least, S.left_w_least, S.right_w_least, S.turned_w_least, S.size_w_least, S.value_w_least, S.sum_w_least, S.least_w_least, S.most_w_least, S.up_w_most, S.left_w_most, S.right_w_most, S.turned_w_most, S.size_w_most, S.value_w_most, S.sum_w_most, S.least_w_most, S.most_w_most, upd_same])
      rw [hyy, hright]
      exact LI.again hJ' (by rw [hj]; exact hlt _ (.inr rfl))
    · have hzy : z = y := by
        rcases hd with ⟨_, e, _⟩ | ⟨e, _⟩ | ⟨_, e, _⟩
        · omega
        · exact e
        · omega
      subst hzy
      refine (c_liftF hi22 k7 (by rw [(plug_ls c _).mem_iff]; simp [T.ls])).mono ?_
      rintro e w32 ⟨rfl, s32, l32, r32, hst32, k32, hs32⟩
      refine ⟨rfl, ?_, s32, _, hst32.i, hc22'.trans (hst32.c.mono (fun _ _ h => .inl h)), k32, hs32.trans hs7⟩
      have := k6.small
      rw [wrap64_in (by omega) (by omega)]
end Seq
end Go.Proofs.YtledchlbmilneaaDoor
