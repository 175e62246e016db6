/-
The forest of layer 4 as a list of trees; the inner calls over it.
Conditions: those that each theorem states.
-/
import Derived.Test.YtledchlbmilneaaDoorSeqL
namespace Go.Proofs.YtledchlbmilneaaDoor
open Go
set_option linter.unusedVariables false
set_option linter.unusedSimpArgs false

/-- An error by its number; 0: none. -/
def errV (c : Int) : Value := if c = 0 then .nilIface else .iface T_api_Errno (.int .i64 c)
theorem errV_isI (c : Int) : isI (errV c) := by unfold errV isI; split; exact .inl rfl; exact .inr ⟨_, _, rfl⟩
theorem errV_nil (c : Int) : nilI (errV c) = decide (c = 0) := by unfold errV; split <;> simp_all [nilI]
theorem errV_0 : errV 0 = .nilIface := rfl
theorem errV_ne {c : Int} (h : c ≠ 0) : errV c = .iface T_api_Errno (.int .i64 c) := by simp [errV, h]
theorem wrap32_in {x : Int} (h0 : -2147483648 ≤ x) (h1 : x ≤ 2147483647) : IntKind.i32.wrap x = x := by rw [Seq.w32_eq]; omega
theorem wrap64_in {x : Int} (h0 : -9223372036854775808 ≤ x) (h1 : x ≤ 9223372036854775807) : IntKind.i64.wrap x = x := by rw [IntKind.wrap_i64]; omega

namespace Seq
structure Fo (n : Nat) (s : S) (v : Nat → Int) (ts : List T) : Prop where
  vr : VR v
  rep : ∀ t ∈ ts, Rep s v (-1) t ∧ t ≠ .nil
  perm : (ts.flatMap T.ls).Perm (List.range n)
  small : n ≤ 8388608
section
variable {n : Nat} {s s' : S} {v : Nat → Int} {t t' : T} {ts ts' : List T} {x : Nat}
theorem Fo.reorder (h : Fo n s v ts) (p : ts.Perm ts') : Fo n s v ts' :=
  ⟨h.vr, fun t ht => h.rep t (p.mem_iff.2 ht), (p.symm.flatMap_right _).trans h.perm, h.small⟩
theorem Fo.split (h : Fo n s v ts) (hx : x < n) : ∃ t ts', ts.Perm (t :: ts') ∧ x ∈ t.ls := by
  have : x ∈ ts.flatMap T.ls := h.perm.mem_iff.2 (List.mem_range.2 hx)
  obtain ⟨t, ht, hxt⟩ := List.mem_flatMap.1 this
  obtain ⟨a, c, rfl⟩ := List.append_of_mem ht
  exact ⟨t, a ++ c, List.perm_middle, hxt⟩
theorem Fo.nodup (h : Fo n s v ts) : (ts.flatMap T.ls).Nodup := h.perm.nodup_iff.2 List.nodup_range
theorem Fo.lt (h : Fo n s v ts) (ht : t ∈ ts) (hx : x ∈ t.ls) : x < n := List.mem_range.1 (h.perm.mem_iff.1 (List.mem_flatMap.2 ⟨t, ht, hx⟩))
theorem Fo.wf (h : Fo n s v ts) : Wf n s := by
  intro i hi
  have : i ∈ ts.flatMap T.ls := h.perm.mem_iff.2 (List.mem_range.2 hi)
  obtain ⟨t, ht, hit⟩ := List.mem_flatMap.1 this
  exact (h.rep t ht).1.links (by omega) (by omega) (fun y hy => h.lt ht hy) i hit
theorem Fo.tr (h : Fo n s v (t :: ts)) : Tr n s v t := by
  have hn := h.nodup
  rw [List.flatMap_cons, List.nodup_append] at hn
  exact ⟨h.vr, (h.rep t (by simp)).1, hn.1, fun y hy => h.lt (by simp) hy, h.wf, h.small⟩
theorem Fo.apart (h : Fo n s v (t :: ts)) (ht : t' ∈ ts) (hx : x ∈ t'.ls) : x ∉ t.ls := by
  have hn := h.nodup
  rw [List.flatMap_cons, List.nodup_append] at hn
  exact fun hxt => hn.2.2 x hxt x (List.mem_flatMap.2 ⟨t', ht, hx⟩) rfl
theorem Fo.gd (h : Fo n s v (t :: ts)) (g : Gd s v t s' t') : Fo n s' v (t' :: ts) := by
  refine ⟨h.vr, ?_, ?_, h.small⟩
  · intro u hu
    rcases List.mem_cons.1 hu with rfl | hu
    · refine ⟨g.rep, fun e => ?_⟩
      have h1 := (h.rep t (by simp)).2
      have h2 := g.perm.length_eq
      rw [e] at h2
      cases t with
      | nil => exact h1 rfl
      | node => simp [T.ls] at h2
    · have h1 := h.rep u (by simp [hu])
      exact ⟨h1.1.congr fun y hy => g.other y (h.apart hu hy), h1.2⟩
  · rw [List.flatMap_cons]
    refine (g.perm.symm.append_right _).trans ?_
    have := h.perm
    rwa [List.flatMap_cons] at this
theorem Fo.here (h : Fo n s v ts) (hx : x < n) : s.value x = v x := by
  have : x ∈ ts.flatMap T.ls := h.perm.mem_iff.2 (List.mem_range.2 hx)
  obtain ⟨t, ht, hit⟩ := List.mem_flatMap.1 this
  have hr := (h.rep t ht).1
  clear ht this
  have key : ∀ (t : T) (p : Int), Rep s v p t → x ∈ t.ls → s.value x = v x := by
    intro t
    induction t with
    | nil => intro p _ h; cases h
    | node l y b r hl hr =>
      intro p h hx
      simp only [T.ls, List.mem_append, List.mem_cons] at hx
      rcases hx with hx | rfl | hx
      · exact hl _ h.2.1 hx
      · exact h.1.value
      · exact hr _ h.2.2 hx
  exact key t _ hr hit
theorem seq_nil {t : T} (h : t.seq = []) : t = .nil := by
  have := t.seq_perm.length_eq
  rw [h] at this
  cases t with
  | nil => rfl
  | node => simp [T.ls] at this
theorem mem_seq {t : T} : x ∈ t.seq ↔ x ∈ t.ls := t.seq_perm.mem_iff

theorem c_liftF {w : World} {F L : Nat} (h : IsF w.heap F L n s) (k : Fo n s v (t :: ts)) (hx : x ∈ t.ls) :
    Calls Pg fn_seq_Forest_lift #[.pointer (some ⟨F, 0, none⟩), .int .i32 x] w fun e w' => e = .returned (.tuple #[]) ∧ ∃ s' l r, St w w' F L n s' ∧ Fo n s' v (.node l x false r :: ts) ∧ (T.node l x false r).seq = t.seq :=
  (c_lift h k.tr hx).mono fun e w' ⟨he, s', l, r, hst, hg⟩ => ⟨he, s', l, r, hst, k.gd hg, hg.seq⟩

/-- All frames lie on one side. -/
def Side (d : Bool) (c : List Fr) : Prop := ∀ f ∈ c, f.d = d ∧ f.b = false
theorem side_first (c : List Fr) (h : Side true c) : ∀ (u : T) (y : Nat) (q : List Nat), u.seq = y :: q → ∃ q', (plug c u).seq = y :: q' := by
  induction c with
  | nil => intro u y q hu; exact ⟨q, hu⟩
  | cons f c ih =>
    intro u y q hu
    have hf := h f (by simp)
    refine ih (fun f hf => h f (by simp [hf])) (f.fill u) y (q ++ f.p :: f.sib.seq) ?_
    unfold Fr.fill
    rw [hf.1]
    simp [T.seq, hf.2, hu]
theorem side_last (c : List Fr) (h : Side false c) : ∀ (u : T) (y : Nat) (q : List Nat), u.seq = q ++ [y] → ∃ q', (plug c u).seq = q' ++ [y] := by
  induction c with
  | nil => intro u y q hu; exact ⟨q, hu⟩
  | cons f c ih =>
    intro u y q hu
    have hf := h f (by simp)
    refine ih (fun f hf => h f (by simp [hf])) (f.fill u) y (f.sib.seq ++ f.p :: q) ?_
    unfold Fr.fill
    rw [hf.1]
    simp [T.seq, hf.2, hu]

theorem c_end {w : World} {F L : Nat} {first : Bool} (h : IsF w.heap F L n s) (k : Fo n s v (t :: ts)) (hx : x ∈ t.ls) :
    Calls Pg fn_seq_Forest_end #[.pointer (some ⟨F, 0, none⟩), .int .i32 x, .bool first] w fun e w' => ∃ y : Nat, e = .returned (.int .i32 y) ∧ ∃ s' l r, St w w' F L n s' ∧ Fo n s' v (.node l y false r :: ts) ∧
      (T.node l y false r).seq = t.seq ∧ (if first then l = .nil else r = .nil) := by
  have hxn := k.lt (by simp) hx
  refine (calls_seq_Forest_end _ _ _ _ (fun v' w' => ∃ y : Nat, v' = .int .i32 y ∧ ∃ s' l r, St w w' F L n s' ∧ Fo n s' v (.node l y false r :: ts) ∧
      (T.node l y false r).seq = t.seq ∧ (if first then l = .nil else r = .nil)) ?_).mono (by rintro e w' ⟨v, rfl, y, rfl, k⟩; exact ⟨y, rfl, k⟩)
  unfold sh_seq_Forest_end
  refine (c_liftF h k hx).mono ?_
  rintro e w3 ⟨rfl, s3, l3, r3, hst3, k3, hseq3⟩
  refine ⟨rfl, ?_⟩
  let J : Nat → List Value → World → Prop := fun j vs w' => ∃ y : Nat, vs = [.int .i32 y] ∧ ∃ s' c l b r, Side first c ∧ j = (T.node l y b r).ls.length ∧ St w w' F L n s' ∧ Fo n s' v (plug c (.node l y b r) :: ts) ∧ (plug c (.node l y b r)).seq = t.seq
  refine ⟨LI J, LM J, ⟨_, x, rfl, s3, [], l3, false, r3, (fun f hf => by cases hf), rfl, hst3, k3, hseq3⟩, ?_⟩
  intro _ y w8 hI
  obtain ⟨y, hvs, s4, c, l, b, r, hside, hj, hst8, k8, hseq8⟩ := hI.at
  simp only [List.cons.injEq, Value.int.injEq, and_true, true_and] at hvs
  subst hvs
  have hyn : y < n := k8.tr.bd y (by rw [(plug_ls c _).mem_iff]; simp [T.ls])
  have hyy : (y : Int).toNat = y := by omega
  obtain ⟨_, ⟨a1, a2⟩, a3, a4⟩ := k8.wf y hyn
  refine (c_push hst8.i (by omega) (by omega) (by rw [hyy]; exact a1) (by rw [hyy]; exact a2) (by rw [hyy]; exact a3) (by rw [hyy]; exact a4)).mono ?_
  rintro e w9 ⟨rfl, hst9'⟩
  refine ⟨rfl, ?_⟩
  have hst9 := hst8.trans hst9'
  have hg := gd_push k8.tr
  have k9 := k8.gd hg
  have hseq9 := hg.seq.trans hseq8
  obtain ⟨l', r', hsh⟩ := pushT_shape l y b r
  have hperm := pushT_ls l y b r
  rw [hsh] at k9 hseq9 hperm
  obtain ⟨⟨hN, hRl, hRr⟩, _⟩ := (rep_plug c _).1 k9.tr.rep
  have hll : (pushS s4 y).left y = l'.rt := hN.left
  have hrr : (pushS s4 y).right y = r'.rt := hN.right
  have hlen := hperm.length_eq
  repeat (first | with_reducible refine pt_i ?_ | with_reducible refine ldS_F (by first | assumption | exact St.drew (by assumption) | exact St.drew (St.drew (by assumption)) | exact St.drew (St.drew (St.drew (by assumption)))) ?_ | with_reducible refine ixS_F (by omega) (by omega) ?_ | with_reducible refine ld_up (by first | assumption | exact St.drew (by assumption) | exact St.drew (St.drew (by assumption)) | exact St.drew (St.drew (St.drew (by assumption)))) (by omega) ?_ | with_reducible refine ld_left (by first | assumption | exact St.drew (by assumption) | exact St.drew (St.drew (by assumption)) | exact St.drew (St.drew (St.drew (by assumption)))) (by omega) ?_ | with_reducible refine ld_right (by first | assumption | exact St.drew (by assumption) | exact St.drew (St.drew (by assumption)) | exact St.drew (St.drew (St.drew (by assumption)))) (by omega) ?_ | with_reducible refine ld_turned (by first | assumption | exact St.drew (by assumption) | exact St.drew (St.drew (by assumption)) | exact St.drew (St.drew (St.drew (by assumption)))) (by omega) ?_ | with_reducible refine ld_size (by first | assumption | exact St.drew (by assumption) | exact St.drew (St.drew (by assumption)) | exact St.drew (St.drew (St.drew (by assumption)))) (by omega) ?_ | with_reducible refine ld_value (by first | assumption | exact St.drew (by assumption) | exact St.drew (St.drew (by assumption)) | exact St.drew (St.drew (St.drew (by assumption)))) (by omega) ?_ | with_reducible refine ld_sum (by first | assumption | exact St.drew (by assumption) | exact St.drew (St.drew (by assumption)) | exact St.drew (St.drew (St.drew (by assumption)))) (by omega) ?_ | with_reducible refine ld_least (by first | assumption | exact St.drew (by assumption) | exact St.drew (St.drew (by assumption)) | exact St.drew (St.drew (St.drew (by assumption)))) (by omega) ?_ | with_reducible refine ld_most (by first | assumption | exact St.drew (by assumption) | exact St.drew (St.drew (by assumption)) | exact St.drew (St.drew (St.drew (by assumption)))) (by omega) ?_ | (with_reducible refine st_up (by first | assumption | exact St.drew (by assumption) | exact St.drew (St.drew (by assumption)) | exact St.drew (St.drew (St.drew (by assumption)))) (by omega) (fun _ hst => ?_)) | (with_reducible refine st_left (by first | assumption | exact St.drew (by assumption) | exact St.drew (St.drew (by assumption)) | exact St.drew (St.drew (St.drew (by assumption)))) (by omega) (fun _ hst => ?_)) | (with_reducible refine st_right (by first | assumption | exact St.drew (by assumption) | exact St.drew (St.drew (by assumption)) | exact St.drew (St.drew (St.drew (by assumption)))) (by omega) (fun _ hst => ?_)) | (with_reducible refine st_turned (by first | assumption | exact St.drew (by assumption) | exact St.drew (St.drew (by assumption)) | exact St.drew (St.drew (St.drew (by assumption)))) (by omega) (fun _ hst => ?_)) | (with_reducible refine st_size (by first | assumption | exact St.drew (by assumption) | exact St.drew (St.drew (by assumption)) | exact St.drew (St.drew (St.drew (by assumption)))) (by omega) (fun _ hst => ?_)) | (with_reducible refine st_value (by first | assumption | exact St.drew (by assumption) | exact St.drew (St.drew (by assumption)) | exact St.drew (St.drew (St.drew (by assumption)))) (by omega) (fun _ hst => ?_)) | (with_reducible refine st_sum (by first | assumption | exact St.drew (by assumption) | exact St.drew (St.drew (by assumption)) | exact St.drew (St.drew (St.drew (by assumption)))) (by omega) (fun _ hst => ?_)) | (with_reducible refine st_least (by first | assumption | exact St.drew (by assumption) | exact St.drew (St.drew (by assumption)) | exact St.drew (St.drew (St.drew (by assumption)))) (by omega) (fun _ hst => ?_)) | (with_reducible refine st_most (by first | assumption | exact St.drew (by assumption) | exact St.drew (St.drew (by assumption)) | exact St.drew (St.drew (St.drew (by assumption)))) (by omega) (fun _ hst => ?_)) | simp only [S.up_w_up, S.left_w_up, S.right_w_up, S.turned_w_up, S.size_w_up, S.value_w_up, S.sum_w_up, S.least_w_up, S.most_w_up, S.up_w_left, S.left_w_left, S.right_w_left, S.turned_w_left, S.size_w_left, S.value_w_left, S.sum_w_left, S.least_w_left, S.most_w_left, S.up_w_right, S.left_w_right, S.right_w_right, S.turned_w_right, S.size_w_right, S.value_w_right, S.sum_w_right, S.least_w_right, S.most_w_right, S.up_w_turned, S.left_w_turned, S.right_w_turned, S.turned_w_turned, S.size_w_turned, S.value_w_turned, S.sum_w_turned, S.least_w_turned, S.most_w_turned, S.up_w_size, S.left_w_size, S.right_w_size, S.turned_w_size, S.size_w_size, S.value_w_size, S.sum_w_size, S.least_w_size, S.most_w_size, S.up_w_value, S.left_w_value, S.right_w_value, S.turned_w_value, S.size_w_value, S.value_w_value, S.sum_w_value, S.least_w_value, S.most_w_value, S.up_w_sum, S.left_w_sum, S.right_w_sum, S.turned_w_sum, S.size_w_sum, S.value_w_sum, S.sum_w_sum, S.least_w_sum, S.most_w_sum, S.up_w_least, S.left_w_least, S.right_w_least, S.turned_w_least, S.size_w_least, S.value_w_least, S.sum_w_least, S.least_w_least, S.most_w_least, S.up_w_most, S.left_w_most, S.right_w_most, S.turned_w_most, S.size_w_most, S.value_w_most, S.sum_w_most, S.least_w_most, S.most_w_most, upd_same])
  rw [hyy]
  cases first
  · refine bif_i (fun h => by cases h) (fun _ => ?_)
    rw [hrr]
    refine bif_i (fun hc => ?_) (fun hc => ?_) <;> simp only [bne_iff_ne, ne_eq, bne_eq_false_iff_eq, Bool.not_eq_true, beq_iff_eq, beq_eq_false_iff_ne, decide_eq_true_eq, decide_eq_false_iff_not, Bool.not_eq_true', Bool.not_eq_false'] at hc
    · have hr0 : r' = .nil := by
        cases r' with
        | nil => rfl
        | node => simp [T.rt] at hc
      subst hr0
      refine (c_liftF hst9.i k9 (by rw [(plug_ls c _).mem_iff]; simp [T.ls])).mono ?_
      rintro e w21 ⟨rfl, s5, l5, r5, hst21, k21, hseq21⟩
      refine ⟨rfl, y, rfl, s5, l5, r5, hst9.trans hst21, k21, hseq21.trans hseq9, ?_⟩
      obtain ⟨q', hq'⟩ := side_last c hside (.node l' y false .nil) y l'.seq (by simp [T.seq])
      rw [hq'] at hseq21
      have hnd : (T.node l5 y false r5).seq.Nodup := (T.seq_perm _).nodup_iff.2 k21.tr.nd
      simp only [Bool.false_eq_true, if_false]
      apply seq_nil
      simp only [T.seq, Bool.false_eq_true, if_false] at hseq21 hnd
      rcases List.eq_nil_or_concat r5.seq with h0 | ⟨a, z, h0⟩
      · exact h0
      · rw [h0, List.concat_eq_append] at hseq21 hnd
        have e1 : (l5.seq ++ y :: a) ++ [z] = q' ++ [y] := by simpa using hseq21
        have e2 := List.append_inj_right' e1 rfl
        injection e2 with e2
        subst e2
        rw [List.nodup_append, List.nodup_cons] at hnd
        exact absurd (by simp) hnd.2.1.1
    · obtain ⟨l6, z, b6, r6, rfl⟩ : ∃ l6 z b6 r6, r' = .node l6 z b6 r6 := by
        cases r' with
        | nil => simp [T.rt] at hc
        | node a b c d => exact ⟨a, b, c, d, rfl⟩
      refine LI.again (k := (T.node l6 z b6 r6).ls.length) ⟨z, rfl, _, ⟨false, y, false, l'⟩ :: c, l6, b6, r6, ?_, rfl, hst9, k9, hseq9⟩ ?_
      · intro f hf
        rcases List.mem_cons.1 hf with rfl | hf
        · exact ⟨rfl, rfl⟩
        · exact hside f hf
      · rw [hj, hlen]; simp only [T.ls, List.length_append, List.length_cons]; omega
  · refine bif_i (fun _ => ?_) (fun h => by cases h)
    repeat (first | with_reducible refine pt_i ?_ | with_reducible refine ldS_F (by first | assumption | exact St.drew (by assumption) | exact St.drew (St.drew (by assumption)) | exact St.drew (St.drew (St.drew (by assumption)))) ?_ | with_reducible refine ixS_F (by omega) (by omega) ?_ | with_reducible refine ld_up (by first | assumption | exact St.drew (by assumption) | exact St.drew (St.drew (by assumption)) | exact St.drew (St.drew (St.drew (by assumption)))) (by omega) ?_ | with_reducible refine ld_left (by first | assumption | exact St.drew (by assumption) | exact St.drew (St.drew (by assumption)) | exact St.drew (St.drew (St.drew (by assumption)))) (by omega) ?_ | with_reducible refine ld_right (by first | assumption | exact St.drew (by assumption) | exact St.drew (St.drew (by assumption)) | exact St.drew (St.drew (St.drew (by assumption)))) (by omega) ?_ | with_reducible refine ld_turned (by first | assumption | exact St.drew (by assumption) | exact St.drew (St.drew (by assumption)) | exact St.drew (St.drew (St.drew (by assumption)))) (by omega) ?_ | with_reducible refine ld_size (by first | assumption | exact St.drew (by assumption) | exact St.drew (St.drew (by assumption)) | exact St.drew (St.drew (St.drew (by assumption)))) (by omega) ?_ | with_reducible refine ld_value (by first | assumption | exact St.drew (by assumption) | exact St.drew (St.drew (by assumption)) | exact St.drew (St.drew (St.drew (by assumption)))) (by omega) ?_ | with_reducible refine ld_sum (by first | assumption | exact St.drew (by assumption) | exact St.drew (St.drew (by assumption)) | exact St.drew (St.drew (St.drew (by assumption)))) (by omega) ?_ | with_reducible refine ld_least (by first | assumption | exact St.drew (by assumption) | exact St.drew (St.drew (by assumption)) | exact St.drew (St.drew (St.drew (by assumption)))) (by omega) ?_ | with_reducible refine ld_most (by first | assumption | exact St.drew (by assumption) | exact St.drew (St.drew (by assumption)) | exact St.drew (St.drew (St.drew (by assumption)))) (by omega) ?_ | (with_reducible refine st_up (by first | assumption | exact St.drew (by assumption) | exact St.drew (St.drew (by assumption)) | exact St.drew (St.drew (St.drew (by assumption)))) (by omega) (fun _ hst => ?_)) | (with_reducible refine st_left (by first | assumption | exact St.drew (by assumption) | exact St.drew (St.drew (by assumption)) | exact St.drew (St.drew (St.drew (by assumption)))) (by omega) (fun _ hst => ?_)) | (with_reducible refine st_right (by first | assumption | exact St.drew (by assumption) | exact St.drew (St.drew (by assumption)) | exact St.drew (St.drew (St.drew (by assumption)))) (by omega) (fun _ hst => ?_)) | (with_reducible refine st_turned (by first | assumption | exact St.drew (by assumption) | exact St.drew (St.drew (by assumption)) | exact St.drew (St.drew (St.drew (by assumption)))) (by omega) (fun _ hst => ?_)) | (with_reducible refine st_size (by first | assumption | exact St.drew (by assumption) | exact St.drew (St.drew (by assumption)) | exact St.drew (St.drew (St.drew (by assumption)))) (by omega) (fun _ hst => ?_)) | (with_reducible refine st_value (by first | assumption | exact St.drew (by assumption) | exact St.drew (St.drew (by assumption)) | exact St.drew (St.drew (St.drew (by assumption)))) (by omega) (fun _ hst => ?_)) | (with_reducible refine st_sum (by first | assumption | exact St.drew (by assumption) | exact St.drew (St.drew (by assumption)) | exact St.drew (St.drew (St.drew (by assumption)))) (by omega) (fun _ hst => ?_)) | (with_reducible refine st_least (by first | assumption | exact St.drew (by assumption) | exact St.drew (St.drew (by assumption)) | exact St.drew (St.drew (St.drew (by assumption)))) (by omega) (fun _ hst => ?_)) | (with_reducible refine st_most (by first | assumption | exact St.drew (by assumption) | exact St.drew (St.drew (by assumption)) | exact St.drew (St.drew (St.drew (by assumption)))) (by omega) (fun _ hst => ?_)) | simp only [S.up_w_up, S.left_w_up, S.right_w_up, S.turned_w_up, S.size_w_up, S.value_w_up, S.sum_w_up, S.least_w_up, S.most_w_up, S.up_w_left, S.left_w_left, S.right_w_left, S.turned_w_left, S.size_w_left, S.value_w_left, S.sum_w_left, S.least_w_left, S.most_w_left, S.up_w_right, S.left_w_right, S.right_w_right, S.turned_w_right, S.size_w_right, S.value_w_right, S.sum_w_right, S.least_w_right, S.most_w_right, S.up_w_turned, S.left_w_turned, S.right_w_turned, S.turned_w_turned, S.size_w_turned, S.value_w_turned, S.sum_w_turned, S.least_w_turned, S.most_w_turned, S.up_w_size, S.left_w_size, S.right_w_size, S.turned_w_size, S.size_w_size, S.value_w_size, S.sum_w_size, S.least_w_size, S.most_w_size, S.up_w_value, S.left_w_value, S.right_w_value, S.turned_w_value, S.size_w_value, S.value_w_value, S.sum_w_value, S.least_w_value, S.most_w_value, S.up_w_sum, S.left_w_sum, S.right_w_sum, S.turned_w_sum, S.size_w_sum, S.value_w_sum, S.sum_w_sum, S.least_w_sum, S.most_w_sum, S.up_w_least, S.left_w_least, S.right_w_least, S.turned_w_least, S.size_w_least, S.value_w_least, S.sum_w_least, S.least_w_least, S.most_w_least, S.up_w_most, S.left_w_most, S.right_w_most, S.turned_w_most, S.size_w_most, S.value_w_most, S.sum_w_most, S.least_w_most, S.most_w_most, upd_same])
    rw [hyy]
    have hll' : (pushS s4 y).left y = l'.rt := hll
    rw [hll']
    refine bif_i (fun hc => ?_) (fun hc => ?_) <;> simp only [bne_iff_ne, ne_eq, bne_eq_false_iff_eq, Bool.not_eq_true, beq_iff_eq, beq_eq_false_iff_ne, decide_eq_true_eq, decide_eq_false_iff_not, Bool.not_eq_true', Bool.not_eq_false'] at hc
    · have hl0 : l' = .nil := by
        cases l' with
        | nil => rfl
        | node => simp [T.rt] at hc
      subst hl0
      refine (c_liftF hst9.i k9 (by rw [(plug_ls c _).mem_iff]; simp [T.ls])).mono ?_
      rintro e w21 ⟨rfl, s5, l5, r5, hst21, k21, hseq21⟩
      refine ⟨rfl, y, rfl, s5, l5, r5, hst9.trans hst21, k21, hseq21.trans hseq9, ?_⟩
      obtain ⟨q', hq'⟩ := side_first c hside (.node .nil y false r') y r'.seq (by simp [T.seq])
      rw [hq'] at hseq21
      have hnd : (T.node l5 y false r5).seq.Nodup := (T.seq_perm _).nodup_iff.2 k21.tr.nd
      simp only [if_true]
      apply seq_nil
      simp only [T.seq, Bool.false_eq_true, if_false] at hseq21 hnd
      cases h0 : l5.seq with
      | nil => rfl
      | cons z a =>
        rw [h0] at hseq21 hnd
        injection hseq21 with e1 e2
        subst e1
        simp at hnd
    · obtain ⟨l6, z, b6, r6, rfl⟩ : ∃ l6 z b6 r6, l' = .node l6 z b6 r6 := by
        cases l' with
        | nil => simp [T.rt] at hc
        | node a b c d => exact ⟨a, b, c, d, rfl⟩
      refine LI.again (k := (T.node l6 z b6 r6).ls.length) ⟨z, rfl, _, ⟨true, y, false, r'⟩ :: c, l6, b6, r6, ?_, rfl, hst9, k9, hseq9⟩ ?_
      · intro f hf
        rcases List.mem_cons.1 hf with rfl | hf
        · exact ⟨rfl, rfl⟩
        · exact hside f hf
      · rw [hj, hlen]; simp only [T.ls, List.length_append, List.length_cons]; omega
end
end Seq
end Go.Proofs.YtledchlbmilneaaDoor
