/-
The forest of layer 4: 'lift' walked.
Conditions: a tree that stands in the records.
-/
import Derived.Test.YtledchlbmilneaaDoorSeqF
namespace Go.Proofs.YtledchlbmilneaaDoor
open Go
set_option linter.unusedVariables false
set_option linter.unusedSimpArgs false
namespace Seq
theorem ET_int32 : ET Pg T_sl_int32 T_int32 1 4 := ET.of (by kernel_rfl) (by kernel_rfl)
theorem ET_int : ET Pg T_sl_int T_int 1 8 := ET.of (by kernel_rfl) (by kernel_rfl)

/-- A context all of whose frames are pushed. -/
def Clean (c : List Fr) : Prop := ∀ f ∈ c, f.b = false

theorem rotT_shape (f : Fr) (l r : T) (x : Nat) : ∃ l' r', rotT f l x r = .node l' x false r' := by
  unfold rotT; cases f.d
  · exact ⟨_, _, rfl⟩
  · exact ⟨_, _, rfl⟩
/-- The links at a node below a frame. -/
theorem fr_links {s : S} {v : Nat → Int} {f : Fr} {c : List Fr} {l r : T} {x : Nat} (h : Rep s v (-1) (plug (f :: c) (.node l x false r))) (hn : (plug (f :: c) (.node l x false r)).ls.Nodup) :
    s.up x = f.p ∧ s.up f.p = par (-1) c ∧ (s.left f.p == (x : Int)) = f.d := by
  obtain ⟨⟨hX, _, _⟩, hNF, hsib, hC⟩ := (rep_plug (f :: c) _).1 h
  have hnd := (plug_ls (f :: c) (.node l x false r)).nodup_iff.1 hn
  simp only [T.ls, cls, List.append_assoc, List.cons_append, List.nodup_append, List.nodup_cons, List.mem_append, List.mem_cons, not_or] at hnd
  refine ⟨hX.up, ?_, ?_⟩
  · unfold NdF at hNF; cases hd : f.d <;> simp only [hd, if_true, Bool.false_eq_true, if_false] at hNF <;> exact hNF.up
  · unfold NdF at hNF
    cases hd : f.d <;> simp only [hd, if_true, Bool.false_eq_true, if_false] at hNF
    · rw [hNF.left]
      have : f.sib.rt ≠ (x : Int) := fun e => hnd.2.1.1.2.2.1 (rt_mem e.symm)
      simpa using this
    · rw [hNF.left]; simp [T.rt]
theorem fr_links2 {s : S} {v : Nat → Int} {f g : Fr} {c : List Fr} {l r : T} {x : Nat} (h : Rep s v (-1) (plug (f :: g :: c) (.node l x false r))) (hn : (plug (f :: g :: c) (.node l x false r)).ls.Nodup) (hb : f.b = false) :
    (s.left g.p == (f.p : Int)) = g.d := by
  have e : plug (f :: g :: c) (.node l x false r) = plug (g :: c) (f.fill (.node l x false r)) := rfl
  rw [e] at h hn
  unfold Fr.fill at h hn
  rw [hb] at h hn
  cases hd : f.d <;> simp only [hd, if_true, Bool.false_eq_true, if_false] at h hn <;> exact (fr_links h hn).2.2
/-- The parent turned, where both hang on the same side. -/
theorem rot_same {n : Nat} {s : S} {v : Nat → Int} {f g : Fr} {c : List Fr} {l r : T} {x : Nat} (k : Tr n s v (plug (f :: g :: c) (.node l x false r))) (hf : f.b = false) (hg : g.b = false) (hd : g.d = f.d) :
    ∃ f' : Fr, f'.b = false ∧ Gd s v (plug (f :: g :: c) (.node l x false r)) (rotS s f.p) (plug (f' :: c) (.node l x false r)) := by
  have e : plug (f :: g :: c) (.node l x false r) = plug (g :: c) (f.fill (.node l x false r)) := rfl
  rw [e] at k ⊢
  unfold Fr.fill at k ⊢
  rw [hf] at k ⊢
  cases hfd : f.d <;> simp only [hfd, if_true, Bool.false_eq_true, if_false] at k ⊢
  · refine ⟨⟨false, f.p, false, .node g.sib g.p false f.sib⟩, rfl, ?_⟩
    have := gd_rot k hg
    unfold rotT at this
    rw [hd, hfd] at this
    exact this
  · refine ⟨⟨true, f.p, false, .node f.sib g.p false g.sib⟩, rfl, ?_⟩
    have := gd_rot k hg
    unfold rotT at this
    rw [hd, hfd] at this
    exact this

theorem c_lift {w : World} {F L n : Nat} {s : S} {v : Nat → Int} {t : T} {x : Nat} (h : IsF w.heap F L n s) (k : Tr n s v t) (hx : x ∈ t.ls) :
    Calls Pg fn_seq_Forest_lift #[.pointer (some ⟨F, 0, none⟩), .int .i32 x] w fun e w' => e = .returned (.tuple #[]) ∧ ∃ s' l r, St w w' F L n s' ∧ Gd s v t s' (.node l x false r) := by
  have hst := St.start h
  have hxn := k.bd x hx
  obtain ⟨ρ, hρ⟩ := Pth.ex hx
  have hρl := hρ.len
  have hlen := k.len
  have hρn : ∀ y ∈ ρ, y < n := fun y hy => k.bd y (hρ.sub y hy)
  refine (calls_seq_Forest_lift _ _ _ (fun v' w' => v' = .tuple #[] ∧ ∃ s' l r, St w w' F L n s' ∧ Gd s v t s' (.node l x false r)) ?_).mono (by rintro e w' ⟨v, rfl, rfl, k⟩; exact ⟨rfl, k⟩)
  unfold sh_seq_Forest_lift
  -- the way up
  let J1 : Nat → List Value → World → Prop := fun j vs w' => ∃ ρ1 ρ2 b l c, ∃ y : Int, vs = [.slice b l c, .int .i32 y] ∧ ρ = ρ1 ++ ρ2 ∧ y = abv (-1) ρ1 ∧ j = ρ1.length ∧ l = ρ2.length ∧
    Own w' w.heap.size T_int32 1 b l c (ρ2.reverse.map fun z : Nat => .int .i32 z) ∧ St w w' F L n s
  refine ⟨LI J1, LM J1, ⟨ρ.length, ρ, [], none, 0, 0, x, rfl, by simp, by unfold abv; rw [hρ.last], rfl, rfl, Own.nil, hst⟩, ?_⟩
  intro _ sb sl sc y w6 hI
  have hJ := hI.at
  obtain ⟨ρ1, ρ2, b, l, c, y', hvs, hρ12, hy, hj, hl, hown, hst6⟩ := hJ
  simp only [List.cons.injEq, Value.slice.injEq, Value.int.injEq, and_true, true_and] at hvs
  obtain ⟨⟨rfl, rfl, rfl⟩, rfl⟩ := hvs
  refine bif_i (fun hc => ?_) (fun hc => ?_) <;> simp only [bne_iff_ne, ne_eq, bne_eq_false_iff_eq, Bool.not_eq_true, beq_iff_eq, beq_eq_false_iff_ne, decide_eq_true_eq, decide_eq_false_iff_not, Bool.not_eq_true', Bool.not_eq_false'] at hc
  · obtain ⟨ρ1', z, rfl⟩ : ∃ ρ1' z, ρ1 = ρ1' ++ [z] := by
      rcases List.eq_nil_or_concat ρ1 with rfl | ⟨a, z, rfl⟩
      · exact absurd hy hc
      · exact ⟨a, z, by simp⟩
    rw [abv_snoc] at hy
    subst hy
    have hzn : z < n := hρn z (by rw [hρ12]; simp)
    have hup : s.up z = abv (-1) ρ1' := hρ.up k.rep ρ1' z ρ2 (by rw [hρ12]; simp)
    refine alo_r fun hrow => ?_
    have hlr : ρ2.length ≤ 8388608 := by
      have : ρ.length = ρ1'.length + 1 + ρ2.length := by rw [hρ12]; simp; omega
      omega
    have hsz6 := hst6.c.size
    obtain ⟨b', c', w10, hrun, hown', hchg⟩ := own_append (ty := T_sl_int32) ET_int32 (hown.alloc _) hrow rfl (fun u hu => by simp at hu; subst hu; rfl)
      (by show w.heap.size ≤ (w6.heap.push _).size; simp; omega) (by omega) (by omega)
    refine ⟨b', ρ2.length + 1, c', w10, by subst hl; exact hrun, ?_⟩
    have hst10 := (hst6.alloc _).own hchg
    have hzz : (z : Int).toNat = z := by omega
    repeat (first | with_reducible refine pt_i ?_ | with_reducible refine ldS_F (by first | assumption | exact St.drew (by assumption) | exact St.drew (St.drew (by assumption)) | exact St.drew (St.drew (St.drew (by assumption)))) ?_ | with_reducible refine ixS_F (by omega) (by omega) ?_ | with_reducible refine ld_up (by first | assumption | exact St.drew (by assumption) | exact St.drew (St.drew (by assumption)) | exact St.drew (St.drew (St.drew (by assumption)))) (by omega) ?_ | with_reducible refine ld_left (by first | assumption | exact St.drew (by assumption) | exact St.drew (St.drew (by assumption)) | exact St.drew (St.drew (St.drew (by assumption)))) (by omega) ?_ | with_reducible refine ld_right (by first | assumption | exact St.drew (by assumption) | exact St.drew (St.drew (by assumption)) | exact St.drew (St.drew (St.drew (by assumption)))) (by omega) ?_ | with_reducible refine ld_turned (by first | assumption | exact St.drew (by assumption) | exact St.drew (St.drew (by assumption)) | exact St.drew (St.drew (St.drew (by assumption)))) (by omega) ?_ | with_reducible refine ld_size (by first | assumption | exact St.drew (by assumption) | exact St.drew (St.drew (by assumption)) | exact St.drew (St.drew (St.drew (by assumption)))) (by omega) ?_ | with_reducible refine ld_value (by first | assumption | exact St.drew (by assumption) | exact St.drew (St.drew (by assumption)) | exact St.drew (St.drew (St.drew (by assumption)))) (by omega) ?_ | with_reducible refine ld_sum (by first | assumption | exact St.drew (by assumption) | exact St.drew (St.drew (by assumption)) | exact St.drew (St.drew (St.drew (by assumption)))) (by omega) ?_ | with_reducible refine ld_least (by first | assumption | exact St.drew (by assumption) | exact St.drew (St.drew (by assumption)) | exact St.drew (St.drew (St.drew (by assumption)))) (by omega) ?_ | with_reducible refine ld_most (by first | assumption | exact St.drew (by assumption) | exact St.drew (St.drew (by assumption)) | exact St.drew (St.drew (St.drew (by assumption)))) (by omega) ?_ | (with_reducible refine st_up (by first | assumption | exact St.drew (by assumption) | exact St.drew (St.drew (by assumption)) | exact St.drew (St.drew (St.drew (by assumption)))) (by omega) (fun _ hst => ?_)) | (with_reducible refine st_left (by first | assumption | exact St.drew (by assumption) | exact St.drew (St.drew (by assumption)) | exact St.drew (St.drew (St.drew (by assumption)))) (by omega) (fun _ hst => ?_)) | (with_reducible refine st_right (by first | assumption | exact St.drew (by assumption) | exact St.drew (St.drew (by assumption)) | exact St.drew (St.drew (St.drew (by assumption)))) (by omega) (fun _ hst => ?_)) | (with_reducible refine st_turned (by first | assumption | exact St.drew (by assumption) | exact St.drew (St.drew (by assumption)) | exact St.drew (St.drew (St.drew (by assumption)))) (by omega) (fun _ hst => ?_)) | (with_reducible refine st_size (by first | assumption | exact St.drew (by assumption) | exact St.drew (St.drew (by assumption)) | exact St.drew (St.drew (St.drew (by assumption)))) (by omega) (fun _ hst => ?_)) | (with_reducible refine st_value (by first | assumption | exact St.drew (by assumption) | exact St.drew (St.drew (by assumption)) | exact St.drew (St.drew (St.drew (by assumption)))) (by omega) (fun _ hst => ?_)) | (with_reducible refine st_sum (by first | assumption | exact St.drew (by assumption) | exact St.drew (St.drew (by assumption)) | exact St.drew (St.drew (St.drew (by assumption)))) (by omega) (fun _ hst => ?_)) | (with_reducible refine st_least (by first | assumption | exact St.drew (by assumption) | exact St.drew (St.drew (by assumption)) | exact St.drew (St.drew (St.drew (by assumption)))) (by omega) (fun _ hst => ?_)) | (with_reducible refine st_most (by first | assumption | exact St.drew (by assumption) | exact St.drew (St.drew (by assumption)) | exact St.drew (St.drew (St.drew (by assumption)))) (by omega) (fun _ hst => ?_)) | simp only [S.up_w_up, S.left_w_up, S.right_w_up, S.turned_w_up, S.size_w_up, S.value_w_up, S.sum_w_up, S.least_w_up, S.most_w_up, S.up_w_left, S.left_w_left, S.right_w_left, S.turned_w_left, S.size_w_left, S.value_w_left, S.sum_w_left, S.least_w_left, S.most_w_left, S.up_w_right, S.left_w_right, S.right_w_right, S.turned_w_right, S.size_w_right, S.value_w_right, S.sum_w_right, S.least_w_right, S.most_w_right, S.up_w_turned, S.left_w_turned, S.right_w_turned, S.turned_w_turned, S.size_w_turned, S.value_w_turned, S.sum_w_turned, S.least_w_turned, S.most_w_turned, S.up_w_size, S.left_w_size, S.right_w_size, S.turned_w_size, S.size_w_size, S.value_w_size, S.sum_w_size, S.least_w_size, S.most_w_size, S.up_w_value, S.left_w_value, S.right_w_value, S.turned_w_value, S.size_w_value, S.value_w_value, S.sum_w_value, S.least_w_value, S.most_w_value, S.up_w_sum, S.left_w_sum, S.right_w_sum, S.turned_w_sum, S.size_w_sum, S.value_w_sum, S.sum_w_sum, S.least_w_sum, S.most_w_sum, S.up_w_least, S.left_w_least, S.right_w_least, S.turned_w_least, S.size_w_least, S.value_w_least, S.sum_w_least, S.least_w_least, S.most_w_least, S.up_w_most, S.left_w_most, S.right_w_most, S.turned_w_most, S.size_w_most, S.value_w_most, S.sum_w_most, S.least_w_most, S.most_w_most, upd_same])
    rw [hzz, hup]
    refine LI.again (k := ρ1'.length) ⟨ρ1', z :: ρ2, b', ρ2.length + 1, c', _, rfl, by rw [hρ12]; simp, rfl, rfl, by simp, ?_, hst10⟩ (by rw [hj]; simp)
    subst hl
    simpa using hown'
  · -- what was put off
    obtain rfl : ρ1 = [] := by
      rcases List.eq_nil_or_concat ρ1 with rfl | ⟨a, z, rfl⟩
      · rfl
      · rw [List.concat_eq_append, abv_snoc] at hy; omega
    simp only [List.nil_append] at hρ12
    subst hρ12
    have hLb := hst.lt.2
    let J2 : Nat → List Value → World → Prop := fun j vs w' => ∃ ρa ρb, ∃ i : Int, vs = [.int .i64 i] ∧ ρ = ρa ++ ρb ∧ i = (ρb.length : Int) - 1 ∧ j = ρb.length ∧ ∃ s' c u, Clean c ∧ St w w' F L n s' ∧ Gd s v t s' (plug c u) ∧
      ((ρb = [] ∧ ∃ l r, u = .node l x false r) ∨ Pth u x ρb) ∧ Own w' w.heap.size T_int32 1 sb sl sc (ρ.reverse.map fun z : Nat => .int .i32 z)
    have hw1 : IntKind.i64.wrap ((sl : Int) - 1) = (ρ.length : Int) - 1 := by rw [hl, IntKind.wrap_i64]; omega
    rw [hw1]
    refine ⟨LI J2, LM J2, ⟨ρ.length, [], ρ, _, rfl, rfl, rfl, rfl, s, [], t, (fun f hf => by cases hf), hst6, Gd.refl k.rep, .inr hρ, hown⟩, ?_⟩
    intro _ i w18 hI2
    obtain ⟨ρa, ρb, i', hvs, hab, hi, hj2, s2, c2, u2, hcl, hst18, hgd, hu, hown18⟩ := hI2.at
    simp only [List.cons.injEq, Value.int.injEq, and_true, true_and] at hvs
    subst hvs
    refine bif_i (fun hc2 => ?_) (fun hc2 => ?_) <;> simp only [bne_iff_ne, ne_eq, bne_eq_false_iff_eq, Bool.not_eq_true, beq_iff_eq, beq_eq_false_iff_ne, decide_eq_true_eq, decide_eq_false_iff_not, Bool.not_eq_true', Bool.not_eq_false'] at hc2
    · cases ρb with
      | nil => simp at hi; omega
      | cons y0 ρb =>
        have hPth : Pth u2 x (y0 :: ρb) := hu.resolve_left (fun h => by simp at h)
        obtain ⟨l2, b2, r2, rfl, hnext⟩ := hPth.step
        have hy0 : y0 < n := hρn y0 (by rw [hab]; simp)
        have hwf := hgd.wf k
        obtain ⟨_, ⟨a1, a2⟩, a3, a4⟩ := hwf y0 hy0
        have hlen2 : ρ.length = ρa.length + 1 + ρb.length := by rw [hab]; simp; omega
        obtain ⟨g, cs, rfl, hgb, hgr, hgx, _, _⟩ := hown18.get (by omega)
        have hiN : i = ((ρb.length : Nat) : Int) := by rw [hi]; simp
        subst hiN
        refine ixS_i (by omega) ?_
        refine ldI_r (n := y0) hgr ?_ ?_
        · rw [own_cell hgx (by omega), hab]
          simp
        · have hyy : (y0 : Int).toNat = y0 := by omega
          refine (c_push hst18.i (by omega) (by omega) (by rw [hyy]; exact a1) (by rw [hyy]; exact a2) (by rw [hyy]; exact a3) (by rw [hyy]; exact a4)).mono ?_
          rintro e w21 ⟨rfl, hst21⟩
          refine ⟨rfl, ?_⟩
          have hgd' := hgd.trans (gd_push (hgd.tr k))
          have hown21 := hown18.chg hst21.c (fun g' hg' _ (e : g' = L) => by omega)
          have hw2 : IntKind.i64.wrap ((ρb.length : Int) - 1) = (ρb.length : Int) - 1 := by rw [IntKind.wrap_i64]; omega
          rw [hw2]
          refine LI.again (k := ρb.length) ?_ (by rw [hj2]; simp)
          rcases hnext with ⟨rfl, rfl⟩ | ⟨f, u', hfp, hfb, hfill, hP'⟩
          · obtain ⟨l', r', hsh⟩ := pushT_shape l2 x b2 r2
            rw [hsh] at hgd'
            exact ⟨ρa ++ [x], [], _, rfl, by rw [hab]; simp, rfl, rfl, _, c2, _, hcl, hst18.trans hst21, hgd', .inl ⟨rfl, l', r', rfl⟩, hown21⟩
          · rw [hfill] at hgd'
            exact ⟨ρa ++ [y0], ρb, _, rfl, by rw [hab]; simp, rfl, rfl, _, f :: c2, u', (fun f' hf' => by rcases List.mem_cons.1 hf' with rfl | h; exact hfb; exact hcl _ h), hst18.trans hst21, hgd', .inr hP', hown21⟩
    · -- the turning
      obtain ⟨l2, r2, rfl⟩ : ∃ l r, u2 = .node l x false r := by
        rcases hu with ⟨_, h⟩ | h
        · exact h
        · have := List.length_pos_iff.2 h.ne; omega
      let J3 : Nat → List Value → World → Prop := fun j vs w' => vs = [] ∧ ∃ s' c l r, Clean c ∧ j = c.length ∧ St w w' F L n s' ∧ Gd s v t s' (plug c (.node l x false r))
      refine ⟨LI J3, LM J3, ⟨_, rfl, s2, c2, l2, r2, hcl, rfl, hst18, hgd⟩, ?_⟩
      intro _ w25 hI3
      obtain ⟨_, s3, c3, l3, r3, hcl3, hj3, hst25, hgd3⟩ := hI3.at
      clear hst hst6 hst18
      have hxx : (x : Int).toNat = x := by omega
      have htr := hgd3.tr k
      have hwf3 := hgd3.wf k
      repeat (first | with_reducible refine pt_i ?_ | with_reducible refine ldS_F (by first | assumption | exact St.drew (by assumption) | exact St.drew (St.drew (by assumption)) | exact St.drew (St.drew (St.drew (by assumption)))) ?_ | with_reducible refine ixS_F (by omega) (by omega) ?_ | with_reducible refine ld_up (by first | assumption | exact St.drew (by assumption) | exact St.drew (St.drew (by assumption)) | exact St.drew (St.drew (St.drew (by assumption)))) (by omega) ?_ | with_reducible refine ld_left (by first | assumption | exact St.drew (by assumption) | exact St.drew (St.drew (by assumption)) | exact St.drew (St.drew (St.drew (by assumption)))) (by omega) ?_ | with_reducible refine ld_right (by first | assumption | exact St.drew (by assumption) | exact St.drew (St.drew (by assumption)) | exact St.drew (St.drew (St.drew (by assumption)))) (by omega) ?_ | with_reducible refine ld_turned (by first | assumption | exact St.drew (by assumption) | exact St.drew (St.drew (by assumption)) | exact St.drew (St.drew (St.drew (by assumption)))) (by omega) ?_ | with_reducible refine ld_size (by first | assumption | exact St.drew (by assumption) | exact St.drew (St.drew (by assumption)) | exact St.drew (St.drew (St.drew (by assumption)))) (by omega) ?_ | with_reducible refine ld_value (by first | assumption | exact St.drew (by assumption) | exact St.drew (St.drew (by assumption)) | exact St.drew (St.drew (St.drew (by assumption)))) (by omega) ?_ | with_reducible refine ld_sum (by first | assumption | exact St.drew (by assumption) | exact St.drew (St.drew (by assumption)) | exact St.drew (St.drew (St.drew (by assumption)))) (by omega) ?_ | with_reducible refine ld_least (by first | assumption | exact St.drew (by assumption) | exact St.drew (St.drew (by assumption)) | exact St.drew (St.drew (St.drew (by assumption)))) (by omega) ?_ | with_reducible refine ld_most (by first | assumption | exact St.drew (by assumption) | exact St.drew (St.drew (by assumption)) | exact St.drew (St.drew (St.drew (by assumption)))) (by omega) ?_ | (with_reducible refine st_up (by first | assumption | exact St.drew (by assumption) | exact St.drew (St.drew (by assumption)) | exact St.drew (St.drew (St.drew (by assumption)))) (by omega) (fun _ hst => ?_)) | (with_reducible refine st_left (by first | assumption | exact St.drew (by assumption) | exact St.drew (St.drew (by assumption)) | exact St.drew (St.drew (St.drew (by assumption)))) (by omega) (fun _ hst => ?_)) | (with_reducible refine st_right (by first | assumption | exact St.drew (by assumption) | exact St.drew (St.drew (by assumption)) | exact St.drew (St.drew (St.drew (by assumption)))) (by omega) (fun _ hst => ?_)) | (with_reducible refine st_turned (by first | assumption | exact St.drew (by assumption) | exact St.drew (St.drew (by assumption)) | exact St.drew (St.drew (St.drew (by assumption)))) (by omega) (fun _ hst => ?_)) | (with_reducible refine st_size (by first | assumption | exact St.drew (by assumption) | exact St.drew (St.drew (by assumption)) | exact St.drew (St.drew (St.drew (by assumption)))) (by omega) (fun _ hst => ?_)) | (with_reducible refine st_value (by first | assumption | exact St.drew (by assumption) | exact St.drew (St.drew (by assumption)) | exact St.drew (St.drew (St.drew (by assumption)))) (by omega) (fun _ hst => ?_)) | (with_reducible refine st_sum (by first | assumption | exact St.drew (by assumption) | exact St.drew (St.drew (by assumption)) | exact St.drew (St.drew (St.drew (by assumption)))) (by omega) (fun _ hst => ?_)) | (with_reducible refine st_least (by first | assumption | exact St.drew (by assumption) | exact St.drew (St.drew (by assumption)) | exact St.drew (St.drew (St.drew (by assumption)))) (by omega) (fun _ hst => ?_)) | (with_reducible refine st_most (by first | assumption | exact St.drew (by assumption) | exact St.drew (St.drew (by assumption)) | exact St.drew (St.drew (St.drew (by assumption)))) (by omega) (fun _ hst => ?_)) | simp only [S.up_w_up, S.left_w_up, S.right_w_up, S.turned_w_up, S.size_w_up, S.value_w_up, S.sum_w_up, S.least_w_up, S.most_w_up, S.up_w_left, S.left_w_left, S.right_w_left, S.turned_w_left, S.size_w_left, S.value_w_left, S.sum_w_left, S.least_w_left, S.most_w_left, S.up_w_right, S.left_w_right, S.right_w_right, S.turned_w_right, S.size_w_right, S.value_w_right, S.sum_w_right, S.least_w_right, S.most_w_right, S.up_w_turned, S.left_w_turned, S.right_w_turned, S.turned_w_turned, S.size_w_turned, S.value_w_turned, S.sum_w_turned, S.least_w_turned, S.most_w_turned, S.up_w_size, S.left_w_size, S.right_w_size, S.turned_w_size, S.size_w_size, S.value_w_size, S.sum_w_size, S.least_w_size, S.most_w_size, S.up_w_value, S.left_w_value, S.right_w_value, S.turned_w_value, S.size_w_value, S.value_w_value, S.sum_w_value, S.least_w_value, S.most_w_value, S.up_w_sum, S.left_w_sum, S.right_w_sum, S.turned_w_sum, S.size_w_sum, S.value_w_sum, S.sum_w_sum, S.least_w_sum, S.most_w_sum, S.up_w_least, S.left_w_least, S.right_w_least, S.turned_w_least, S.size_w_least, S.value_w_least, S.sum_w_least, S.least_w_least, S.most_w_least, S.up_w_most, S.left_w_most, S.right_w_most, S.turned_w_most, S.size_w_most, S.value_w_most, S.sum_w_most, S.least_w_most, S.most_w_most, upd_same])
      rw [hxx]
      cases c3 with
      | nil =>
        have hup : s3.up x = -1 := hgd3.rep.1.up
        rw [hup]
        exact ⟨by first | rfl | trivial, s3, l3, r3, hst25, hgd3⟩
      | cons f c3 =>
        obtain ⟨hup, hupp, hld⟩ := fr_links hgd3.rep htr.nd
        have hfb : f.b = false := hcl3 f (by simp)
        have hfp : f.p < n := htr.bd f.p (by rw [(plug_ls (f :: c3) _).mem_iff]; simp [cls])
        rw [hup]
        refine bif_i (fun _ => ?_) (fun h0 => ?_)
        · have hff : (f.p : Int).toNat = f.p := by omega
          repeat (first | with_reducible refine pt_i ?_ | with_reducible refine ldS_F (by first | assumption | exact St.drew (by assumption) | exact St.drew (St.drew (by assumption)) | exact St.drew (St.drew (St.drew (by assumption)))) ?_ | with_reducible refine ixS_F (by omega) (by omega) ?_ | with_reducible refine ld_up (by first | assumption | exact St.drew (by assumption) | exact St.drew (St.drew (by assumption)) | exact St.drew (St.drew (St.drew (by assumption)))) (by omega) ?_ | with_reducible refine ld_left (by first | assumption | exact St.drew (by assumption) | exact St.drew (St.drew (by assumption)) | exact St.drew (St.drew (St.drew (by assumption)))) (by omega) ?_ | with_reducible refine ld_right (by first | assumption | exact St.drew (by assumption) | exact St.drew (St.drew (by assumption)) | exact St.drew (St.drew (St.drew (by assumption)))) (by omega) ?_ | with_reducible refine ld_turned (by first | assumption | exact St.drew (by assumption) | exact St.drew (St.drew (by assumption)) | exact St.drew (St.drew (St.drew (by assumption)))) (by omega) ?_ | with_reducible refine ld_size (by first | assumption | exact St.drew (by assumption) | exact St.drew (St.drew (by assumption)) | exact St.drew (St.drew (St.drew (by assumption)))) (by omega) ?_ | with_reducible refine ld_value (by first | assumption | exact St.drew (by assumption) | exact St.drew (St.drew (by assumption)) | exact St.drew (St.drew (St.drew (by assumption)))) (by omega) ?_ | with_reducible refine ld_sum (by first | assumption | exact St.drew (by assumption) | exact St.drew (St.drew (by assumption)) | exact St.drew (St.drew (St.drew (by assumption)))) (by omega) ?_ | with_reducible refine ld_least (by first | assumption | exact St.drew (by assumption) | exact St.drew (St.drew (by assumption)) | exact St.drew (St.drew (St.drew (by assumption)))) (by omega) ?_ | with_reducible refine ld_most (by first | assumption | exact St.drew (by assumption) | exact St.drew (St.drew (by assumption)) | exact St.drew (St.drew (St.drew (by assumption)))) (by omega) ?_ | (with_reducible refine st_up (by first | assumption | exact St.drew (by assumption) | exact St.drew (St.drew (by assumption)) | exact St.drew (St.drew (St.drew (by assumption)))) (by omega) (fun _ hst => ?_)) | (with_reducible refine st_left (by first | assumption | exact St.drew (by assumption) | exact St.drew (St.drew (by assumption)) | exact St.drew (St.drew (St.drew (by assumption)))) (by omega) (fun _ hst => ?_)) | (with_reducible refine st_right (by first | assumption | exact St.drew (by assumption) | exact St.drew (St.drew (by assumption)) | exact St.drew (St.drew (St.drew (by assumption)))) (by omega) (fun _ hst => ?_)) | (with_reducible refine st_turned (by first | assumption | exact St.drew (by assumption) | exact St.drew (St.drew (by assumption)) | exact St.drew (St.drew (St.drew (by assumption)))) (by omega) (fun _ hst => ?_)) | (with_reducible refine st_size (by first | assumption | exact St.drew (by assumption) | exact St.drew (St.drew (by assumption)) | exact St.drew (St.drew (St.drew (by assumption)))) (by omega) (fun _ hst => ?_)) | (with_reducible refine st_value (by first | assumption | exact St.drew (by assumption) | exact St.drew (St.drew (by assumption)) | exact St.drew (St.drew (St.drew (by assumption)))) (by omega) (fun _ hst => ?_)) | (with_reducible refine st_sum (by first | assumption | exact St.drew (by assumption) | exact St.drew (St.drew (by assumption)) | exact St.drew (St.drew (St.drew (by assumption)))) (by omega) (fun _ hst => ?_)) | (with_reducible refine st_least (by first | assumption | exact St.drew (by assumption) | exact St.drew (St.drew (by assumption)) | exact St.drew (St.drew (St.drew (by assumption)))) (by omega) (fun _ hst => ?_)) | (with_reducible refine st_most (by first | assumption | exact St.drew (by assumption) | exact St.drew (St.drew (by assumption)) | exact St.drew (St.drew (St.drew (by assumption)))) (by omega) (fun _ hst => ?_)) | simp only [S.up_w_up, S.left_w_up, S.right_w_up, S.turned_w_up, S.size_w_up, S.value_w_up, S.sum_w_up, S.least_w_up, S.most_w_up, S.up_w_left, S.left_w_left, S.right_w_left, S.turned_w_left, S.size_w_left, S.value_w_left, S.sum_w_left, S.least_w_left, S.most_w_left, S.up_w_right, S.left_w_right, S.right_w_right, S.turned_w_right, S.size_w_right, S.value_w_right, S.sum_w_right, S.least_w_right, S.most_w_right, S.up_w_turned, S.left_w_turned, S.right_w_turned, S.turned_w_turned, S.size_w_turned, S.value_w_turned, S.sum_w_turned, S.least_w_turned, S.most_w_turned, S.up_w_size, S.left_w_size, S.right_w_size, S.turned_w_size, S.size_w_size, S.value_w_size, S.sum_w_size, S.least_w_size, S.most_w_size, S.up_w_value, S.left_w_value, S.right_w_value, S.turned_w_value, S.size_w_value, S.value_w_value, S.sum_w_value, S.least_w_value, S.most_w_value, S.up_w_sum, S.left_w_sum, S.right_w_sum, S.turned_w_sum, S.size_w_sum, S.value_w_sum, S.sum_w_sum, S.least_w_sum, S.most_w_sum, S.up_w_least, S.left_w_least, S.right_w_least, S.turned_w_least, S.size_w_least, S.value_w_least, S.sum_w_least, S.least_w_least, S.most_w_least, S.up_w_most, S.left_w_most, S.right_w_most, S.turned_w_most, S.size_w_most, S.value_w_most, S.sum_w_most, S.least_w_most, S.most_w_most, upd_same])
          rw [hxx, hup]
          repeat (first | with_reducible refine pt_i ?_ | with_reducible refine ldS_F (by first | assumption | exact St.drew (by assumption) | exact St.drew (St.drew (by assumption)) | exact St.drew (St.drew (St.drew (by assumption)))) ?_ | with_reducible refine ixS_F (by omega) (by omega) ?_ | with_reducible refine ld_up (by first | assumption | exact St.drew (by assumption) | exact St.drew (St.drew (by assumption)) | exact St.drew (St.drew (St.drew (by assumption)))) (by omega) ?_ | with_reducible refine ld_left (by first | assumption | exact St.drew (by assumption) | exact St.drew (St.drew (by assumption)) | exact St.drew (St.drew (St.drew (by assumption)))) (by omega) ?_ | with_reducible refine ld_right (by first | assumption | exact St.drew (by assumption) | exact St.drew (St.drew (by assumption)) | exact St.drew (St.drew (St.drew (by assumption)))) (by omega) ?_ | with_reducible refine ld_turned (by first | assumption | exact St.drew (by assumption) | exact St.drew (St.drew (by assumption)) | exact St.drew (St.drew (St.drew (by assumption)))) (by omega) ?_ | with_reducible refine ld_size (by first | assumption | exact St.drew (by assumption) | exact St.drew (St.drew (by assumption)) | exact St.drew (St.drew (St.drew (by assumption)))) (by omega) ?_ | with_reducible refine ld_value (by first | assumption | exact St.drew (by assumption) | exact St.drew (St.drew (by assumption)) | exact St.drew (St.drew (St.drew (by assumption)))) (by omega) ?_ | with_reducible refine ld_sum (by first | assumption | exact St.drew (by assumption) | exact St.drew (St.drew (by assumption)) | exact St.drew (St.drew (St.drew (by assumption)))) (by omega) ?_ | with_reducible refine ld_least (by first | assumption | exact St.drew (by assumption) | exact St.drew (St.drew (by assumption)) | exact St.drew (St.drew (St.drew (by assumption)))) (by omega) ?_ | with_reducible refine ld_most (by first | assumption | exact St.drew (by assumption) | exact St.drew (St.drew (by assumption)) | exact St.drew (St.drew (St.drew (by assumption)))) (by omega) ?_ | (with_reducible refine st_up (by first | assumption | exact St.drew (by assumption) | exact St.drew (St.drew (by assumption)) | exact St.drew (St.drew (St.drew (by assumption)))) (by omega) (fun _ hst => ?_)) | (with_reducible refine st_left (by first | assumption | exact St.drew (by assumption) | exact St.drew (St.drew (by assumption)) | exact St.drew (St.drew (St.drew (by assumption)))) (by omega) (fun _ hst => ?_)) | (with_reducible refine st_right (by first | assumption | exact St.drew (by assumption) | exact St.drew (St.drew (by assumption)) | exact St.drew (St.drew (St.drew (by assumption)))) (by omega) (fun _ hst => ?_)) | (with_reducible refine st_turned (by first | assumption | exact St.drew (by assumption) | exact St.drew (St.drew (by assumption)) | exact St.drew (St.drew (St.drew (by assumption)))) (by omega) (fun _ hst => ?_)) | (with_reducible refine st_size (by first | assumption | exact St.drew (by assumption) | exact St.drew (St.drew (by assumption)) | exact St.drew (St.drew (St.drew (by assumption)))) (by omega) (fun _ hst => ?_)) | (with_reducible refine st_value (by first | assumption | exact St.drew (by assumption) | exact St.drew (St.drew (by assumption)) | exact St.drew (St.drew (St.drew (by assumption)))) (by omega) (fun _ hst => ?_)) | (with_reducible refine st_sum (by first | assumption | exact St.drew (by assumption) | exact St.drew (St.drew (by assumption)) | exact St.drew (St.drew (St.drew (by assumption)))) (by omega) (fun _ hst => ?_)) | (with_reducible refine st_least (by first | assumption | exact St.drew (by assumption) | exact St.drew (St.drew (by assumption)) | exact St.drew (St.drew (St.drew (by assumption)))) (by omega) (fun _ hst => ?_)) | (with_reducible refine st_most (by first | assumption | exact St.drew (by assumption) | exact St.drew (St.drew (by assumption)) | exact St.drew (St.drew (St.drew (by assumption)))) (by omega) (fun _ hst => ?_)) | simp only [S.up_w_up, S.left_w_up, S.right_w_up, S.turned_w_up, S.size_w_up, S.value_w_up, S.sum_w_up, S.least_w_up, S.most_w_up, S.up_w_left, S.left_w_left, S.right_w_left, S.turned_w_left, S.size_w_left, S.value_w_left, S.sum_w_left, S.least_w_left, S.most_w_left, S.up_w_right, S.left_w_right, S.right_w_right, S.turned_w_right, S.size_w_right, S.value_w_right, S.sum_w_right, S.least_w_right, S.most_w_right, S.up_w_turned, S.left_w_turned, S.right_w_turned, S.turned_w_turned, S.size_w_turned, S.value_w_turned, S.sum_w_turned, S.least_w_turned, S.most_w_turned, S.up_w_size, S.left_w_size, S.right_w_size, S.turned_w_size, S.size_w_size, S.value_w_size, S.sum_w_size, S.least_w_size, S.most_w_size, S.up_w_value, S.left_w_value, S.right_w_value, S.turned_w_value, S.size_w_value, S.value_w_value, S.sum_w_value, S.least_w_value, S.most_w_value, S.up_w_sum, S.left_w_sum, S.right_w_sum, S.turned_w_sum, S.size_w_sum, S.value_w_sum, S.sum_w_sum, S.least_w_sum, S.most_w_sum, S.up_w_least, S.left_w_least, S.right_w_least, S.turned_w_least, S.size_w_least, S.value_w_least, S.sum_w_least, S.least_w_least, S.most_w_least, S.up_w_most, S.left_w_most, S.right_w_most, S.turned_w_most, S.size_w_most, S.value_w_most, S.sum_w_most, S.least_w_most, S.most_w_most, upd_same])
          rw [hff, hupp]
          cases c3 with
          | nil =>
            refine bif_i (fun h1 => by simp [par] at h1) (fun _ => ?_)
            refine (c_rotate hst25.i (by omega) (by omega) hwf3 (by rw [hxx, hup]; omega)).mono ?_
            rintro e w31 ⟨rfl, hst31⟩
            refine ⟨rfl, ?_⟩
            have hg := hgd3.trans (gd_rot htr hfb)
            obtain ⟨l', r', hsh⟩ := rotT_shape f l3 r3 x
            rw [hsh] at hg
            exact LI.again (k := 0) ⟨rfl, _, [], l', r', (fun f hf => by cases hf), rfl, hst25.trans hst31, hg⟩ (by rw [hj3]; simp only [List.length_cons]; omega)
          | cons g c3 =>
            have hgb : g.b = false := hcl3 g (by simp)
            have hgp : g.p < n := htr.bd g.p (by rw [(plug_ls (f :: g :: c3) _).mem_iff]; simp [cls])
            have hgg : (g.p : Int).toNat = g.p := by omega
            have hlg := fr_links2 hgd3.rep htr.nd hfb
            simp only [par] at hupp ⊢
            refine bif_i (fun _ => ?_) (fun h1 => ?_)
            · repeat (first | with_reducible refine pt_i ?_ | with_reducible refine ldS_F (by first | assumption | exact St.drew (by assumption) | exact St.drew (St.drew (by assumption)) | exact St.drew (St.drew (St.drew (by assumption)))) ?_ | with_reducible refine ixS_F (by omega) (by omega) ?_ | with_reducible refine ld_up (by first | assumption | exact St.drew (by assumption) | exact St.drew (St.drew (by assumption)) | exact St.drew (St.drew (St.drew (by assumption)))) (by omega) ?_ | with_reducible refine ld_left (by first | assumption | exact St.drew (by assumption) | exact St.drew (St.drew (by assumption)) | exact St.drew (St.drew (St.drew (by assumption)))) (by omega) ?_ | with_reducible refine ld_right (by first | assumption | exact St.drew (by assumption) | exact St.drew (St.drew (by assumption)) | exact St.drew (St.drew (St.drew (by assumption)))) (by omega) ?_ | with_reducible refine ld_turned (by first | assumption | exact St.drew (by assumption) | exact St.drew (St.drew (by assumption)) | exact St.drew (St.drew (St.drew (by assumption)))) (by omega) ?_ | with_reducible refine ld_size (by first | assumption | exact St.drew (by assumption) | exact St.drew (St.drew (by assumption)) | exact St.drew (St.drew (St.drew (by assumption)))) (by omega) ?_ | with_reducible refine ld_value (by first | assumption | exact St.drew (by assumption) | exact St.drew (St.drew (by assumption)) | exact St.drew (St.drew (St.drew (by assumption)))) (by omega) ?_ | with_reducible refine ld_sum (by first | assumption | exact St.drew (by assumption) | exact St.drew (St.drew (by assumption)) | exact St.drew (St.drew (St.drew (by assumption)))) (by omega) ?_ | with_reducible refine ld_least (by first | assumption | exact St.drew (by assumption) | exact St.drew (St.drew (by assumption)) | exact St.drew (St.drew (St.drew (by assumption)))) (by omega) ?_ | with_reducible refine ld_most (by first | assumption | exact St.drew (by assumption) | exact St.drew (St.drew (by assumption)) | exact St.drew (St.drew (St.drew (by assumption)))) (by omega) ?_ | (with_reducible refine st_up (by first | assumption | exact St.drew (by assumption) | exact St.drew (St.drew (by assumption)) | exact St.drew (St.drew (St.drew (by assumption)))) (by omega) (fun _ hst => ?_)) | (with_reducible refine st_left (by first | assumption | exact St.drew (by assumption) | exact St.drew (St.drew (by assumption)) | exact St.drew (St.drew (St.drew (by assumption)))) (by omega) (fun _ hst => ?_)) | (with_reducible refine st_right (by first | assumption | exact St.drew (by assumption) | exact St.drew (St.drew (by assumption)) | exact St.drew (St.drew (St.drew (by assumption)))) (by omega) (fun _ hst => ?_)) | (with_reducible refine st_turned (by first | assumption | exact St.drew (by assumption) | exact St.drew (St.drew (by assumption)) | exact St.drew (St.drew (St.drew (by assumption)))) (by omega) (fun _ hst => ?_)) | (with_reducible refine st_size (by first | assumption | exact St.drew (by assumption) | exact St.drew (St.drew (by assumption)) | exact St.drew (St.drew (St.drew (by assumption)))) (by omega) (fun _ hst => ?_)) | (with_reducible refine st_value (by first | assumption | exact St.drew (by assumption) | exact St.drew (St.drew (by assumption)) | exact St.drew (St.drew (St.drew (by assumption)))) (by omega) (fun _ hst => ?_)) | (with_reducible refine st_sum (by first | assumption | exact St.drew (by assumption) | exact St.drew (St.drew (by assumption)) | exact St.drew (St.drew (St.drew (by assumption)))) (by omega) (fun _ hst => ?_)) | (with_reducible refine st_least (by first | assumption | exact St.drew (by assumption) | exact St.drew (St.drew (by assumption)) | exact St.drew (St.drew (St.drew (by assumption)))) (by omega) (fun _ hst => ?_)) | (with_reducible refine st_most (by first | assumption | exact St.drew (by assumption) | exact St.drew (St.drew (by assumption)) | exact St.drew (St.drew (St.drew (by assumption)))) (by omega) (fun _ hst => ?_)) | simp only [S.up_w_up, S.left_w_up, S.right_w_up, S.turned_w_up, S.size_w_up, S.value_w_up, S.sum_w_up, S.least_w_up, S.most_w_up, S.up_w_left, S.left_w_left, S.right_w_left, S.turned_w_left, S.size_w_left, S.value_w_left, S.sum_w_left, S.least_w_left, S.most_w_left, S.up_w_right, S.left_w_right, S.right_w_right, S.turned_w_right, S.size_w_right, S.value_w_right, S.sum_w_right, S.least_w_right, S.most_w_right, S.up_w_turned, S.left_w_turned, S.right_w_turned, S.turned_w_turned, S.size_w_turned, S.value_w_turned, S.sum_w_turned, S.least_w_turned, S.most_w_turned, S.up_w_size, S.left_w_size, S.right_w_size, S.turned_w_size, S.size_w_size, S.value_w_size, S.sum_w_size, S.least_w_size, S.most_w_size, S.up_w_value, S.left_w_value, S.right_w_value, S.turned_w_value, S.size_w_value, S.value_w_value, S.sum_w_value, S.least_w_value, S.most_w_value, S.up_w_sum, S.left_w_sum, S.right_w_sum, S.turned_w_sum, S.size_w_sum, S.value_w_sum, S.sum_w_sum, S.least_w_sum, S.most_w_sum, S.up_w_least, S.left_w_least, S.right_w_least, S.turned_w_least, S.size_w_least, S.value_w_least, S.sum_w_least, S.least_w_least, S.most_w_least, S.up_w_most, S.left_w_most, S.right_w_most, S.turned_w_most, S.size_w_most, S.value_w_most, S.sum_w_most, S.least_w_most, S.most_w_most, upd_same])
              rw [hgg, hff, hlg, hld]
              refine bif_i (fun hd => ?_) (fun hd => ?_)
              · have hd' : g.d = f.d := by simpa using hd
                refine (c_rotate hst25.drew.i (by omega) (by omega) hwf3 (by rw [hff, hupp]; omega)).mono ?_
                rintro e w46 ⟨rfl, hst46⟩
                refine ⟨rfl, ?_⟩
                obtain ⟨f', hfb', hg1⟩ := rot_same htr hfb hgb hd'
                have hg2 := hgd3.trans hg1
                have htr2 := hg2.tr k
                obtain ⟨hup2, _, _⟩ := fr_links hg2.rep htr2.nd
                refine (c_rotate hst46.i (by omega) (by omega) (hg2.wf k) (by rw [hxx, hup2]; omega)).mono ?_
                rintro e w48 ⟨rfl, hst48⟩
                refine ⟨rfl, ?_⟩
                have hg3 := hg2.trans (gd_rot htr2 hfb')
                obtain ⟨l', r', hsh⟩ := rotT_shape f' l3 r3 x
                rw [hsh] at hg3
                exact LI.again (k := c3.length) ⟨rfl, _, c3, l', r', (fun f hf => hcl3 f (by simp [hf])), rfl, (hst25.drew.trans hst46).trans hst48, hg3⟩ (by rw [hj3]; simp only [List.length_cons]; omega)
              · refine (c_rotate hst25.drew.i (by omega) (by omega) hwf3 (by rw [hxx, hup]; omega)).mono ?_
                rintro e w46 ⟨rfl, hst46⟩
                refine ⟨rfl, ?_⟩
                have hg2 := hgd3.trans (gd_rot htr hfb)
                obtain ⟨l', r', hsh⟩ := rotT_shape f l3 r3 x
                rw [hsh] at hg2
                have htr2 := hg2.tr k
                obtain ⟨hup2, _, _⟩ := fr_links hg2.rep htr2.nd
                refine (c_rotate hst46.i (by omega) (by omega) (hg2.wf k) (by rw [hxx, hup2]; omega)).mono ?_
                rintro e w48 ⟨rfl, hst48⟩
                refine ⟨rfl, ?_⟩
                have hg3 := hg2.trans (gd_rot htr2 hgb)
                obtain ⟨l'', r'', hsh'⟩ := rotT_shape g l' r' x
                rw [hsh'] at hg3
                exact LI.again (k := c3.length) ⟨rfl, _, c3, l'', r'', (fun f hf => hcl3 f (by simp [hf])), rfl, (hst25.drew.trans hst46).trans hst48, hg3⟩ (by rw [hj3]; simp only [List.length_cons]; omega)
            · simp at h1
        · simp at h0
end Seq
end Go.Proofs.YtledchlbmilneaaDoor
