/-
The forest of layer 4 as a list of trees; the inner calls over it.
Conditions: those that each theorem states.
-/
import Derived.Test.YtdamhidnlfjkdaaGreatDoorGLift
namespace Go.Proofs.YtdamhidnlfjkdaaGreatDoor
open Go
set_option linter.unusedVariables false
set_option linter.unusedSimpArgs false

/-- An error by its number; 0: none. -/
def errV (c : Int) : Value := if c = 0 then .nilIface else .iface T_api_Errno (.int .i64 c)
theorem errV_isI (c : Int) : isI (errV c) := by unfold errV isI; split; exact .inl rfl; exact .inr ⟨_, _, rfl⟩
theorem errV_nil (c : Int) : nilI (errV c) = decide (c = 0) := by unfold errV; split <;> simp_all [nilI]
theorem errV_ne {c : Int} (h : c ≠ 0) : errV c = .iface T_api_Errno (.int .i64 c) := by simp [errV, h]
theorem wrap32_in {x : Int} (h0 : -2147483648 ≤ x) (h1 : x ≤ 2147483647) : IntKind.i32.wrap x = x := by rw [Seq.w32_eq]; omega
theorem wrap64_in {x : Int} (h0 : -9223372036854775808 ≤ x) (h1 : x ≤ 9223372036854775807) : IntKind.i64.wrap x = x := by rw [IntKind.wrap_i64]; omega

namespace Seq
structure Fo (n : Nat) (s : S) (v : Nat → Int) (ts : List T) : Prop where
  vr : VR v
  rep : ∀ t ∈ ts, Rep s v (-1) t ∧ t ≠ .nil
  perm : (ts.flatMap T.ls).Perm (List.range n)
  small : n ≤ 8388608
section
variable {n : Nat} {s s' : S} {v : Nat → Int} {t t' : T} {ts ts' : List T} {x : Nat}
theorem Fo.reorder (h : Fo n s v ts) (p : ts.Perm ts') : Fo n s v ts' :=
  ⟨h.vr, fun t ht => h.rep t (p.mem_iff.2 ht), (p.symm.flatMap_right _).trans h.perm, h.small⟩
theorem Fo.split (h : Fo n s v ts) (hx : x < n) : ∃ t ts', ts.Perm (t :: ts') ∧ x ∈ t.ls := by
  have : x ∈ ts.flatMap T.ls := h.perm.mem_iff.2 (List.mem_range.2 hx)
  obtain ⟨t, ht, hxt⟩ := List.mem_flatMap.1 this
  obtain ⟨a, c, rfl⟩ := List.append_of_mem ht
  exact ⟨t, a ++ c, List.perm_middle, hxt⟩
theorem Fo.nodup (h : Fo n s v ts) : (ts.flatMap T.ls).Nodup := h.perm.nodup_iff.2 List.nodup_range
theorem Fo.lt (h : Fo n s v ts) (ht : t ∈ ts) (hx : x ∈ t.ls) : x < n := List.mem_range.1 (h.perm.mem_iff.1 (List.mem_flatMap.2 ⟨t, ht, hx⟩))
theorem Fo.wf (h : Fo n s v ts) : Wf n s := by
  intro i hi
  have : i ∈ ts.flatMap T.ls := h.perm.mem_iff.2 (List.mem_range.2 hi)
  obtain ⟨t, ht, hit⟩ := List.mem_flatMap.1 this
  exact (h.rep t ht).1.links (by omega) (by omega) (fun y hy => h.lt ht hy) i hit
theorem Fo.tr (h : Fo n s v (t :: ts)) : Tr n s v t := by
  have hn := h.nodup
  rw [List.flatMap_cons, List.nodup_append] at hn
  exact ⟨h.vr, (h.rep t (by simp)).1, hn.1, fun y hy => h.lt (by simp) hy, h.wf, h.small⟩
theorem Fo.apart (h : Fo n s v (t :: ts)) (ht : t' ∈ ts) (hx : x ∈ t'.ls) : x ∉ t.ls := by
  have hn := h.nodup
  rw [List.flatMap_cons, List.nodup_append] at hn
  exact fun hxt => hn.2.2 x hxt x (List.mem_flatMap.2 ⟨t', ht, hx⟩) rfl
theorem Fo.gd (h : Fo n s v (t :: ts)) (g : Gd s v t s' t') : Fo n s' v (t' :: ts) := by
  refine ⟨h.vr, ?_, ?_, h.small⟩
  · intro u hu
    rcases List.mem_cons.1 hu with rfl | hu
    · refine ⟨g.rep, fun e => ?_⟩
      have h1 := (h.rep t (by simp)).2
      have h2 := g.perm.length_eq
      rw [e] at h2
      cases t with
      | nil => exact h1 rfl
      | node => simp [T.ls] at h2
    · have h1 := h.rep u (by simp [hu])
      exact ⟨h1.1.congr fun y hy => g.other y (h.apart hu hy), h1.2⟩
  · rw [List.flatMap_cons]
    refine (g.perm.symm.append_right _).trans ?_
    have := h.perm
    rwa [List.flatMap_cons] at this
theorem Fo.here (h : Fo n s v ts) (hx : x < n) : s.value x = v x := by
  have : x ∈ ts.flatMap T.ls := h.perm.mem_iff.2 (List.mem_range.2 hx)
  obtain ⟨t, ht, hit⟩ := List.mem_flatMap.1 this
  have hr := (h.rep t ht).1
  clear ht this
  have key : ∀ (t : T) (p : Int), Rep s v p t → x ∈ t.ls → s.value x = v x := by
    intro t
    induction t with
    | nil => intro p _ h; cases h
    | node l y b r hl hr =>
      intro p h hx
      simp only [T.ls, List.mem_append, List.mem_cons] at hx
      rcases hx with hx | rfl | hx
      · exact hl _ h.2.1 hx
      · exact h.1.value
      · exact hr _ h.2.2 hx
  exact key t _ hr hit
theorem seq_nil {t : T} (h : t.seq = []) : t = .nil := by
  have := t.seq_perm.length_eq
  rw [h] at this
  cases t with
  | nil => rfl
  | node => simp [T.ls] at this
theorem mem_seq {t : T} : x ∈ t.seq ↔ x ∈ t.ls := t.seq_perm.mem_iff

theorem c_liftF {w : World} {F L : Nat} (h : IsF w.heap F L n s) (k : Fo n s v (t :: ts)) (hx : x ∈ t.ls) :
    Calls Pg fn_seq_Forest_lift #[.pointer (some ⟨F, 0, none⟩), .int .i32 x] w fun e w' => e = .returned (.tuple #[]) ∧ ∃ s' l r, St w w' F L n s' ∧ Fo n s' v (.node l x false r :: ts) ∧ (T.node l x false r).seq = t.seq :=
  (c_lift h k.tr hx).mono fun e w' ⟨he, s', l, r, hst, hg⟩ => ⟨he, s', l, r, hst, k.gd hg, hg.seq⟩

end
end Seq
end Go.Proofs.YtdamhidnlfjkdaaGreatDoor
/-
The calls of layer 4 over lists of sequences.
Conditions: those that each theorem states.
-/
namespace Go.Proofs.YtdamhidnlfjkdaaGreatDoor
open Go
set_option linter.unusedVariables false
set_option linter.unusedSimpArgs false
namespace Seq

/-- The forest tells these sequences, these values. -/
def AF (h : Array Obj) (F L n : Nat) (v : Nat → Int) (q : List (List Nat)) : Prop := ∃ s ts, IsF h F L n s ∧ Fo n s v ts ∧ q.Perm (ts.map T.seq)
def AS (w₀ w : World) (F L n : Nat) (v : Nat → Int) (q : List (List Nat)) : Prop := ∃ s ts, St w₀ w F L n s ∧ Fo n s v ts ∧ q.Perm (ts.map T.seq)
section
variable {w₀ w w' : World} {F L n : Nat} {v : Nat → Int} {q q' : List (List Nat)} {A B : List Nat}
theorem AS.af (h : AS w₀ w F L n v q) : AF w.heap F L n v q := let ⟨s, ts, a, b, c⟩ := h; ⟨s, ts, a.i, b, c⟩
theorem AS.chg (h : AS w₀ w F L n v q) : Chg (· = L) w₀ w := let ⟨_, _, a, _⟩ := h; a.c
theorem AF.start (h : AF w.heap F L n v q) : AS w w F L n v q := let ⟨s, ts, a, b, c⟩ := h; ⟨s, ts, St.start a, b, c⟩
theorem AS.trans (h : AS w₀ w F L n v q) {v' : Nat → Int} (k : AS w w' F L n v' q') : AS w₀ w' F L n v' q' := by
  obtain ⟨s, ts, a, b, c⟩ := h
  obtain ⟨s', ts', a', b', c'⟩ := k
  exact ⟨s', ts', a.trans a', b', c'⟩
theorem AS.st {s : S} (h : AS w₀ w F L n v q) (k : St w w' F L n s) : St w₀ w' F L n s := let ⟨_, _, a, _, _⟩ := h; a.trans k
theorem AS.drew (h : AS w₀ w F L n v q) : AS w₀ w.drew F L n v q := let ⟨s, ts, a, b, c⟩ := h; ⟨s, ts, a.drew, b, c⟩
theorem AS.alloc (h : AS w₀ w F L n v q) (o : Obj) : AS w₀ (w.alloc o) F L n v q := let ⟨s, ts, a, b, c⟩ := h; ⟨s, ts, a.alloc o, b, c⟩
theorem AS.own (h : AS w₀ w F L n v q) (k : Chg (w₀.heap.size ≤ ·) w w') : AS w₀ w' F L n v q := let ⟨s, ts, a, b, c⟩ := h; ⟨s, ts, a.own k, b, c⟩
theorem AS.perm (h : AS w₀ w F L n v q) (p : q.Perm q') : AS w₀ w F L n v q' := let ⟨s, ts, a, b, c⟩ := h; ⟨s, ts, a, b, p.symm.trans c⟩
theorem AF.perm {h : Array Obj} (k : AF h F L n v q) (p : q.Perm q') : AF h F L n v q' := let ⟨s, ts, a, b, c⟩ := k; ⟨s, ts, a, b, p.symm.trans c⟩
theorem AF.alloc (h : AF w.heap F L n v q) (o : Obj) : AF (w.alloc o).heap F L n v q := let ⟨s, ts, a, b, c⟩ := h; ⟨s, ts, a.alloc o, b, c⟩
theorem AF.lt {h : Array Obj} (k : AF h F L n v q) : F < h.size ∧ L < h.size := let ⟨s, ts, a, b, c⟩ := k; ⟨a.f.lt, a.l.lt⟩
theorem AF.keep (h : AF w.heap F L n v q) {S : Nat → Prop} (c : Chg S w w') (hF : ¬ S F) (hL : ¬ S L) : AF w'.heap F L n v q := let ⟨s, ts, a, b, d⟩ := h; ⟨s, ts, a.chg c hF hL, b, d⟩
/-- The tree of one of the sequences. -/
theorem AF.head {h : Array Obj} (k : AF h F L n v (A :: q)) : ∃ s t ts, IsF h F L n s ∧ Fo n s v (t :: ts) ∧ t.seq = A ∧ q.Perm (ts.map T.seq) := by
  obtain ⟨s, ts, a, b, c⟩ := k
  have hm : A ∈ ts.map T.seq := c.mem_iff.1 (by simp)
  obtain ⟨t, ht, rfl⟩ := List.mem_map.1 hm
  obtain ⟨x, y, rfl⟩ := List.append_of_mem ht
  have p : (x ++ t :: y).Perm (t :: (x ++ y)) := List.perm_middle
  refine ⟨s, t, x ++ y, a, b.reorder p, rfl, ?_⟩
  have := c.trans (p.map T.seq)
  exact (List.perm_cons _).1 this
theorem AF.nodup {h : Array Obj} (k : AF h F L n v q) : q.flatten.Nodup ∧ (∀ A ∈ q, ∀ x ∈ A, x < n) ∧ (∀ A ∈ q, A ≠ []) ∧ VR v ∧ n ≤ 8388608 ∧ (∀ x, x < n → ∃ A ∈ q, x ∈ A) := by
  obtain ⟨s, ts, a, b, c⟩ := k
  have p1 : q.flatten.Perm (ts.map T.seq).flatten := c.flatten
  have p2 : ((ts.map T.seq).flatten).Perm (ts.flatMap T.ls) := by
    rw [← List.flatMap_def]
    clear b c p1
    induction ts with
    | nil => exact List.Perm.refl _
    | cons t ts ih => rw [List.flatMap_cons, List.flatMap_cons]; exact t.seq_perm.append ih
  have hmem : ∀ x, x ∈ q.flatten ↔ x < n := fun x => by rw [(p1.trans p2).mem_iff, b.perm.mem_iff, List.mem_range]
  refine ⟨(p1.trans p2).nodup_iff.2 b.nodup, fun A hA x hx => (hmem x).1 (List.mem_flatten.2 ⟨A, hA, hx⟩), ?_, b.vr, b.small, fun x hx => ?_⟩
  · intro A hA e
    obtain ⟨t, ht, rfl⟩ := List.mem_map.1 (c.mem_iff.1 hA)
    exact (b.rep t ht).2 (seq_nil e)
  · obtain ⟨A, hA, hxA⟩ := List.mem_flatten.1 ((hmem x).2 hx); exact ⟨A, hA, hxA⟩
end

/-! ## check -/
def inAll (n : Nat) (xs : List Int) : Bool := xs.all fun x => decide (0 ≤ x) && decide (x < n)
theorem c_check {w : World} {F L n : Nat} {s : S} {g c : Nat} {xs : List Int} (h : IsF w.heap F L n s) (r : Row w.heap g T_int (xs.map fun x => .int .i64 x)) (hl : xs.length ≤ 1000000) :
    Calls Pg fn_seq_Forest_check #[.pointer (some ⟨F, 0, none⟩), .slice (some ⟨g, 0, none⟩) xs.length c] w fun e w' => e = .returned (errV (if inAll n xs then 0 else 12)) ∧ w' = w := by
  refine (calls_seq_Forest_check _ _ _ _ _ (fun v' w' => v' = errV (if inAll n xs then 0 else 12) ∧ w' = w) ?_).mono (by rintro e w' ⟨v, rfl, rfl, k⟩; exact ⟨rfl, k⟩)
  unfold sh_seq_Forest_check
  have hst := St.start h
  refine bif_i (fun h => by cases h) (fun _ => ?_)
  let J : Nat → List Value → World → Prop := fun j vs w' => ∃ a b, vs = [.int .i64 (a.length : Nat)] ∧ xs = a ++ b ∧ j = b.length ∧ inAll n a = true ∧ w' = w
  refine ⟨LI J, LM J, ⟨xs.length, [], xs, rfl, rfl, rfl, rfl, rfl⟩, ?_⟩
  intro _ i w5 hI
  obtain ⟨a, b, hvs, hab, hj, hin, rfl⟩ := hI.at
  simp only [List.cons.injEq, Value.int.injEq, and_true, true_and] at hvs
  subst hvs
  have hlab : xs.length = a.length + b.length := by rw [hab]; simp
  refine bif_i (fun hc => ?_) (fun hc => ?_) <;> simp only [b1s] at hc
  · cases b with
    | nil => simp at hlab; omega
    | cons x b =>
      refine ixS_i (by omega) ?_
      refine ldI_r (n := x) r (by rw [hab]; simp) ?_
      have hbad : ¬ (0 ≤ x ∧ x < n) → errV (if inAll n xs then 0 else 12) = .iface T_api_Errno (.int .i64 12) := by
        intro hb
        have hd : (decide (0 ≤ x) && decide (x < (n : Int))) = false := by
          rw [Bool.and_eq_false_iff, decide_eq_false_iff_not, decide_eq_false_iff_not]; omega
        have : inAll n xs = false := by unfold inAll; rw [hab, List.all_append, List.all_cons, hd, Bool.false_and, Bool.and_false]
        rw [this]; rfl
      refine bif_i (fun h1 => ?_) (fun h1 => ?_) <;> simp only [b1s] at h1
      · exact ⟨(hbad (by omega)).symm, by first | rfl | trivial⟩
      · repeat (first | with_reducible refine pt_i ?_ | with_reducible refine gF (k := ?_) | with_reducible refine ixS_F (by omega) (by omega) ?_ | with_reducible refine g0 (k := ?_) | with_reducible refine g1 (k := ?_) | with_reducible refine g2 (k := ?_) | with_reducible refine g3 (k := ?_) | with_reducible refine g4 (k := ?_) | with_reducible refine g5 (k := ?_) | with_reducible refine g6 (k := ?_) | with_reducible refine g7 (k := ?_) | with_reducible refine g8 (k := ?_) | with_reducible refine s0 (k := fun _ hst => ?_) | with_reducible refine s1 (k := fun _ hst => ?_) | with_reducible refine s2 (k := fun _ hst => ?_) | with_reducible refine s3 (k := fun _ hst => ?_) | with_reducible refine s4 (k := fun _ hst => ?_) | with_reducible refine s5 (k := fun _ hst => ?_) | with_reducible refine s6 (k := fun _ hst => ?_) | with_reducible refine s7 (k := fun _ hst => ?_) | with_reducible refine s8 (k := fun _ hst => ?_) | simp only [projS, upd_same])
        refine bif_i (fun h2 => ?_) (fun h2 => ?_) <;> simp only [b1s] at h2
        · exact ⟨(hbad (by omega)).symm, by first | rfl | trivial⟩
        · have e : IntKind.i64.wrap ((a.length : Int) + 1) = ((a ++ [x]).length : Nat) := by rw [wrap64_in (by omega) (by omega)]; simp
          rw [e]
          refine LI.again (k := b.length) ⟨a ++ [x], b, rfl, by rw [hab]; simp, rfl, ?_, rfl⟩ (by rw [hj]; simp)
          simp only [inAll, List.all_append, List.all_cons, List.all_nil, Bool.and_true, Bool.and_eq_true, decide_eq_true_eq] at hin ⊢
          exact ⟨hin, by omega, by omega⟩
  · have hb : b = [] := by cases b with
      | nil => rfl
      | cons => simp at hlab; omega
    subst hb
    have : inAll n xs = true := by rw [hab]; simpa using hin
    rw [this]
    exact ⟨rfl, rfl⟩
/-! ## the inner calls -/
section
variable {w : World} {F L n : Nat} {v : Nat → Int} {q : List (List Nat)} {A B : List Nat} {a b x : Nat}

/-- 'lift', over sequences. -/
theorem c_liftA (h : AF w.heap F L n v (A :: q)) (hx : x ∈ A) :
    Calls Pg fn_seq_Forest_lift #[.pointer (some ⟨F, 0, none⟩), .int .i32 x] w fun e w' => e = .returned (.tuple #[]) ∧ ∃ s l r ts, St w w' F L n s ∧ Fo n s v (.node l x false r :: ts) ∧ (T.node l x false r).seq = A ∧ q.Perm (ts.map T.seq) := by
  obtain ⟨s, t, ts, hi, k, rfl, hp⟩ := h.head
  refine (c_liftF hi k (mem_seq.1 hx)).mono ?_
  rintro e w' ⟨he, s', l, r, hst, k', hs⟩
  exact ⟨he, s', l, r, ts, hst, k', hs, hp⟩

end
end Seq
end Go.Proofs.YtdamhidnlfjkdaaGreatDoor
/-
Trees of layer 4 joined, cut, turned, and a value set: the plain mathematics.
Conditions: those that each theorem states.
-/
namespace Go.Proofs.YtdamhidnlfjkdaaGreatDoor
open Go
set_option linter.unusedVariables false
set_option linter.unusedSimpArgs false
namespace Seq
section
variable {n : Nat} {s : S} {v : Nat → Int} {l r t u : T} {ts : List T} {x y b : Nat}

/-- The records at a place, the rest of the forest being as it was. -/
theorem Fo.make {s' : S} {ts' : List T} (h : Fo n s v (t :: ts)) (hr : ∀ t' ∈ ts', Rep s' v (-1) t' ∧ t' ≠ .nil) (ho : ∀ z, z ∉ t.ls → Eqv s s' z) (hp : (ts'.flatMap T.ls).Perm t.ls) : Fo n s' v (ts' ++ ts) := by
  refine ⟨h.vr, ?_, ?_, h.small⟩
  · intro u hu
    rcases List.mem_append.1 hu with hu | hu
    · exact hr u hu
    · have h1 := h.rep u (by simp [hu])
      exact ⟨h1.1.congr fun z hz => ho z (h.apart hu hz), h1.2⟩
  · rw [List.flatMap_append]
    refine (hp.append_right _).trans ?_
    have := h.perm
    rwa [List.flatMap_cons] at this

theorem Fo.two (h : Fo n s v (t :: u :: ts)) : ∀ z ∈ u.ls, z ∉ t.ls := fun z hz => h.apart (by simp) hz

theorem IsMn.vcongr {v v' : Nat → Int} {l : List Nat} {m : Int} (h : IsMn v l m) (e : ∀ y ∈ l, v' y = v y) : IsMn v' l m :=
  ⟨let ⟨y, hy, k⟩ := h.1; ⟨y, hy, by rw [e y hy, k]⟩, fun y hy => by rw [e y hy]; exact h.2 y hy⟩
theorem IsMx.vcongr {v v' : Nat → Int} {l : List Nat} {m : Int} (h : IsMx v l m) (e : ∀ y ∈ l, v' y = v y) : IsMx v' l m :=
  ⟨let ⟨y, hy, k⟩ := h.1; ⟨y, hy, by rw [e y hy, k]⟩, fun y hy => by rw [e y hy]; exact h.2 y hy⟩
theorem vsum_congr {v v' : Nat → Int} {l : List Nat} (e : ∀ y ∈ l, v' y = v y) : vsum v' l = vsum v l := by
  unfold vsum; rw [List.map_congr_left e]
theorem Agg.vcongr {s : S} {v v' : Nat → Int} {x : Nat} {l : List Nat} (h : Agg s v x l) (e : ∀ y ∈ l, v' y = v y) : Agg s v' x l :=
  ⟨h.size, by rw [h.sum, vsum_congr e], h.least.vcongr e, h.most.vcongr e⟩
theorem Rep.vcongr {s : S} {v v' : Nat → Int} {t : T} : ∀ {p : Int}, Rep s v p t → (∀ y ∈ t.ls, v' y = v y) → Rep s v' p t := by
  induction t with
  | nil => intro p _ _; trivial
  | node l x b r hl hr =>
    intro p h e
    refine ⟨⟨h.1.up, h.1.left, h.1.right, h.1.turned, by rw [h.1.value, e x (by simp [T.ls])], h.1.agg.vcongr e⟩, hl h.2.1 fun y hy => e y (by simp [T.ls, hy]), hr h.2.2 fun y hy => e y (by simp [T.ls, hy])⟩

end
end Seq
end Go.Proofs.YtdamhidnlfjkdaaGreatDoor
/-
The exported calls of layer 4 that join, cut, turn and set.
Conditions: those that each theorem states.
-/
namespace Go.Proofs.YtdamhidnlfjkdaaGreatDoor
open Go
set_option linter.unusedVariables false
set_option linter.unusedSimpArgs false
namespace Seq
section
variable {w : World} {F L n : Nat} {v : Nat → Int} {q : List (List Nat)} {A B : List Nat} {a b x : Nat}

theorem inAll1 {n : Nat} {x : Int} : inAll n [x] = true ↔ 0 ≤ x ∧ x < n := by simp [inAll]
/-- 'check' of one item, of two: what it answers. -/
def ck1 (n : Nat) (x : Int) : Int := if 0 ≤ x ∧ x < n then 0 else 12
theorem c_check1 {x : Int} (h : AF w.heap F L n v q) : Calls Pg fn_seq_Forest_check #[.pointer (some ⟨F, 0, none⟩), .slice (some ⟨w.heap.size, 0, none⟩) 1 1] (w.alloc (.cells #[.int .i64 x] T_int)) fun e w' =>
    e = .returned (errV (ck1 n x)) ∧ w' = w.alloc (.cells #[.int .i64 x] T_int) := by
  obtain ⟨s, ts, hi, _, _⟩ := h
  have := c_check (c := 1) (xs := [x]) (hi.alloc (.cells #[.int .i64 x] T_int)) (Row.new w _ _) (by simp)
  refine this.mono fun e w' h => ?_
  rw [h.1]
  refine ⟨?_, h.2⟩
  unfold ck1
  by_cases hc : 0 ≤ x ∧ x < n
  · rw [if_pos hc, inAll1.2 hc]; rfl
  · rw [if_neg hc]
    have : inAll n [x] = false := by rw [← Bool.not_eq_true]; exact fun e => hc (inAll1.1 e)
    rw [this]; rfl
theorem ck1_ok (h : x < n) : ck1 n x = 0 := by unfold ck1; rw [if_pos]; omega
theorem err_i {c : Int} {X Y : Prop} (h : c ≠ 0 → X) (k : c = 0 → Y) : isI (errV c) ∧ bif (!(nilI (errV c))) then X else Y := by
  refine ⟨errV_isI c, ?_⟩
  rw [errV_nil]
  by_cases hc : c = 0
  · simp only [hc, decide_true, Bool.not_true, cond_false]; exact k hc
  · simp only [hc, decide_false, Bool.not_false, cond_true]; exact h hc
theorem AF.start' (h : AF w.heap F L n v q) (o : Obj) : AS w (w.alloc o) F L n v q := h.start.alloc o

end
end Seq
end Go.Proofs.YtdamhidnlfjkdaaGreatDoor
