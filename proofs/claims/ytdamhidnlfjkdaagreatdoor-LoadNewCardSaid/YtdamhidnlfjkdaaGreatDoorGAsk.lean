/-
Layer 4: going down a tree to what is looked for.
Conditions: those that each theorem states.
-/
import Derived.Test.YtdamhidnlfjkdaaGreatDoorGFor
import Derived.Test.YtdamhidnlfjkdaaGreatDoorShSeq
namespace Go.Proofs.YtdamhidnlfjkdaaGreatDoor
open Go
set_option linter.unusedVariables false
set_option linter.unusedSimpArgs false
namespace Seq
end Seq
end Go.Proofs.YtdamhidnlfjkdaaGreatDoor
/-
The exported calls of layer 4 that ask.
Conditions: those that each theorem states.
-/
namespace Go.Proofs.YtdamhidnlfjkdaaGreatDoor
open Go
set_option linter.unusedVariables false
set_option linter.unusedSimpArgs false
namespace Seq
section
variable {w : World} {F L n : Nat} {v : Nat → Int} {q : List (List Nat)} {A B : List Nat} {a b x : Nat}

/-! ## top -/
theorem c_top {x : Nat} (h : AF w.heap F L n v (A :: q)) (hx : x ∈ A) :
    Calls Pg fn_seq_Forest_top #[.pointer (some ⟨F, 0, none⟩), .int .i64 x] w fun e w' => e = .returned (.tuple #[.pointer (some ⟨L, (x : Int).toNat * 9, none⟩), errV 0]) ∧
      ∃ s l r ts, St w w' F L n s ∧ Fo n s v (.node l x false r :: ts) ∧ l.seq ++ x :: r.seq = A ∧ q.Perm (ts.map T.seq) := by
  obtain ⟨hnd, hlt, _, _, hn, _⟩ := h.nodup
  have hxn := hlt A (by simp) x hx
  refine (calls_seq_Forest_top _ _ _ (fun v' w' => v' = .tuple #[.pointer (some ⟨L, (x : Int).toNat * 9, none⟩), errV 0] ∧
      ∃ s l r ts, St w w' F L n s ∧ Fo n s v (.node l x false r :: ts) ∧ l.seq ++ x :: r.seq = A ∧ q.Perm (ts.map T.seq)) ?_).mono (by rintro e w' ⟨v, rfl, rfl, k⟩; exact ⟨rfl, k⟩)
  unfold sh_seq_Forest_top
  refine alo_r fun hrow => ?_
  refine (c_check1 h).mono ?_
  rintro e w5 ⟨rfl, rfl⟩
  refine ⟨_, rfl, err_i (fun e => by rw [ck1_ok hxn] at e; exact absurd rfl e) (fun _ => ?_)⟩
  rw [wrap32_in (by omega) (by omega)]
  refine (c_liftA (h.alloc _) hx).mono ?_
  rintro e w7 ⟨rfl, s, l, r, ts, hst, k, hs, hp⟩
  refine ⟨rfl, ?_⟩
  have hxx : (x : Int).toNat = x := by omega
  have hst := (h.start' _).st hst
  obtain ⟨_, ⟨a1, a2⟩, a3, a4⟩ := k.wf x hxn
  refine (c_push hst.i (by omega) (by omega) (by rw [hxx]; exact a1) (by rw [hxx]; exact a2) (by rw [hxx]; exact a3) (by rw [hxx]; exact a4)).mono ?_
  rintro e w9 ⟨rfl, hst9⟩
  have e9 : pushS s x = s := by unfold pushS; rw [hxx, k.tr.rep.1.turned]; simp
  rw [e9] at hst9
  refine ⟨rfl, ?_⟩
  have hst := hst.trans hst9
  repeat (first | with_reducible refine pt_i ?_ | with_reducible refine gF (k := ?_) | with_reducible refine ixS_F (by omega) (by omega) ?_ | with_reducible refine g0 (k := ?_) | with_reducible refine g1 (k := ?_) | with_reducible refine g2 (k := ?_) | with_reducible refine g3 (k := ?_) | with_reducible refine g4 (k := ?_) | with_reducible refine g5 (k := ?_) | with_reducible refine g6 (k := ?_) | with_reducible refine g7 (k := ?_) | with_reducible refine g8 (k := ?_) | with_reducible refine s0 (k := fun _ hst => ?_) | with_reducible refine s1 (k := fun _ hst => ?_) | with_reducible refine s2 (k := fun _ hst => ?_) | with_reducible refine s3 (k := fun _ hst => ?_) | with_reducible refine s4 (k := fun _ hst => ?_) | with_reducible refine s5 (k := fun _ hst => ?_) | with_reducible refine s6 (k := fun _ hst => ?_) | with_reducible refine s7 (k := fun _ hst => ?_) | with_reducible refine s8 (k := fun _ hst => ?_) | simp only [projS, upd_same])
  exact ⟨rfl, s, l, r, ts, hst, k, by simpa [T.seq] using hs, hp⟩
theorem AS.of {s : S} {l r : T} {ts : List T} {w' : World} (hst : St w w' F L n s) (k : Fo n s v (.node l x false r :: ts)) (hs : l.seq ++ x :: r.seq = A) (hp : q.Perm (ts.map T.seq)) : AS w w' F L n v (A :: q) := by
  refine ⟨s, _, hst, k, ?_⟩
  rw [List.map_cons]
  have : (T.node l x false r).seq = A := by simpa [T.seq] using hs
  rw [this]; exact hp.cons _

end
end Seq
end Go.Proofs.YtdamhidnlfjkdaaGreatDoor
/-
The exported calls of layer 4 that look for an item: the one at a place, the least, the most.
Conditions: those that each theorem states.
-/
namespace Go.Proofs.YtdamhidnlfjkdaaGreatDoor
open Go
set_option linter.unusedVariables false
set_option linter.unusedSimpArgs false
theorem Row.drew {w : World} {b : Nat} {e : TypeId} {cs : List Value} (r : Row w.heap b e cs) : Row w.drew.heap b e cs := r
namespace Seq
section
variable {w : World} {F L n : Nat} {v : Nat → Int} {q : List (List Nat)} {A B : List Nat} {a b x : Nat}

end
end Seq
end Go.Proofs.YtdamhidnlfjkdaaGreatDoor
/-
The exported calls of layer 4 that look for the least and the most.
Conditions: those that each theorem states.
-/
namespace Go.Proofs.YtdamhidnlfjkdaaGreatDoor
open Go
set_option linter.unusedVariables false
set_option linter.unusedSimpArgs false
namespace Seq
theorem app_mid {l r pre post : List Nat} {y z : Nat} (h : l ++ y :: r = pre ++ z :: post) :
    (∃ p, l = pre ++ z :: p) ∨ (pre = l ∧ z = y ∧ post = r) ∨ (∃ p, pre = l ++ y :: p ∧ r = p ++ z :: post) := by
  rcases List.append_eq_append_iff.1 h with ⟨a, h1, h2⟩ | ⟨a, h1, h2⟩
  · cases a with
    | nil => simp at h1 h2; exact .inr (.inl ⟨h1, h2.1.symm, h2.2.symm⟩)
    | cons b a => simp at h2; obtain ⟨rfl, h2⟩ := h2; exact .inr (.inr ⟨a, h1, h2⟩)
  · cases a with
    | nil => simp at h1 h2; exact .inr (.inl ⟨h1.symm, h2.1, h2.2⟩)
    | cons b a => simp at h2; obtain ⟨rfl, h2⟩ := h2; exact .inl ⟨a, h1⟩
section
variable {w : World} {F L n : Nat} {v : Nat → Int} {q : List (List Nat)} {A B : List Nat} {a b x : Nat}

/-! ## Least -/
/-- z is the first of q's items whose value is the least. -/
def FstMn (v : Nat → Int) (q : List Nat) (z : Nat) : Prop := ∃ pre post, q = pre ++ z :: post ∧ (∀ y ∈ q, v z ≤ v y) ∧ (∀ y ∈ pre, v z < v y)
theorem FstMn.ex {v : Nat → Int} : ∀ (q : List Nat), q ≠ [] → ∃ z, FstMn v q z
  | [], h => absurd rfl h
  | [y], _ => ⟨y, [], [], rfl, by intro u hu; simp at hu; subst hu; exact Int.le_refl _, by simp⟩
  | y :: u :: q, _ => by
    obtain ⟨z, pre, post, h1, h2, h3⟩ := FstMn.ex (v := v) (u :: q) (by simp)
    by_cases h : v z < v y
    · refine ⟨z, y :: pre, post, by rw [h1]; rfl, ?_, ?_⟩
      · intro t ht; rcases List.mem_cons.1 ht with rfl | ht
        · omega
        · exact h2 t ht
      · intro t ht; rcases List.mem_cons.1 ht with rfl | ht
        · exact h
        · exact h3 t ht
    · refine ⟨y, [], u :: q, rfl, ?_, by simp⟩
      intro t ht; rcases List.mem_cons.1 ht with rfl | ht
      · omega
      · have := h2 t ht; omega
theorem FstMn.mem {v : Nat → Int} {q : List Nat} {z : Nat} (h : FstMn v q z) : z ∈ q := by
  obtain ⟨pre, post, rfl, _⟩ := h; simp
theorem FstMn.val {v : Nat → Int} {q : List Nat} {z : Nat} (h : FstMn v q z) {m : Int} (k : IsMn v q m) : v z = m := by
  obtain ⟨y, hy, e⟩ := k.1
  obtain ⟨pre, post, h1, h2, h3⟩ := h
  have a := h2 y hy
  have b := k.2 z (by rw [h1]; simp)
  omega
/-! ## Most -/
/-- z is the first of q's items whose value is the most. -/
def FstMx (v : Nat → Int) (q : List Nat) (z : Nat) : Prop := ∃ pre post, q = pre ++ z :: post ∧ (∀ y ∈ q, v y ≤ v z) ∧ (∀ y ∈ pre, v y < v z)
theorem FstMx.ex {v : Nat → Int} : ∀ (q : List Nat), q ≠ [] → ∃ z, FstMx v q z
  | [], h => absurd rfl h
  | [y], _ => ⟨y, [], [], rfl, by intro u hu; simp at hu; subst hu; exact Int.le_refl _, by simp⟩
  | y :: u :: q, _ => by
    obtain ⟨z, pre, post, h1, h2, h3⟩ := FstMx.ex (v := v) (u :: q) (by simp)
    by_cases h : v y < v z
    · refine ⟨z, y :: pre, post, by rw [h1]; rfl, ?_, ?_⟩
      · intro t ht; rcases List.mem_cons.1 ht with rfl | ht
        · omega
        · exact h2 t ht
      · intro t ht; rcases List.mem_cons.1 ht with rfl | ht
        · exact h
        · exact h3 t ht
    · refine ⟨y, [], u :: q, rfl, ?_, by simp⟩
      intro t ht; rcases List.mem_cons.1 ht with rfl | ht
      · omega
      · have := h2 t ht; omega
theorem FstMx.mem {v : Nat → Int} {q : List Nat} {z : Nat} (h : FstMx v q z) : z ∈ q := by
  obtain ⟨pre, post, rfl, _⟩ := h; simp
theorem FstMx.val {v : Nat → Int} {q : List Nat} {z : Nat} (h : FstMx v q z) {m : Int} (k : IsMx v q m) : v z = m := by
  obtain ⟨y, hy, e⟩ := k.1
  obtain ⟨pre, post, h1, h2, h3⟩ := h
  have a := h2 y hy
  have b := k.2 z (by rw [h1]; simp)
  omega
end
end Seq
end Go.Proofs.YtdamhidnlfjkdaaGreatDoor
