/-
Trees that are kept in records with links: one rotation.
Conditions: those that each theorem states.
-/
import Derived.Test.YtledchlbmilneaaDoorSplay
namespace Go.Proofs.YtledchlbmilneaaDoor
open Go
set_option linter.unusedVariables false
set_option linter.unusedSimpArgs false
namespace Seq

theorem hang_up (s : S) (c x : Int) (b : Bool) (y : Nat) : (hangS s c x b).up y = if c ≠ -1 ∧ y = c.toNat then x else s.up y := by
  unfold hangS; cases b <;> simp only [if_true, Bool.false_eq_true, if_false] <;> by_cases h : c = -1 <;> simp [h, upd]
theorem hang_left (s : S) (c x : Int) (b : Bool) (y : Nat) : (hangS s c x b).left y = if b = true ∧ y = x.toNat then c else s.left y := by
  unfold hangS; cases b <;> simp only [if_true, Bool.false_eq_true, if_false] <;> split <;> simp [upd]
theorem hang_right (s : S) (c x : Int) (b : Bool) (y : Nat) : (hangS s c x b).right y = if b = false ∧ y = x.toNat then c else s.right y := by
  unfold hangS; cases b <;> simp only [if_true, Bool.false_eq_true, if_false] <;> split <;> simp [upd]
theorem hang_rest (s : S) (c x : Int) (b : Bool) (y : Nat) : EqA s (hangS s c x b) y := by
  unfold hangS; cases b <;> simp only [if_true, Bool.false_eq_true, if_false] <;> split <;> constructor <;> simp

/-- The links behind a rotation, ahead of the reckoning. -/
structure RotL (s s4 : S) (x p : Nat) (g B : Int) (d : Bool) : Prop where
  rest : ∀ y, EqA s s4 y
  up : ∀ y, s4.up y = if y = x then g else if y = p then (x : Int) else if B ≠ -1 ∧ y = B.toNat then (p : Int) else s.up y
  left : ∀ y, s4.left y = if g ≠ -1 ∧ y = g.toNat ∧ s.left g.toNat = p then (x : Int) else if d = true ∧ y = p then B else if d = false ∧ y = x then (p : Int) else s.left y
  right : ∀ y, s4.right y = if g ≠ -1 ∧ y = g.toNat ∧ s.left g.toNat ≠ p then (x : Int) else if d = false ∧ y = p then B else if d = true ∧ y = x then (p : Int) else s.right y

theorem rotS_links {s : S} {x p : Nat} {g B : Int} {d : Bool} (hp : s.up x = p) (hg : s.up p = g) (hd : (s.left p == (x : Int)) = d) (hB : (if d then s.right x else s.left x) = B)
    (hxp : x ≠ p) (hgp : g ≠ p) (hgx : g ≠ x) (hg0 : -1 ≤ g) (hB0 : -1 ≤ B) (hBx : B ≠ x) (hBp : B ≠ p) : ∃ s4, RotL s s4 x p g B d ∧ rotS s x = pullS (pullS s4 p) x := by
  have hx : (x : Int).toNat = x := by omega
  have hpn : (p : Int).toNat = p := by omega
  have hx1 : (x : Int) ≠ -1 := by omega
  have hp1 : (p : Int) ≠ -1 := by omega
  refine ⟨_, ?_, by simp only [rotS]; rw [hx, hp, hpn, hg]⟩
  rw [hd]
  cases d
  · simp only [Bool.false_eq_true, if_false] at hB ⊢
    rw [hB]
    have ha : (hangS s B p false).left g.toNat = s.left g.toNat := by rw [hang_left]; simp
    rw [ha]
    by_cases hg1 : g = -1
    · subst hg1
      simp only [if_true]
      refine ⟨fun y => ?_, fun y => ?_, fun y => ?_, fun y => ?_⟩
      · have h1 := hang_rest s B p false y
        have h2 := hang_rest (hangS s B p false) p x (!false) y
        exact ⟨by simpa using h2.turned.trans h1.turned, by simpa using h2.size.trans h1.size, by simpa using h2.value.trans h1.value, by simpa using h2.sum.trans h1.sum, by simpa using h2.least.trans h1.least, by simpa using h2.most.trans h1.most⟩
      · simp only [S.up_w_up, hang_up, upd, hpn]
        by_cases e1 : y = x
        · simp [e1, hx]
        · by_cases e2 : y = p <;> simp [e1, e2, hx, hp1]
      · simp only [S.left_w_up, hang_left, hx, hpn]
        by_cases e1 : y = x <;> simp [e1]
      · simp only [S.right_w_up, hang_right, hx, hpn]
        by_cases e1 : y = p <;> simp [e1]
    · simp only [if_neg hg1]
      have hgt : (g != -1) = true := by simpa using hg1
      rw [hgt, Bool.true_and]
      have hgx' : g.toNat ≠ x := by omega
      have hgp' : g.toNat ≠ p := by omega
      refine ⟨fun y => ?_, fun y => ?_, fun y => ?_, fun y => ?_⟩
      · have h1 := hang_rest s B p false y
        have h2 := hang_rest (hangS s B p false) p x (!false) y
        have h3 := hang_rest ((hangS (hangS s B p false) p x (!false)).w_up x g) x g (s.left g.toNat == p) y
        exact ⟨by simpa using h3.turned.trans (h2.turned.trans h1.turned), by simpa using h3.size.trans (h2.size.trans h1.size), by simpa using h3.value.trans (h2.value.trans h1.value), by simpa using h3.sum.trans (h2.sum.trans h1.sum), by simpa using h3.least.trans (h2.least.trans h1.least), by simpa using h3.most.trans (h2.most.trans h1.most)⟩
      · simp only [hang_up, S.up_w_up, upd, hpn, hx]
        by_cases e1 : y = x
        · simp [e1, hx1]
        · by_cases e2 : y = p <;> simp [e1, e2, hp1, hxp, Ne.symm hxp]
      · simp only [hang_left, S.left_w_up, hx, hpn]
        by_cases e1 : y = g.toNat
        · subst e1; by_cases e2 : s.left g.toNat = p <;> simp [hg1, e2, hgx', hgp']
        · by_cases e2 : y = x <;> simp [e1, e2, hg1, Ne.symm hgx', Ne.symm hgp']
      · simp only [hang_right, S.right_w_up, hx, hpn]
        by_cases e1 : y = g.toNat
        · subst e1; by_cases e2 : s.left g.toNat = p <;> simp [hg1, e2, hgx', hgp']
        · by_cases e2 : y = p <;> simp [e1, e2, hg1, Ne.symm hgx', Ne.symm hgp']
  · simp only [if_true] at hB ⊢
    rw [hB]
    have ha : (hangS s B p true).left g.toNat = s.left g.toNat ∨ g = -1 := by
      by_cases h : g = -1
      · exact .inr h
      · left; rw [hang_left]; simp; intro h'; omega
    by_cases hg1 : g = -1
    · subst hg1
      simp only [if_true]
      refine ⟨fun y => ?_, fun y => ?_, fun y => ?_, fun y => ?_⟩
      · have h1 := hang_rest s B p true y
        have h2 := hang_rest (hangS s B p true) p x (!true) y
        exact ⟨by simpa using h2.turned.trans h1.turned, by simpa using h2.size.trans h1.size, by simpa using h2.value.trans h1.value, by simpa using h2.sum.trans h1.sum, by simpa using h2.least.trans h1.least, by simpa using h2.most.trans h1.most⟩
      · simp only [S.up_w_up, hang_up, upd, hpn]
        by_cases e1 : y = x
        · simp [e1, hx]
        · by_cases e2 : y = p <;> simp [e1, e2, hx, hp1]
      · simp only [S.left_w_up, hang_left, hx, hpn]
        by_cases e1 : y = p <;> simp [e1]
      · simp only [S.right_w_up, hang_right, hx, hpn]
        by_cases e1 : y = x <;> simp [e1]
    · simp only [if_neg hg1]
      have hgt : (g != -1) = true := by simpa using hg1
      rw [hgt, Bool.true_and, ha.resolve_right hg1]
      have hgx' : g.toNat ≠ x := by omega
      have hgp' : g.toNat ≠ p := by omega
      refine ⟨fun y => ?_, fun y => ?_, fun y => ?_, fun y => ?_⟩
      · have h1 := hang_rest s B p true y
        have h2 := hang_rest (hangS s B p true) p x (!true) y
        have h3 := hang_rest ((hangS (hangS s B p true) p x (!true)).w_up x g) x g (s.left g.toNat == p) y
        exact ⟨by simpa using h3.turned.trans (h2.turned.trans h1.turned), by simpa using h3.size.trans (h2.size.trans h1.size), by simpa using h3.value.trans (h2.value.trans h1.value), by simpa using h3.sum.trans (h2.sum.trans h1.sum), by simpa using h3.least.trans (h2.least.trans h1.least), by simpa using h3.most.trans (h2.most.trans h1.most)⟩
      · simp only [hang_up, S.up_w_up, upd, hpn, hx]
        by_cases e1 : y = x
        · simp [e1, hx1]
        · by_cases e2 : y = p <;> simp [e1, e2, hp1, hxp, Ne.symm hxp]
      · simp only [hang_left, S.left_w_up, hx, hpn]
        by_cases e1 : y = g.toNat
        · subst e1; by_cases e2 : s.left g.toNat = p <;> simp [hg1, e2, hgx', hgp']
        · by_cases e2 : y = p <;> simp [e1, e2, hg1, Ne.symm hgx', Ne.symm hgp']
      · simp only [hang_right, S.right_w_up, hx, hpn]
        by_cases e1 : y = g.toNat
        · subst e1; by_cases e2 : s.left g.toNat = p <;> simp [hg1, e2, hgx', hgp']
        · by_cases e2 : y = x <;> simp [e1, e2, hg1, Ne.symm hgx', Ne.symm hgp']

def rotT (f : Fr) (l : T) (x : Nat) (r : T) : T :=
  if f.d then .node l x false (.node r f.p false f.sib) else .node (.node f.sib f.p false l) x false r
theorem rotT_ls {f : Fr} {l r : T} {x : Nat} : (rotT f l x r).ls = (f.fill (.node l x false r)).ls := by
  unfold rotT Fr.fill; cases f.d <;> simp [T.ls]
theorem rotT_seq {f : Fr} {l r : T} {x : Nat} (hb : f.b = false) : (rotT f l x r).seq = (f.fill (.node l x false r)).seq := by
  unfold rotT Fr.fill; cases f.d <;> simp [T.seq, hb]
theorem rotT_rt (f : Fr) (l r : T) (x : Nat) : (rotT f l x r).rt = x := by unfold rotT; cases f.d <;> rfl
theorem rt_mem {t : T} {y : Nat} (h : (y : Int) = t.rt) : y ∈ t.ls := by
  cases t with
  | nil => simp [T.rt] at h
  | node l x b r => simp only [T.rt] at h; have e : y = x := by omega
                    subst e; simp [T.ls]
theorem rt_cases (t : T) : t.rt = -1 ∨ ∃ y : Nat, t.rt = y ∧ y ∈ t.ls := by
  cases t with
  | nil => exact .inl rfl
  | node l x b r => exact .inr ⟨x, rfl, by simp [T.ls]⟩
theorem par_mem (top : Int) (c : List Fr) : par top c = top ∨ ∃ g : Nat, par top c = g ∧ g ∈ cls c := by
  cases c with
  | nil => exact .inl rfl
  | cons f c => exact .inr ⟨f.p, rfl, by simp [cls]⟩

/-- The records of a frame above, whose child is another one now, of the same labels. -/
theorem NdF.child {s s' : S} {v : Nat → Int} {f : Fr} {up : Int} {u u' : T} {x p : Nat} (h : NdF s v f up u) (hrt : u.rt = p) (hrt' : u'.rt = x) (hls : u.ls.Perm u'.ls) (he : EqA s s' f.p) (hup : s'.up f.p = s.up f.p)
    (hl : s'.left f.p = if s.left f.p = p then (x : Int) else s.left f.p) (hr : s'.right f.p = if s.left f.p ≠ p then (x : Int) else s.right f.p) (hsib : f.sib.rt ≠ p) : NdF s' v f up u' := by
  unfold NdF at *
  cases hd : f.d <;> simp only [hd, if_true, Bool.false_eq_true, if_false] at h ⊢
  · have h1 : s.left f.p ≠ p := by rw [h.left]; exact hsib
    rw [if_neg h1] at hl
    rw [if_pos h1] at hr
    exact ⟨by rw [hup, h.up], by rw [hl, h.left], by rw [hr, hrt'], by rw [he.turned, h.turned], by rw [he.value, h.value], (h.agg.congr he).perm ((hls.cons _).append_left _)⟩
  · have h1 : s.left f.p = p := by rw [h.left]; exact hrt
    rw [if_pos h1] at hl
    rw [if_neg (by simpa using h1)] at hr
    exact ⟨by rw [hup, h.up], by rw [hl, hrt'], by rw [hr, h.right], by rw [he.turned, h.turned], by rw [he.value, h.value], (h.agg.congr he).perm (hls.append_right _)⟩
end Seq
end Go.Proofs.YtledchlbmilneaaDoor
