/-
The forest of layer 4: a node is brought to the top of its tree.
Conditions: those that each theorem states.
-/
import Derived.Test.YtledchlbmilneaaDoorSplay4
import Derived.Test.YtledchlbmilneaaDoorOwn
namespace Go.Proofs.YtledchlbmilneaaDoor
open Go
set_option linter.unusedVariables false
set_option linter.unusedSimpArgs false
namespace Seq

theorem fill_seq (f : Fr) {u u' : T} (h : u.seq = u'.seq) : (f.fill u).seq = (f.fill u').seq := by
  unfold Fr.fill; cases f.d <;> simp [T.seq, h]
theorem plug_seq (c : List Fr) : ∀ {u u' : T}, u.seq = u'.seq → (plug c u).seq = (plug c u').seq := by
  induction c with
  | nil => intro u u' h; exact h
  | cons f c ih => intro u u' h; exact ih (fill_seq f h)
theorem plug_perm (c : List Fr) : ∀ {u u' : T}, u.ls.Perm u'.ls → (plug c u).ls.Perm (plug c u').ls := by
  induction c with
  | nil => intro u u' h; exact h
  | cons f c ih => intro u u' h; exact ih (fill_perm f h)

/-- The tree t of the state s₀ has become t' in s; nothing else has changed. -/
structure Gd (s₀ : S) (v : Nat → Int) (t : T) (s : S) (t' : T) : Prop where
  rep : Rep s v (-1) t'
  perm : t.ls.Perm t'.ls
  seq : t'.seq = t.seq
  other : ∀ y, y ∉ t.ls → Eqv s₀ s y
/-- What is asked of a tree in a row of n records. -/
structure Tr (n : Nat) (s : S) (v : Nat → Int) (t : T) : Prop where
  vr : VR v
  rep : Rep s v (-1) t
  nd : t.ls.Nodup
  bd : ∀ y ∈ t.ls, y < n
  wf : Wf n s
  small : n ≤ 8388608
theorem nodup_len {l : List Nat} (h : l.Nodup) {n : Nat} (hb : ∀ y ∈ l, y < n) : l.length ≤ n := by
  induction n generalizing l with
  | zero => cases l with
    | nil => simp
    | cons a l => exact absurd (hb a (by simp)) (by omega)
  | succ n ih =>
    by_cases hn : n ∈ l
    · have h1 := ih (h.erase n) (fun y hy => by
        have h2 := hb y (List.mem_of_mem_erase hy)
        have h3 : y ≠ n := fun e => by subst e; exact (h.not_mem_erase) hy
        omega)
      rw [List.length_erase_of_mem hn] at h1
      omega
    · have := ih h (fun y hy => by
        have h2 := hb y hy
        have h3 : y ≠ n := fun e => hn (e ▸ hy)
        omega)
      omega
theorem Rep.links {n : Nat} {s : S} {v : Nat → Int} {t : T} : ∀ {p : Int}, Rep s v p t → -1 ≤ p → p < n → (∀ y ∈ t.ls, y < n) → ∀ y ∈ t.ls, (-1 ≤ s.up y ∧ s.up y < n) ∧ (-1 ≤ s.left y ∧ s.left y < n) ∧ (-1 ≤ s.right y ∧ s.right y < n) := by
  induction t with
  | nil => intro p _ _ _ _ y hy; cases hy
  | node l x b r hl hr =>
    intro p h hp0 hp1 hb y hy
    have hx := hb x (by simp [T.ls])
    have hbl : ∀ y ∈ l.ls, y < n := fun y hy => hb y (by simp [T.ls, hy])
    have hbr : ∀ y ∈ r.ls, y < n := fun y hy => hb y (by simp [T.ls, hy])
    simp only [T.ls, List.mem_append, List.mem_cons] at hy
    rcases hy with hy | rfl | hy
    · exact hl h.2.1 (by omega) (by omega) hbl y hy
    · have h1 : -1 ≤ l.rt ∧ l.rt < n := by
        rcases rt_cases l with e | ⟨z, e, hz⟩
        · omega
        · have := hbl z hz; omega
      have h2 : -1 ≤ r.rt ∧ r.rt < n := by
        rcases rt_cases r with e | ⟨z, e, hz⟩
        · omega
        · have := hbr z hz; omega
      rw [h.1.up, h.1.left, h.1.right]
      exact ⟨⟨hp0, hp1⟩, h1, h2⟩
    · exact hr h.2.2 (by omega) (by omega) hbr y hy
theorem Gd.wf {n : Nat} {s₀ s : S} {v : Nat → Int} {t t' : T} (g : Gd s₀ v t s t') (k : Tr n s₀ v t) : Wf n s := by
  intro i hi
  by_cases h : i ∈ t.ls
  · exact g.rep.links (by omega) (by omega) (fun y hy => k.bd y (g.perm.mem_iff.2 hy)) i (g.perm.mem_iff.1 h)
  · have e := g.other i h
    rw [e.up, e.left, e.right]; exact k.wf i hi
theorem Gd.tr {n : Nat} {s₀ s : S} {v : Nat → Int} {t t' : T} (g : Gd s₀ v t s t') (k : Tr n s₀ v t) : Tr n s v t' :=
  ⟨k.vr, g.rep, g.perm.nodup_iff.1 k.nd, fun y hy => k.bd y (g.perm.mem_iff.2 hy), g.wf k, k.small⟩
theorem Gd.refl {s : S} {v : Nat → Int} {t : T} (h : Rep s v (-1) t) : Gd s v t s t := ⟨h, List.Perm.refl _, rfl, fun y _ => Eqv.refl s y⟩
theorem Gd.trans {s₀ s s' : S} {v : Nat → Int} {t t' t'' : T} (g : Gd s₀ v t s t') (g' : Gd s v t' s' t'') : Gd s₀ v t s' t'' :=
  ⟨g'.rep, g.perm.trans g'.perm, g'.seq.trans g.seq, fun y hy => (g.other y hy).trans (g'.other y (fun h => hy (g.perm.mem_iff.2 h)))⟩
theorem Tr.len {n : Nat} {s : S} {v : Nat → Int} {t : T} (k : Tr n s v t) : t.ls.length ≤ 8388608 := Nat.le_trans (nodup_len k.nd k.bd) k.small
theorem gd_rot {n : Nat} {s : S} {v : Nat → Int} {f : Fr} {c : List Fr} {l r : T} {x : Nat} (k : Tr n s v (plug (f :: c) (.node l x false r))) (hb : f.b = false) :
    Gd s v (plug (f :: c) (.node l x false r)) (rotS s x) (plug c (rotT f l x r)) := by
  have hl := k.len
  obtain ⟨h1, h2⟩ := rot_rep k.vr hb k.rep k.nd (by omega)
  exact ⟨h1, plug_perm c (by rw [rotT_ls]), plug_seq c (rotT_seq hb), h2⟩
theorem gd_push {n : Nat} {s : S} {v : Nat → Int} {c : List Fr} {l r : T} {x : Nat} {b : Bool} (k : Tr n s v (plug c (.node l x b r))) :
    Gd s v (plug c (.node l x b r)) (pushS s x) (plug c (pushT l x b r)) := by
  obtain ⟨h1, h2⟩ := push_rep k.rep k.nd
  exact ⟨h1, plug_perm c (pushT_ls l x b r), plug_seq c (pushT_seq l x b r), h2⟩

/-! ## The way down to a node -/
inductive Pth : T → Nat → List Nat → Prop
  | here {l r : T} {x : Nat} {b : Bool} : Pth (.node l x b r) x [x]
  | lf {l r : T} {x y : Nat} {b : Bool} {ρ : List Nat} : Pth l x ρ → Pth (.node l y b r) x (y :: ρ)
  | rg {l r : T} {x y : Nat} {b : Bool} {ρ : List Nat} : Pth r x ρ → Pth (.node l y b r) x (y :: ρ)
theorem Pth.flip {t : T} {x : Nat} {ρ : List Nat} (h : Pth t x ρ) : Pth t.flip x ρ := by
  cases h with
  | here => exact .here
  | lf h => exact .lf h
  | rg h => exact .rg h
theorem Pth.ex {t : T} {x : Nat} (h : x ∈ t.ls) : ∃ ρ, Pth t x ρ := by
  induction t with
  | nil => cases h
  | node l y b r hl hr =>
    simp only [T.ls, List.mem_append, List.mem_cons] at h
    rcases h with h | rfl | h
    · obtain ⟨ρ, hρ⟩ := hl h; exact ⟨_, .lf hρ⟩
    · exact ⟨_, .here⟩
    · obtain ⟨ρ, hρ⟩ := hr h; exact ⟨_, .rg hρ⟩
theorem Pth.sub {t : T} {x : Nat} {ρ : List Nat} (h : Pth t x ρ) : ∀ y ∈ ρ, y ∈ t.ls := by
  induction h with
  | here => intro y hy; simp at hy; subst hy; simp [T.ls]
  | lf _ ih => intro y hy; rcases List.mem_cons.1 hy with rfl | hy; simp [T.ls]; simp [T.ls, ih y hy]
  | rg _ ih => intro y hy; rcases List.mem_cons.1 hy with rfl | hy; simp [T.ls]; simp [T.ls, ih y hy]
theorem Pth.ne {t : T} {x : Nat} {ρ : List Nat} (h : Pth t x ρ) : ρ ≠ [] := by cases h <;> simp
theorem Pth.last {t : T} {x : Nat} {ρ : List Nat} (h : Pth t x ρ) : ρ.getLast? = some x := by
  induction h with
  | here => rfl
  | lf h ih => rw [List.getLast?_cons, ih]; rfl
  | rg h ih => rw [List.getLast?_cons, ih]; rfl
theorem Pth.len {t : T} {x : Nat} {ρ : List Nat} (h : Pth t x ρ) : ρ.length ≤ t.ls.length := by
  induction h with
  | here => simp [T.ls]; omega
  | lf h ih => simp [T.ls]; omega
  | rg h ih => simp [T.ls]; omega
/-- The node above the first one of a part of the way. -/
def abv (p : Int) (ρ : List Nat) : Int := match ρ.getLast? with | some y => y | none => p
theorem abv_nil (p : Int) : abv p [] = p := rfl
theorem abv_snoc (p : Int) (ρ : List Nat) (y : Nat) : abv p (ρ ++ [y]) = y := by simp [abv]
theorem abv_cons (p : Int) (ρ : List Nat) (y : Nat) : abv p (y :: ρ) = abv y ρ := by
  unfold abv; rw [List.getLast?_cons]; cases ρ.getLast? <;> rfl
theorem Pth.up {s : S} {v : Nat → Int} {t : T} {x : Nat} {ρ : List Nat} (h : Pth t x ρ) : ∀ {p : Int}, Rep s v p t → ∀ ρ1 y ρ2, ρ = ρ1 ++ y :: ρ2 → s.up y = abv p ρ1 := by
  induction h with
  | here =>
    intro p hR ρ1 y ρ2 e
    cases ρ1 with
    | nil => injection e with e1 e2; subst e1; exact hR.1.up
    | cons a ρ1 => simp at e
  | lf h ih =>
    intro p hR ρ1 y ρ2 e
    cases ρ1 with
    | nil => injection e with e1 e2; subst e1; exact hR.1.up
    | cons a ρ1 => injection e with e1 e2; subst e1; rw [abv_cons]; exact ih hR.2.1 _ _ _ e2
  | rg h ih =>
    intro p hR ρ1 y ρ2 e
    cases ρ1 with
    | nil => injection e with e1 e2; subst e1; exact hR.1.up
    | cons a ρ1 => injection e with e1 e2; subst e1; rw [abv_cons]; exact ih hR.2.2 _ _ _ e2
/-- One step of the way down, behind a push. -/
theorem Pth.step {u : T} {x y : Nat} {ρ : List Nat} (h : Pth u x (y :: ρ)) : ∃ l b r, u = .node l y b r ∧
    ((ρ = [] ∧ x = y) ∨ ∃ (f : Fr) (u' : T), f.p = y ∧ f.b = false ∧ pushT l y b r = f.fill u' ∧ Pth u' x ρ) := by
  cases h with
  | here => exact ⟨_, _, _, rfl, .inl ⟨rfl, rfl⟩⟩
  | lf h =>
    rename_i l r b
    refine ⟨l, b, r, rfl, .inr ?_⟩
    cases b
    · exact ⟨⟨true, y, false, r⟩, l, rfl, rfl, by simp [pushT, Fr.fill], h⟩
    · exact ⟨⟨false, y, false, r.flip⟩, l.flip, rfl, rfl, by simp [pushT, Fr.fill], h.flip⟩
  | rg h =>
    rename_i l r b
    refine ⟨l, b, r, rfl, .inr ?_⟩
    cases b
    · exact ⟨⟨false, y, false, l⟩, r, rfl, rfl, by simp [pushT, Fr.fill], h⟩
    · exact ⟨⟨true, y, false, l.flip⟩, r.flip, rfl, rfl, by simp [pushT, Fr.fill], h.flip⟩
end Seq
end Go.Proofs.YtledchlbmilneaaDoor
