/-
A search in breadth, in plain mathematics: what is reached from a node, and the road back.
Conditions: those that each theorem states.
-/
import Derived.Test.YtaoemljoiahapaaDoorLawCutCuts
namespace Go.Proofs.YtaoemljoiahapaaDoor
open Go
set_option linter.unusedVariables false
set_option linter.unusedSimpArgs false
namespace Cut
open Go.Proofs.YtaoemljoiahapaaDoor.Seq
/-- What is reached so far, in its order, and from where. -/
structure BF (n a : Nat) (E : Nat → Nat → Prop) (fr : Nat → Int) (all : List Nat) : Prop where
  nd : all.Nodup
  lt : ∀ x ∈ all, x < n
  hd : all[0]? = some a
  mem : ∀ x, x < n → (0 ≤ fr x ↔ x ∈ all)
  par : ∀ (j x : Nat), all[j]? = some x → x = a ∨ ∃ i y : Nat, i < j ∧ all[i]? = some y ∧ fr x = y ∧ E y x
section
variable {n a b x y i j : Nat} {E : Nat → Nat → Prop} {fr : Nat → Int} {all out l : List Nat}
theorem BF.push (h : BF n a E fr all) (hy : all[i]? = some y) (hE : E y x) (hx : x < n) (hf : fr x < 0) : BF n a E (upd fr x (y : Int)) (all ++ [x]) := by
  have hxn : x ∉ all := fun hm => by have := (h.mem x hx).2 hm; omega
  have hil := (List.getElem?_eq_some_iff.1 hy).1
  refine ⟨?_, ?_, ?_, ?_, ?_⟩
  · rw [List.nodup_append]
    exact ⟨h.nd, by simp, fun z hz u hu e => by simp at hu; subst hu; subst e; exact hxn hz⟩
  · intro z hz
    rcases List.mem_append.1 hz with hz | hz
    · exact h.lt z hz
    · simp at hz; subst hz; exact hx
  · rw [List.getElem?_append_left (by omega)]; exact h.hd
  · intro z hz
    unfold upd
    by_cases e : z = x
    · subst e; simp
    · rw [if_neg e, h.mem z hz]; simp [e]
  · intro j z hj
    by_cases hjl : j < all.length
    · rw [List.getElem?_append_left hjl] at hj
      have hzx : z ≠ x := fun e => hxn (e ▸ List.mem_of_getElem? hj)
      rcases h.par j z hj with e | ⟨i', y', h1, h2, h3, h4⟩
      · exact .inl e
      · exact .inr ⟨i', y', h1, by rw [List.getElem?_append_left (by omega)]; exact h2, by unfold upd; rw [if_neg hzx]; exact h3, h4⟩
    · have hlt := (List.getElem?_eq_some_iff.1 hj).1
      rw [List.length_append, List.length_singleton] at hlt
      have : j = all.length := by omega
      subst this
      simp at hj
      subst hj
      exact .inr ⟨i, y, hil, by rw [List.getElem?_append_left hil]; exact hy, by simp [upd], hE⟩
theorem closed_way (hc : ∀ x ∈ all, ∀ y, E x y → y ∈ all) : ∀ (l : List Nat) (a : Nat), l.head? = some a → a ∈ all → Lk E l → ∀ x ∈ l, x ∈ all := by
  intro l
  induction l with
  | nil => intro a h; simp at h
  | cons z l ih =>
    intro a h ha hl x hx
    simp at h; subst h
    rcases List.mem_cons.1 hx with rfl | hx
    · exact ha
    · cases l with
      | nil => cases hx
      | cons u l => exact ih u rfl (hc z ha u (hl.1 u rfl)) hl.2 x hx
/-- The road back, as far as it is. -/
structure OUT (E : Nat → Nat → Prop) (all : List Nat) (b : Nat) (out : List Nat) (j x : Nat) : Prop where
  hd : out.head? = some x
  at_ : all[j]? = some x
  la : out.getLast? = some b
  nd : out.Nodup
  lk : Lk E out
  ix : ∀ z ∈ out, ∃ i, j ≤ i ∧ all[i]? = some z
theorem OUT.start (h : all[j]? = some b) : OUT E all b [b] j b := ⟨rfl, h, rfl, by simp, ⟨fun y hy => by simp at hy, trivial⟩, fun z hz => by simp at hz; subst hz; exact ⟨j, Nat.le_refl _, h⟩⟩
theorem OUT.step (h : BF n a E fr all) (k : OUT E all b out j x) (hne : x ≠ a) : ∃ i y : Nat, i < j ∧ fr x = y ∧ y < n ∧ OUT E all b (y :: out) i y := by
  obtain ⟨i, y, hij, hi, hf, hE⟩ := (h.par j x k.at_).resolve_left hne
  refine ⟨i, y, hij, hf, h.lt y (List.mem_of_getElem? hi), rfl, hi, ?_, ?_, ?_, ?_⟩
  · rw [List.getLast?_cons, k.la]; rfl
  · refine List.nodup_cons.2 ⟨fun hm => ?_, k.nd⟩
    obtain ⟨i', h1, h2⟩ := k.ix y hm
    have := nd_inj h.nd hi h2
    omega
  · exact ⟨fun z hz => by rw [k.hd] at hz; cases hz; exact hE, k.lk⟩
  · intro z hz
    rcases List.mem_cons.1 hz with rfl | hz
    · exact ⟨i, Nat.le_refl _, hi⟩
    · obtain ⟨i', h1, h2⟩ := k.ix z hz
      exact ⟨i', by omega, h2⟩
theorem OUT.way (k : OUT E all b out j a) : Way E a b out := ⟨k.hd, k.la, k.nd, k.lk⟩
end
end Cut
end Go.Proofs.YtaoemljoiahapaaDoor
