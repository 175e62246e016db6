/-
Maps as lists of darts round vertices, in plain mathematics: how many edges two sets part.
Conditions: those that each theorem states.
-/
import Derived.Test.YtdamhidnlfjkdaaGreatDoorGWeb
namespace Go.Proofs.YtdamhidnlfjkdaaGreatDoor
open Go
set_option linter.unusedVariables false
set_option linter.unusedSimpArgs false
namespace Core
open Go.Proofs.YtdamhidnlfjkdaaGreatDoor.Seq Go.Proofs.YtdamhidnlfjkdaaGreatDoor.Cut Go.Proofs.YtdamhidnlfjkdaaGreatDoor.Web
/-- The other dart of an edge. -/
def tw (d : Nat) : Nat := if d % 2 = 0 then d + 1 else d - 1
theorem tw_tw (d : Nat) : tw (tw d) = d := by unfold tw; split <;> split <;> omega
theorem tw_even (e : Nat) : tw (2 * e) = 2 * e + 1 := by unfold tw; rw [if_pos (by omega)]
theorem tw_odd (e : Nat) : tw (2 * e + 1) = 2 * e := by unfold tw; rw [if_neg (by omega)]; omega
/-- What stands behind an item in a list that goes round. -/
def nxt (l : List Nat) (d : Nat) : Nat := match l.idxOf? d with
  | some i => l.getD ((i + 1) % l.length) d
  | none => d
theorem idxOf?_at {l : List Nat} {d i : Nat} (hn : l.Nodup) (h : l[i]? = some d) : l.idxOf? d = some i := by
  induction l generalizing i with
  | nil => simp at h
  | cons x l ih =>
    rw [List.idxOf?_cons]
    cases i with
    | zero => simp at h; subst h; simp
    | succ i =>
      simp at h
      have hne : x ≠ d := fun e => (List.nodup_cons.1 hn).1 (e ▸ List.mem_of_getElem? h)
      have hb : (x == d) = false := by simpa using hne
      rw [hb, ih (List.nodup_cons.1 hn).2 h]; rfl
theorem nxt_at {l : List Nat} {d i : Nat} (hn : l.Nodup) (h : l[i]? = some d) : nxt l d = l.getD ((i + 1) % l.length) d := by
  unfold nxt; rw [idxOf?_at hn h]
/-- A list's items, each replaced by the next one, are the list turned by one. -/
theorem map_nxt {x : Nat} {l : List Nat} (hn : (x :: l).Nodup) : (x :: l).map (nxt (x :: l)) = l ++ [x] := by
  refine List.ext_getElem? fun i => ?_
  rw [List.getElem?_map]
  by_cases hi : i < (x :: l).length
  · have h1 := List.getElem?_eq_getElem hi
    rw [h1, Option.map_some, nxt_at hn h1]
    simp only [List.length_cons] at hi ⊢
    by_cases he : i = l.length
    · subst he
      rw [Nat.mod_self, List.getElem?_append_right (Nat.le_refl _)]
      simp
    · rw [Nat.mod_eq_of_lt (by omega), List.getElem?_append_left (by omega)]
      have hil : i < l.length := by omega
      simp [List.getD_eq_getElem?_getD, List.getElem?_eq_getElem hil]
  · rw [List.getElem?_eq_none (by omega), List.getElem?_eq_none (by simp at hi ⊢; omega)]; rfl
theorem map_nxt_perm {l : List Nat} (hn : l.Nodup) : (l.map (nxt l)).Perm l := by
  cases l with
  | nil => exact List.Perm.refl _
  | cons x l =>
    rw [map_nxt hn]
    exact (List.perm_append_comm (l₁ := l) (l₂ := [x]))
theorem nxt_mem {l : List Nat} {d : Nat} (hn : l.Nodup) (h : d ∈ l) : nxt l d ∈ l := by
  have := (map_nxt_perm hn).mem_iff (a := nxt l d)
  exact this.1 (List.mem_map.2 ⟨d, h, rfl⟩)
/-- All darts, vertex by vertex. -/
def dl (tl : Nat → List Nat) (N : Nat) : List Nat := (List.range N).flatMap tl
/-- Darts that stand round N vertices, each but once. -/
structure ND (N : Nat) (tl : Nat → List Nat) : Prop where
  nd : (dl tl N).Nodup
  lt : ∀ d ∈ dl tl N, d < 2 * N
/-- A map: of each edge both darts, or none. -/
structure MP (N : Nat) (tl : Nat → List Nat) : Prop extends ND N tl where
  tw : ∀ d ∈ dl tl N, tw d ∈ dl tl N
/-- The vertex of a dart. -/
def og (tl : Nat → List Nat) (N d : Nat) : Nat := ((List.range N).find? fun v => decide (d ∈ tl v)).getD 0
/-- The next dart round the vertex. -/
def sg (tl : Nat → List Nat) (N d : Nat) : Nat := if d ∈ dl tl N then nxt (tl (og tl N d)) d else d
section
variable {N a b d e v z : Nat} {tl : Nat → List Nat} {f g : Nat → Nat}
theorem mem_dl : d ∈ dl tl N ↔ ∃ v, v < N ∧ d ∈ tl v := by simp [dl]
theorem fm_nodup {f : Nat → List Nat} : ∀ {l : List Nat}, (l.flatMap f).Nodup → (∀ x ∈ l, (f x).Nodup) ∧ ∀ {x y d : Nat}, l.Nodup → x ∈ l → y ∈ l → d ∈ f x → d ∈ f y → x = y
  | [], _ => ⟨fun x h => (by cases h), fun _ h => (by cases h)⟩
  | a :: l, h => by
    rw [List.flatMap_cons, List.nodup_append] at h
    obtain ⟨h1, h2, h3⟩ := h
    obtain ⟨h4, h5⟩ := fm_nodup h2
    refine ⟨fun x hx => ?_, fun {x y d} hl hx hy hdx hdy => ?_⟩
    · rcases List.mem_cons.1 hx with rfl | hx
      · exact h1
      · exact h4 x hx
    · rw [List.nodup_cons] at hl
      rcases List.mem_cons.1 hx with ex | kx <;> rcases List.mem_cons.1 hy with ey | ky
      · rw [ex, ey]
      · subst ex; exact absurd rfl (h3 d hdx d (List.mem_flatMap.2 ⟨y, ky, hdy⟩))
      · subst ey; exact absurd rfl (h3 d hdy d (List.mem_flatMap.2 ⟨x, kx, hdx⟩))
      · exact h5 hl.2 kx ky hdx hdy
theorem ND.nodup (h : ND N tl) (hv : v < N) : (tl v).Nodup := (fm_nodup h.nd).1 v (List.mem_range.2 hv)
theorem ND.uniq {u : Nat} (h : ND N tl) (hu : u < N) (hv : v < N) (h1 : d ∈ tl u) (h2 : d ∈ tl v) : u = v :=
  (fm_nodup h.nd).2 List.nodup_range (List.mem_range.2 hu) (List.mem_range.2 hv) h1 h2
theorem og_spec (hd : d ∈ dl tl N) : og tl N d < N ∧ d ∈ tl (og tl N d) := by
  obtain ⟨v, hv, hdv⟩ := mem_dl.1 hd
  unfold og
  cases hf : (List.range N).find? fun v => decide (d ∈ tl v) with
  | none =>
    rw [List.find?_eq_none] at hf
    exact absurd hdv (by simpa using hf v (List.mem_range.2 hv))
  | some u =>
    have h1 := List.find?_some hf
    have h2 := List.mem_of_find?_eq_some hf
    exact ⟨List.mem_range.1 h2, by simpa using h1⟩
theorem ND.ogE (h : ND N tl) (hv : v < N) (hd : d ∈ tl v) : Core.og tl N d = v := by
  have := og_spec (mem_dl.2 ⟨v, hv, hd⟩)
  exact h.uniq this.1 hv this.2 hd
theorem ND.sgE (h : ND N tl) (hv : v < N) (hd : d ∈ tl v) : Core.sg tl N d = nxt (tl v) d := by unfold Core.sg; rw [if_pos (mem_dl.2 ⟨v, hv, hd⟩), h.ogE hv hd]
theorem ND.sg_mem (h : ND N tl) (hd : d ∈ dl tl N) : Core.sg tl N d ∈ dl tl N ∧ Core.og tl N (Core.sg tl N d) = Core.og tl N d := by
  obtain ⟨h1, h2⟩ := og_spec hd
  have h3 : Core.sg tl N d ∈ tl (Core.og tl N d) := by unfold Core.sg; rw [if_pos hd]; exact nxt_mem (h.nodup h1) h2
  exact ⟨mem_dl.2 ⟨_, h1, h3⟩, h.ogE h1 h3⟩
theorem ND.sg_perm (h : ND N tl) : ((dl tl N).map (Core.sg tl N)).Perm (dl tl N) := by
  have key : ∀ l : List Nat, (∀ v ∈ l, v < N) → ((l.flatMap tl).map (Core.sg tl N)).Perm (l.flatMap tl) := by
    intro l
    induction l with
    | nil => intro _; exact List.Perm.refl _
    | cons v l ih =>
      intro hl
      rw [List.flatMap_cons, List.map_append]
      refine List.Perm.append ?_ (ih fun u hu => hl u (List.mem_cons_of_mem _ hu))
      have hv := hl v (by simp)
      have e : (tl v).map (Core.sg tl N) = (tl v).map (nxt (tl v)) := List.map_congr_left fun d hd => h.sgE hv hd
      rw [e]
      exact map_nxt_perm (h.nodup hv)
  exact key _ fun v hv => List.mem_range.1 hv
/-- An edge is laid. -/
def Laid (tl : Nat → List Nat) (N e : Nat) : Prop := 2 * e ∈ dl tl N
theorem MP.odd (h : MP N tl) (he : Laid tl N e) : 2 * e + 1 ∈ dl tl N := by rw [← tw_even]; exact h.tw _ he
theorem MP.laid (h : MP N tl) (hd : d ∈ dl tl N) : Laid tl N (d / 2) := by
  by_cases h2 : d % 2 = 0
  · have : 2 * (d / 2) = d := by omega
    unfold Laid; rw [this]; exact hd
  · have h3 := h.tw d hd
    unfold Core.tw at h3
    rw [if_neg h2] at h3
    have : 2 * (d / 2) = d - 1 := by omega
    unfold Laid; rw [this]; exact h3
theorem MP.laid_lt (h : MP N tl) (he : Laid tl N e) : e < N := by have := h.lt _ he; omega
/-- The laid edges. -/
def el (tl : Nat → List Nat) (N : Nat) : List Nat := (List.range N).filter fun e => decide (2 * e ∈ dl tl N)
theorem MP.mem_el (h : MP N tl) : e ∈ el tl N ↔ Laid tl N e := by
  unfold el Laid
  rw [List.mem_filter, List.mem_range, decide_eq_true_iff]
  exact ⟨fun h => h.2, fun k => ⟨h.laid_lt k, k⟩⟩
theorem MP.el_nd : (el tl N).Nodup := List.Nodup.sublist List.filter_sublist List.nodup_range
theorem MP.el_perm (h : MP N tl) : ((el tl N).flatMap fun e => [2 * e, 2 * e + 1]).Perm (dl tl N) := by
  refine (List.perm_ext_iff_of_nodup ?_ h.nd).2 fun d => ?_
  · have : ∀ l : List Nat, l.Nodup → (l.flatMap fun e => [2 * e, 2 * e + 1]).Nodup := by
      intro l
      induction l with
      | nil => intro _; exact List.nodup_nil
      | cons x l ih =>
        intro hn
        rw [List.nodup_cons] at hn
        rw [List.flatMap_cons, List.nodup_append]
        refine ⟨by simp, ih hn.2, fun a ha b hb e => ?_⟩
        subst e
        obtain ⟨y, hy, hay⟩ := List.mem_flatMap.1 hb
        simp at ha hay
        have : x = y := by omega
        exact hn.1 (this ▸ hy)
    exact this _ MP.el_nd
  · rw [List.mem_flatMap]
    constructor
    · rintro ⟨e, he, hd⟩
      have hl := h.mem_el.1 he
      simp at hd
      rcases hd with rfl | rfl
      · exact hl
      · exact h.odd hl
    · intro hd
      refine ⟨d / 2, h.mem_el.2 (h.laid hd), ?_⟩
      simp
      omega
def b2n (b : Bool) : Nat := if b then 1 else 0
theorem count_par {x1 x2 z1 z2 : Bool} : ∃ k, b2n (x1 && z1) + b2n (x2 && z2) + (b2n (x1 && z2) + b2n (x2 && z1)) = b2n ((x1 != x2) && (z1 != z2)) + 2 * k := by
  cases x1 <;> cases x2 <;> cases z1 <;> cases z2 <;> simp [b2n] <;> (try exact ⟨0, rfl⟩) <;> (try exact ⟨1, rfl⟩) <;> exact ⟨2, rfl⟩
/-- Of edges whose ends one set parts, and whose darts another one that is closed round faces, there is an even number. -/
theorem MP.par (h : MP N tl) (X Z : Nat → Bool) (hZ : ∀ d ∈ dl tl N, Z (Core.sg tl N (Core.tw d)) = Z d) :
    ∃ k, ((el tl N).map fun e => b2n ((X (Core.og tl N (2 * e)) != X (Core.og tl N (2 * e + 1))) && (Z (2 * e) != Z (2 * e + 1)))).sum = 2 * k := by
  let G : Nat → Nat := fun d => b2n (X (Core.og tl N d) && Z d)
  let H : Nat → Nat := fun d => b2n (X (Core.og tl N d) && Z (Core.tw d))
  have h1 : ((dl tl N).map H).sum = ((dl tl N).map G).sum := by
    have e1 : (dl tl N).map H = ((dl tl N).map (Core.sg tl N)).map G := by
      rw [List.map_map]
      refine List.map_congr_left fun d hd => ?_
      show b2n (X (Core.og tl N d) && Z (Core.tw d)) = b2n (X (Core.og tl N (Core.sg tl N d)) && Z (Core.sg tl N d))
      rw [(h.sg_mem hd).2, ← hZ (Core.tw d) (h.tw d hd), tw_tw]
    rw [e1]
    exact (h.sg_perm.map G).sum_nat
  have h2 : ∀ (F : Nat → Nat), ((dl tl N).map F).sum = ((el tl N).map fun e => F (2 * e) + F (2 * e + 1)).sum := by
    intro F
    rw [← (h.el_perm.map F).sum_nat]
    induction (el tl N) with
    | nil => rfl
    | cons x l ih => rw [List.flatMap_cons, List.map_append, List.sum_append_nat, ih]; simp
  have h3 : ∃ k, ((el tl N).map fun e => G (2 * e) + G (2 * e + 1)).sum + ((el tl N).map fun e => H (2 * e) + H (2 * e + 1)).sum =
      ((el tl N).map fun e => b2n ((X (Core.og tl N (2 * e)) != X (Core.og tl N (2 * e + 1))) && (Z (2 * e) != Z (2 * e + 1)))).sum + 2 * k := by
    induction (el tl N) with
    | nil => exact ⟨0, rfl⟩
    | cons x l ih =>
      obtain ⟨k, hk⟩ := ih
      obtain ⟨k2, hk2⟩ := count_par (x1 := X (Core.og tl N (2 * x))) (x2 := X (Core.og tl N (2 * x + 1))) (z1 := Z (2 * x)) (z2 := Z (2 * x + 1))
      refine ⟨k + k2, ?_⟩
      simp only [List.map_cons, List.sum_cons]
      have e1 : H (2 * x) = b2n (X (Core.og tl N (2 * x)) && Z (2 * x + 1)) := by show b2n (X _ && Z (Core.tw (2 * x))) = _; rw [tw_even]
      have e2 : H (2 * x + 1) = b2n (X (Core.og tl N (2 * x + 1)) && Z (2 * x)) := by show b2n (X _ && Z (Core.tw (2 * x + 1))) = _; rw [tw_odd]
      rw [e1, e2]
      show b2n (X (Core.og tl N (2 * x)) && Z (2 * x)) + b2n (X (Core.og tl N (2 * x + 1)) && Z (2 * x + 1)) + _ + _ = _
      omega
  obtain ⟨k, hk⟩ := h3
  rw [← h2 G, ← h2 H, h1] at hk
  exact ⟨((dl tl N).map G).sum - k, by omega⟩
end
end Core
end Go.Proofs.YtdamhidnlfjkdaaGreatDoor
/-
Cycles that follow a function, in plain mathematics: what becomes of it where cycles are joined and cut.
Conditions: those that each theorem states.
-/
namespace Go.Proofs.YtdamhidnlfjkdaaGreatDoor
open Go
set_option linter.unusedVariables false
set_option linter.unusedSimpArgs false
namespace Core
open Go.Proofs.YtdamhidnlfjkdaaGreatDoor.Seq Go.Proofs.YtdamhidnlfjkdaaGreatDoor.Cut Go.Proofs.YtdamhidnlfjkdaaGreatDoor.Web
section
variable {a b d e v x y z p : Nat} {A B l : List Nat} {q q' : List (List Nat)} {f g : Nat → Nat}
/-- Two items swapped. -/
def sw (x y z : Nat) : Nat := if z = x then y else if z = y then x else z
theorem sw_l : sw x y x = y := by unfold sw; rw [if_pos rfl]
theorem sw_r : sw x y y = x := by unfold sw; rw [if_pos rfl]; split <;> omega
theorem sw_o (h1 : z ≠ x) (h2 : z ≠ y) : sw x y z = z := by unfold sw; rw [if_neg h1, if_neg h2]
theorem sw_sw : sw x y (sw x y z) = z := by
  by_cases h1 : z = x
  · rw [h1, sw_l, sw_r]
  · by_cases h2 : z = y
    · rw [h2, sw_r, sw_l]
    · rw [sw_o h1 h2, sw_o h1 h2]
/-- Neighbours of a list that goes round. -/
def Cy (A : List Nat) (x y : Nat) : Prop := Web.Nx A x y ∨ (A.getLast? = some x ∧ A.head? = some y)
theorem Cy.mem (h : Cy A x y) : x ∈ A ∧ y ∈ A := by
  rcases h with h | ⟨h1, h2⟩
  · exact h.mem
  · exact ⟨List.mem_of_getLast? h1, List.mem_of_head? h2⟩
theorem last_app (hB : B.head? = some b) : (A ++ B).getLast? = B.getLast? := by
  cases B with
  | nil => cases hB
  | cons c B => rw [List.getLast?_append]; rw [List.getLast?_eq_some_getLast (by simp)]; rfl
theorem head_app (hA : A.head? = some a) : (A ++ B).head? = some a := by rw [List.head?_append, hA]; rfl
theorem cy_append (hA : A.head? = some a) (hB : B.head? = some b) : Cy (A ++ B) x y ↔ (Web.Nx A x y ∨ (A.getLast? = some x ∧ y = b)) ∨ (Web.Nx B x y ∨ (B.getLast? = some x ∧ y = a)) := by
  unfold Cy
  rw [Web.Nx.append, last_app hB, head_app hA, hB]
  simp only [Option.some.injEq]
  constructor
  · rintro ((h | h | ⟨h, e⟩) | ⟨h, e⟩)
    · exact .inl (.inl h)
    · exact .inr (.inl h)
    · exact .inl (.inr ⟨h, e.symm⟩)
    · exact .inr (.inr ⟨h, e.symm⟩)
  · rintro ((h | ⟨h, e⟩) | (h | ⟨h, e⟩))
    · exact .inl (.inl h)
    · exact .inl (.inr (.inr ⟨h, e.symm⟩))
    · exact .inl (.inr (.inl h))
    · exact .inr ⟨h, e.symm⟩
theorem nx_ne (hn : A.Nodup) (hA : A.head? = some a) (h : Web.Nx A x y) : y ≠ a := by
  cases A with
  | nil => cases hA
  | cons c A =>
    simp at hA
    subst hA
    have : y ∈ A := by
      rcases h with ⟨_, h⟩ | h
      · exact List.mem_of_head? h
      · exact h.mem.2
    rintro rfl
    exact (List.nodup_cons.1 hn).1 this
/-- The cycles follow a function. -/
def FQ (f : Nat → Nat) (q : List (List Nat)) : Prop := ∀ A ∈ q, ∀ x y, Cy A x y → f x = y
theorem FQ.perm (h : FQ f q) (p : q.Perm q') : FQ f q' := fun A hA => h A (p.mem_iff.2 hA)
theorem FQ.congr (h : FQ f q) (k : ∀ A ∈ q, ∀ x ∈ A, g x = f x) : FQ g q := fun A hA x y c => (k A hA x c.mem.1).trans (h A hA x y c)
theorem fq_cons : FQ f (A :: q) ↔ (∀ x y, Cy A x y → f x = y) ∧ FQ f q :=
  ⟨fun h => ⟨h A (by simp), fun B hB => h B (by simp [hB])⟩, fun h B hB => by rcases List.mem_cons.1 hB with rfl | hB; exact h.1; exact h.2 B hB⟩
/-- Two cycles joined, or one cut in two: the function's two answers are swapped. -/
theorem fq_join (hA : A.head? = some a) (hB : B.head? = some b) (hd : (A ++ B).Nodup) :
    (∀ x y, Cy (A ++ B) x y → sw a b (f x) = y) ↔ ((∀ x y, Cy A x y → f x = y) ∧ ∀ x y, Cy B x y → f x = y) := by
  obtain ⟨hnA, hnB, hAB⟩ := List.nodup_append.1 hd
  have ha := List.mem_of_head? hA
  have hb := List.mem_of_head? hB
  have oA : ∀ {x y}, Web.Nx A x y → y ≠ a ∧ y ≠ b := fun h => ⟨nx_ne hnA hA h, fun e => hAB _ h.mem.2 b hb e⟩
  have oB : ∀ {x y}, Web.Nx B x y → y ≠ a ∧ y ≠ b := fun h => ⟨fun e => hAB a ha _ h.mem.2 e.symm, nx_ne hnB hB h⟩
  have inj : ∀ {u y : Nat}, sw a b u = y → u = sw a b y := fun h => by rw [← h, sw_sw]
  constructor
  · intro h
    refine ⟨fun x y k => ?_, fun x y k => ?_⟩
    · rcases k with k | ⟨k1, k2⟩
      · have := inj (h x y ((cy_append hA hB).2 (.inl (.inl k))))
        rwa [sw_o (oA k).1 (oA k).2] at this
      · have := inj (h x b ((cy_append hA hB).2 (.inl (.inr ⟨k1, rfl⟩))))
        rw [sw_r] at this
        rw [hA] at k2
        rw [this]; exact Option.some.inj k2
    · rcases k with k | ⟨k1, k2⟩
      · have := inj (h x y ((cy_append hA hB).2 (.inr (.inl k))))
        rwa [sw_o (oB k).1 (oB k).2] at this
      · have := inj (h x a ((cy_append hA hB).2 (.inr (.inr ⟨k1, rfl⟩))))
        rw [sw_l] at this
        rw [hB] at k2
        rw [this]; exact Option.some.inj k2
  · rintro ⟨h1, h2⟩ x y k
    rcases (cy_append hA hB).1 k with (k | ⟨k, rfl⟩) | (k | ⟨k, rfl⟩)
    · rw [h1 x y (.inl k), sw_o (oA k).1 (oA k).2]
    · rw [h1 x a (.inr ⟨k, hA⟩), sw_l]
    · rw [h2 x y (.inl k), sw_o (oB k).1 (oB k).2]
    · rw [h2 x b (.inr ⟨k, hB⟩), sw_r]
theorem FQ.others (hd : ∀ x ∈ q.flatten, x ≠ a ∧ x ≠ b) : FQ (fun x => sw a b (f x)) q ↔ FQ f q := by
  have inj : ∀ {u y : Nat}, sw a b u = y → u = sw a b y := fun h => by rw [← h, sw_sw]
  constructor
  · intro h A hA x y k
    have hy := hd y (List.mem_flatten.2 ⟨A, hA, k.mem.2⟩)
    have := inj (h A hA x y k)
    rwa [sw_o hy.1 hy.2] at this
  · intro h A hA x y k
    have hy := hd y (List.mem_flatten.2 ⟨A, hA, k.mem.2⟩)
    show sw a b (f x) = y
    rw [h A hA x y k, sw_o hy.1 hy.2]
theorem FQ.join (hA : A.head? = some a) (hB : B.head? = some b) (hd : (A ++ B ++ q.flatten).Nodup) : FQ (fun x => sw a b (f x)) ((A ++ B) :: q) ↔ FQ f (A :: B :: q) := by
  obtain ⟨h1, h2, h3⟩ := List.nodup_append.1 hd
  rw [fq_cons, fq_cons, fq_cons, fq_join hA hB h1, and_assoc, FQ.others]
  exact fun x hx => ⟨fun e => h3 a (by simp [List.mem_of_head? hA]) x hx e.symm, fun e => h3 b (by simp [List.mem_of_head? hB]) x hx e.symm⟩
/-! ## A dart put into a list, and taken out of it -/
end
end Core
end Go.Proofs.YtdamhidnlfjkdaaGreatDoor
/-
Maps in plain mathematics: what becomes of origins, of what stands next, and of faces, where darts are put and taken.
Conditions: those that each theorem states.
-/
namespace Go.Proofs.YtdamhidnlfjkdaaGreatDoor
open Go
set_option linter.unusedVariables false
set_option linter.unusedSimpArgs false
namespace Core
open Go.Proofs.YtdamhidnlfjkdaaGreatDoor.Seq Go.Proofs.YtdamhidnlfjkdaaGreatDoor.Cut Go.Proofs.YtdamhidnlfjkdaaGreatDoor.Web
section
variable {N a b d e t v x y z u p : Nat} {l : List Nat} {tl tl' : Nat → List Nat} {be : Int}
/-- The next dart round the face; what is not laid stays. -/
def ph (tl : Nat → List Nat) (N d : Nat) : Nat := if d ∈ dl tl N then sg tl N (tw d) else d
end
end Core
end Go.Proofs.YtdamhidnlfjkdaaGreatDoor
/-
Maps in plain mathematics: the faces of a map with an edge more, and with one less, as answers that are swapped.
Conditions: those that each theorem states.
-/
namespace Go.Proofs.YtdamhidnlfjkdaaGreatDoor
open Go
set_option linter.unusedVariables false
set_option linter.unusedSimpArgs false
namespace Core
open Go.Proofs.YtdamhidnlfjkdaaGreatDoor.Seq Go.Proofs.YtdamhidnlfjkdaaGreatDoor.Cut Go.Proofs.YtdamhidnlfjkdaaGreatDoor.Web
section
variable {N b c e v w x y z X Y : Nat} {tl : Nat → List Nat} {be ce : Int}
end
end Core
end Go.Proofs.YtdamhidnlfjkdaaGreatDoor
/-
Links of faces and ties, and of marked edges, without the nodes between them; what two sets part, of a map and its two forests.
Conditions: those that each theorem states.
-/
namespace Go.Proofs.YtdamhidnlfjkdaaGreatDoor
open Go
set_option linter.unusedVariables false
set_option linter.unusedSimpArgs false
namespace Core
open Go.Proofs.YtdamhidnlfjkdaaGreatDoor.Seq Go.Proofs.YtdamhidnlfjkdaaGreatDoor.Cut Go.Proofs.YtdamhidnlfjkdaaGreatDoor.Web
section
variable {a b c d e f g n u v x y z : Nat} {A B0 : List Nat} {q q' : List (List Nat)} {D D' B B' : Nat → Option (Nat × Nat)} {E E' : Nat → Nat → Prop}
/-- Of one face. -/
def SF (q : List (List Nat)) (x y : Nat) : Prop := ∃ A ∈ q, x ∈ A ∧ y ∈ A
/-- Tied. -/
def TE (D : Nat → Option (Nat × Nat)) (x y : Nat) : Prop := ∃ e, D e = some (x, y) ∨ D e = some (y, x)
/-- Linked by faces and ties. -/
def LK (q : List (List Nat)) (D : Nat → Option (Nat × Nat)) : Nat → Nat → Prop := RT (fun x y => SF q x y ∨ TE D x y)
theorem SF.symm (h : SF q x y) : SF q y x := by obtain ⟨A, h1, h2, h3⟩ := h; exact ⟨A, h1, h3, h2⟩
theorem TE.symm (h : TE D x y) : TE D y x := by obtain ⟨e, h⟩ := h; exact ⟨e, h.symm⟩
theorem LK.refl : LK q D x x := RT.refl
theorem LK.trans (h : LK q D x y) (k : LK q D y z) : LK q D x z := RT.trans h k
theorem LK.symm (h : LK q D x y) : LK q D y x := RT.symm (fun x y h => h.imp SF.symm TE.symm) h
theorem LK.mono (hq : ∀ x y, SF q x y → SF q' x y) (hD : ∀ e p, D e = some p → D' e = some p) (h : LK q D x y) : LK q' D' x y :=
  RT.mono (fun x y k => k.imp (hq x y) fun ⟨e, k⟩ => ⟨e, k.imp (hD e _) (hD e _)⟩) h
theorem SF.perm (p : q.Perm q') (h : SF q x y) : SF q' x y := by obtain ⟨A, h1, h2⟩ := h; exact ⟨A, p.mem_iff.1 h1, h2⟩
end
end Core
end Go.Proofs.YtdamhidnlfjkdaaGreatDoor
/-
A map and its two forests, in plain mathematics: what holds between acts, and what follows.
Conditions: those that each theorem states.
-/
namespace Go.Proofs.YtdamhidnlfjkdaaGreatDoor
open Go
set_option linter.unusedVariables false
set_option linter.unusedSimpArgs false
namespace Core
open Go.Proofs.YtdamhidnlfjkdaaGreatDoor.Seq Go.Proofs.YtdamhidnlfjkdaaGreatDoor.Cut Go.Proofs.YtdamhidnlfjkdaaGreatDoor.Web
/-- A map, its faces, its marked edges (B) and its ties (D); some edges may be neither. -/
structure CB (lim : Nat → Prop) (N : Nat) (tl : Nat → List Nat) (q : List (List Nat)) (B D : Nat → Option (Nat × Nat)) : Prop where
  mp : MP N tl
  fq : FQ (ph tl N) q
  nd : q.flatten.Nodup
  al : ∀ x, x < 3 * N → ∃ A ∈ q, x ∈ A
  lt : ∀ x ∈ q.flatten, x < 3 * N
  bB : ∀ i p, B i = some p → Laid tl N i ∧ p = (og tl N (2 * i), og tl N (2 * i + 1)) ∧ p.1 ≠ p.2
  bD : ∀ i p, D i = some p → Laid tl N i ∧ p = (2 * i, 2 * i + 1)
  ex : ∀ i, B i = none ∨ D i = none
  li : ∀ i, lim i → B i = none ∧ D i = none
  cov : ∀ i, Laid tl N i → lim i ∨ (B i).isSome ∨ (D i).isSome
/-- Each marked edge is less than all ties that part with it what it joins. -/
def MM (N : Nat) (tl : Nat → List Nat) (B D : Nat → Option (Nat × Nat)) (key : Nat → Int) (but : Nat → Prop) : Prop :=
  ∀ g f p r, ¬ but g → B g = some p → D f = some r → ¬ LK [] (upd B g none) (og tl N (2 * f)) (og tl N (2 * f + 1)) → key g < key f
section
variable {N a b c d e f g o u v x y z : Nat} {lim lim' : Nat → Prop} {tl tl' : Nat → List Nat} {q q' : List (List Nat)} {B B' D D' : Nat → Option (Nat × Nat)} {key key' : Nat → Int}
theorem CB.no (h : CB lim N tl q B D) (hl : Laid tl N e) (h1 : B e = none) (h2 : D e = none) : lim e := by
  rcases h.cov e hl with k | k | k
  · exact k
  · rw [h1] at k; cases k
  · rw [h2] at k; cases k
/-! ## The marks' order -/
theorem MM.mono {but but' : Nat → Prop} (h : MM N tl B D key but) (hb : ∀ g, but g → but' g) : MM N tl B D key but' := fun g f p r k => h g f p r fun j => k (hb g j)
end
end Core
end Go.Proofs.YtdamhidnlfjkdaaGreatDoor
/-
A map and its two forests, in plain mathematics: what acts make of it; sums.
Conditions: those that each theorem states.
-/
namespace Go.Proofs.YtdamhidnlfjkdaaGreatDoor
open Go
set_option linter.unusedVariables false
set_option linter.unusedSimpArgs false
namespace Core
open Go.Proofs.YtdamhidnlfjkdaaGreatDoor.Seq Go.Proofs.YtdamhidnlfjkdaaGreatDoor.Cut Go.Proofs.YtdamhidnlfjkdaaGreatDoor.Web
section
variable {N a b c d e f g o u v w x y z n : Nat} {be ce : Int} {lim lim' : Nat → Prop} {tl tl' : Nat → List Nat} {q q' : List (List Nat)} {B B' D D' : Nat → Option (Nat × Nat)} {key key' : Nat → Int}
/-! ## Sums -/
def sm (f : Nat → Int) : Nat → Int
  | 0 => 0
  | n + 1 => sm f n + f n
theorem sm_congr {f g : Nat → Int} (h : ∀ i, i < n → f i = g i) : sm f n = sm g n := by
  induction n with
  | zero => rfl
  | succ n ih => unfold sm; rw [ih fun i hi => h i (by omega), h n (by omega)]
theorem sm_at {f g : Nat → Int} (he : e < n) (h : ∀ i, i ≠ e → f i = g i) : sm f n = sm g n - g e + f e := by
  induction n with
  | zero => omega
  | succ n ih =>
    unfold sm
    by_cases hn : n = e
    · subst hn
      rw [sm_congr fun i hi => h i (by omega)]; omega
    · rw [ih (by omega), h n hn]; omega
theorem sm_zero : sm (fun _ => 0) n = 0 := by
  induction n with
  | zero => rfl
  | succ n ih => unfold sm; rw [ih]; rfl
theorem sm_bound {f : Nat → Int} {m : Int} (h : ∀ i, i < n → 0 ≤ f i ∧ f i ≤ m) : 0 ≤ sm f n ∧ sm f n ≤ m * n := by
  induction n with
  | zero => simp [sm]
  | succ n ih =>
    obtain ⟨h1, h2⟩ := ih fun i hi => h i (by omega)
    have h3 := h n (by omega)
    unfold sm
    have e1 : m * ((n + 1 : Nat) : Int) = m * n + m := by rw [Int.natCast_succ, Int.mul_add, Int.mul_one]
    omega
/-- The edges' order: by weight, and then by number. -/
def ky (w : Int) (e : Nat) : Int := w * 1048576 + e
end
end Core
end Go.Proofs.YtdamhidnlfjkdaaGreatDoor
