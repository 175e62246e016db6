/-
A search in breadth over faces, in plain mathematics: the ties on the way from a face to another one.
Conditions: those that each theorem states.
-/
import Derived.Test.YtaoemljoiahapaaDoorGWeb
import Derived.Test.YtaoemljoiahapaaDoorLawBfs
import Derived.Test.YtaoemljoiahapaaDoorGRef
import Derived.Test.YtaoemljoiahapaaDoorVals
import Derived.Test.YtaoemljoiahapaaDoorGRefR
import Derived.Test.YtaoemljoiahapaaDoorGTold
namespace Go.Proofs.YtaoemljoiahapaaDoor
open Go
set_option linter.unusedVariables false
set_option linter.unusedSimpArgs false
namespace Web
open Go.Proofs.YtaoemljoiahapaaDoor.Seq Go.Proofs.YtaoemljoiahapaaDoor.Cut
/-- A tie: its number, its ends, its key. -/
structure Ti where
  e : Nat
  a : Nat
  b : Nat
  k : Int
/-- An item stands in the face at a place. -/
def At (X : List (List Nat)) (f x : Nat) : Prop := ∃ A, X[f]? = some A ∧ x ∈ A
/-- A list of ties, and which tie is tied where. -/
structure REL (D : Nat → Option (Nat × Nat)) (key : Nat → Int) (T : List Ti) : Prop where
  to : ∀ t ∈ T, D t.e = some (t.a, t.b) ∧ key t.e = t.k
  of : ∀ e a b, D e = some (a, b) → ∃ t ∈ T, t.e = e
  nd : (T.map (·.e)).Nodup
section
variable {n a b x y u z f g i k : Nat} {X : List (List Nat)} {D : Nat → Option (Nat × Nat)} {key : Nat → Int} {T : List Ti} {t t' : Ti} {l : List Nat} {A B : List Nat} {all : List Nat} {rd : Nat → List Ti}
theorem map_nd_inj {l : List Ti} (h : (l.map (·.e)).Nodup) {t t' : Ti} (h1 : t ∈ l) (h2 : t' ∈ l) (he : t.e = t'.e) : t = t' := by
  induction l with
  | nil => cases h1
  | cons s l ih =>
    simp only [List.map_cons, List.nodup_cons, List.mem_map, not_exists, not_and] at h
    rcases List.mem_cons.1 h1 with e1 | k1 <;> rcases List.mem_cons.1 h2 with e2 | k2
    · rw [e1, e2]
    · subst e1; exact absurd he.symm (h.1 _ k2)
    · subst e2; exact absurd he (h.1 _ k1)
    · exact ih h.2 k1 k2
theorem REL.inj (h : REL D key T) (h1 : t ∈ T) (h2 : t' ∈ T) (he : t.e = t'.e) : t = t' := map_nd_inj h.nd h1 h2 he
theorem at_uniq (h : X.flatten.Nodup) (h1 : At X f x) (h2 : At X g x) : f = g := by
  obtain ⟨A, hA, hx⟩ := h1
  obtain ⟨B, hB, hy⟩ := h2
  obtain ⟨i, hi⟩ := List.getElem?_of_mem hx
  obtain ⟨j, hj⟩ := List.getElem?_of_mem hy
  exact (flat_idx h hA hB hi hj).1
theorem at_lt (h : At X f x) : f < X.length := by
  obtain ⟨A, hA, _⟩ := h
  exact (List.getElem?_eq_some_iff.1 hA).1
theorem Lk.mono {E E' : Nat → Nat → Prop} (h : ∀ x y, E x y → E' x y) : ∀ {l : List Nat}, Lk E l → Lk E' l
  | [], _ => trivial
  | _ :: _, k => ⟨fun y hy => h _ _ (k.1 y hy), Lk.mono h k.2⟩
/-- Within a face. -/
theorem face_way (hA : A ∈ X) (hx : x ∈ A) (hy : y ∈ A) : ∃ l, Cut.Way (EW X D n) x y l ∧ ∀ z ∈ l, z ∈ A := by
  have hr : RT (EQ [A]) x y := face_rt (q := [A]) (A := A) (by simp) (fun u v h => h) hx hy
  obtain ⟨l, h1, h2, h3, h4⟩ := hr.way
  refine ⟨l, ⟨h1, h2, h3, Lk.mono (fun u v h => .inl ?_) h4⟩, closed_way (all := A) (E := EQ [A]) (fun u hu v h => ?_) l x h1 hx h4⟩
  · have := (eq_mem h).2
    simpa using this
  · obtain ⟨B, hB, h⟩ := h
    simp at hB; subst hB
    exact ⟨B, hA, h⟩
/-- What the search knows: the faces reached so far in their order, and for each the ties on the way there. -/
structure BW (n a : Nat) (X : List (List Nat)) (D : Nat → Option (Nat × Nat)) (T : List Ti) (all : List Nat) (rd : Nat → List Ti) : Prop where
  nd : all.Nodup
  lt : ∀ f ∈ all, f < X.length
  way : ∀ f ∈ all, ∀ u, At X f u → ∃ l, Cut.Way (EW X D n) a u l ∧ l.filter (fun z => decide (n ≤ z)) = (rd f).map (fun t => n + t.e) ∧ ∀ z ∈ l, z < n → ∃ g ∈ all, At X g z
  ties : ∀ f ∈ all, ∀ t ∈ rd f, t ∈ T ∧ ∀ g, (At X g t.a ∨ At X g t.b) → g ∈ all
theorem BW.push (h : BW n a X D T all rd) (hR : REL D key T) (hn : X.flatten.Nodup) (hX : ∀ z ∈ X.flatten, z < n) (hf : f ∈ all) (hg : g ∉ all) (ht : t ∈ T)
    (hab : (At X f t.a ∧ At X g t.b) ∨ (At X f t.b ∧ At X g t.a)) : BW n a X D T (all ++ [g]) (upd rd g (rd f ++ [t])) := by
  obtain ⟨p, r, hp, hr, hpr⟩ : ∃ p r, At X f p ∧ At X g r ∧ ((p = t.a ∧ r = t.b) ∨ (p = t.b ∧ r = t.a)) := by
    rcases hab with ⟨h1, h2⟩ | ⟨h1, h2⟩
    · exact ⟨_, _, h1, h2, .inl ⟨rfl, rfl⟩⟩
    · exact ⟨_, _, h1, h2, .inr ⟨rfl, rfl⟩⟩
  have hfg : f ≠ g := fun e => hg (e ▸ hf)
  have hone : ∀ f' g' : Nat, At X f' r → f' = g := fun f' _ h' => at_uniq hn h' hr
  have hends : ∀ g', (At X g' t.a ∨ At X g' t.b) → g' ∈ all ++ [g] := by
    intro g' h'
    have : g' = f ∨ g' = g := by
      rcases hpr with ⟨rfl, rfl⟩ | ⟨rfl, rfl⟩ <;> rcases h' with h' | h'
      · exact .inl (at_uniq hn h' hp)
      · exact .inr (at_uniq hn h' hr)
      · exact .inr (at_uniq hn h' hr)
      · exact .inl (at_uniq hn h' hp)
    rcases this with rfl | rfl
    · exact List.mem_append_left _ hf
    · simp
  refine ⟨?_, ?_, ?_, ?_⟩
  · rw [List.nodup_append]
    exact ⟨h.nd, by simp, fun x hx y hy e => by simp at hy; subst hy; subst e; exact hg hx⟩
  · intro g' hg'
    rcases List.mem_append.1 hg' with h' | h'
    · exact h.lt g' h'
    · simp at h'; subst h'; exact at_lt hr
  · intro g' hg' u hu
    by_cases e : g' = g
    · subst e
      rw [upd_same]
      obtain ⟨l, hw, hfl, hit⟩ := h.way f hf p hp
      obtain ⟨A, hA, hrA⟩ := hr
      obtain ⟨B, hB, huB⟩ := hu
      rw [hA] at hB; cases hB
      have hAm := List.mem_of_getElem? hA
      obtain ⟨l2, hw2, hin⟩ := face_way (D := D) (n := n) hAm hrA huB
      have hlt2 : ∀ z ∈ l2, z < n := fun z hz => hX z (List.mem_flatten.2 ⟨A, hAm, hin z hz⟩)
      have hnl : n + t.e ∉ l := by
        intro hm
        have h1 : n + t.e ∈ l.filter (fun z => decide (n ≤ z)) := List.mem_filter.2 ⟨hm, by simp⟩
        rw [hfl] at h1
        obtain ⟨t', ht', he⟩ := List.mem_map.1 h1
        obtain ⟨h2, h3⟩ := h.ties f hf t' ht'
        have : t' = t := hR.inj h2 ht (by omega)
        subst this
        rcases hpr with ⟨_, e⟩ | ⟨_, e⟩
        · exact hg (h3 g' (.inr (e ▸ ⟨A, hA, hrA⟩)))
        · exact hg (h3 g' (.inl (e ▸ ⟨A, hA, hrA⟩)))
      have hdis : ∀ z ∈ l, z ∉ l2 := by
        intro z hz hz2
        obtain ⟨g2, h1, h2⟩ := hit z hz (hlt2 z hz2)
        have : g2 = g' := at_uniq hn h2 ⟨A, hA, hin z hz2⟩
        exact hg (this ▸ h1)
      have hD := (hR.to t ht).1
      have hl1 : EW X D n p (n + t.e) := .inr ⟨t.e, t.a, t.b, hD, .inl ⟨rfl, by rcases hpr with ⟨e, _⟩ | ⟨e, _⟩ <;> simp [e]⟩⟩
      have hl2 : EW X D n (n + t.e) r := .inr ⟨t.e, t.a, t.b, hD, .inr ⟨rfl, by rcases hpr with ⟨_, e⟩ | ⟨_, e⟩ <;> simp [e]⟩⟩
      refine ⟨l ++ ((n + t.e) :: l2), ⟨?_, ?_, ?_, ?_⟩, ?_, ?_⟩
      · rw [List.head?_append, hw.hd]; rfl
      · rw [List.getLast?_append, List.getLast?_cons, hw2.la]; rfl
      · rw [List.nodup_append]
        refine ⟨hw.nd, List.nodup_cons.2 ⟨fun hm => by have := hlt2 _ hm; omega, hw2.nd⟩, fun x hx y hy e => ?_⟩
        subst e
        rcases List.mem_cons.1 hy with rfl | hy
        · exact hnl hx
        · exact hdis x hx hy
      · rw [Lk.append]
        refine ⟨hw.lk, ⟨fun y hy => ?_, hw2.lk⟩, fun x y hx hy => ?_⟩
        · rw [hw2.hd] at hy; cases hy; exact hl2
        · rw [hw.la] at hx; cases hx
          simp at hy; subst hy
          exact hl1
      · rw [List.filter_append, hfl, List.filter_cons, if_pos (by simp), List.filter_eq_nil_iff.2 fun z hz => by have := hlt2 z hz; simp; omega]
        simp
      · intro z hz hzn
        rcases List.mem_append.1 hz with hz | hz
        · obtain ⟨g2, h1, h2⟩ := hit z hz hzn
          exact ⟨g2, List.mem_append_left _ h1, h2⟩
        · rcases List.mem_cons.1 hz with rfl | hz
          · omega
          · exact ⟨g', by simp, A, hA, hin z hz⟩
    · rw [upd_ne _ _ e]
      have hg' : g' ∈ all := by
        rcases List.mem_append.1 hg' with h' | h'
        · exact h'
        · simp at h'; exact absurd h' e
      obtain ⟨l, h1, h2, h3⟩ := h.way g' hg' u hu
      exact ⟨l, h1, h2, fun z hz hzn => by obtain ⟨g2, h4, h5⟩ := h3 z hz hzn; exact ⟨g2, List.mem_append_left _ h4, h5⟩⟩
  · intro g' hg' s hs
    by_cases e : g' = g
    · subst e
      rw [upd_same] at hs
      rcases List.mem_append.1 hs with hs | hs
      · obtain ⟨h1, h2⟩ := h.ties f hf s hs
        exact ⟨h1, fun g2 h3 => List.mem_append_left _ (h2 g2 h3)⟩
      · simp at hs; subst hs
        exact ⟨ht, hends⟩
    · rw [upd_ne _ _ e] at hs
      have hg' : g' ∈ all := by
        rcases List.mem_append.1 hg' with h' | h'
        · exact h'
        · simp at h'; exact absurd h' e
      obtain ⟨h1, h2⟩ := h.ties g' hg' s hs
      exact ⟨h1, fun g2 h3 => List.mem_append_left _ (h2 g2 h3)⟩
/-- What ties lead to from the faces gone over. -/
def Done (X : List (List Nat)) (all : List Nat) (f : Nat) (t : Ti) : Prop := ∀ g, (At X f t.a → At X g t.b → g ∈ all) ∧ (At X f t.b → At X g t.a → g ∈ all)
theorem Done.mono (h : Done X all f t) (hs : ∀ g ∈ all, g ∈ l) : Done X l f t := fun g => ⟨fun h1 h2 => hs g ((h g).1 h1 h2), fun h1 h2 => hs g ((h g).2 h1 h2)⟩
end
end Web
end Go.Proofs.YtaoemljoiahapaaDoor
/-
The reference of layer 14: its web as a record, its small functions, and its search.
Conditions: those that each theorem states.
-/
namespace Go.Proofs.YtaoemljoiahapaaDoor
open Go Go.RowKit
set_option linter.unusedVariables false
set_option linter.unusedSimpArgs false
namespace Web
open Go.Proofs.YtaoemljoiahapaaDoor.Seq Go.Proofs.YtaoemljoiahapaaDoor.Cut
def encTi (t : Ti) : List Value := [.int .i64 t.e, .int .i64 t.a, .int .i64 t.b, .int .i64 t.k]
theorem encTi_len (t : Ti) : (encTi t).length = 4 := rfl
/-- A slice of ties as it reads. -/
def TT (w : World) (bad : Nat → Prop) (b : Option Addr) (l : Nat) (T : List Ti) : Prop := T.length = l ∧ (∀ g, 0 < l → bk b = some g → ¬ bad g) ∧ VA w b l 4 (T.flatMap encTi)
section
variable {w₀ w w' : World} {bad : Nat → Prop} {b sb fb tb ab : Option Addr} {l c i k fl fc tl tc ac f g m n a x y : Nat} {N M : Int} {X : List (List Nat)} {T : List Ti} {t : Ti} {D : Nat → Option (Nat × Nat)} {key : Nat → Int} {all sn : List Nat} {rd : Nat → List Ti}
theorem TT.keep {S : Nat → Prop} (h : TT w bad b l T) (k : Chg S w w') (hS : ∀ i, S i → bad i) : TT w' bad b l T := ⟨h.1, h.2.1, h.2.2.keep k fun g hl hg hs => h.2.1 g hl hg (hS g hs)⟩
theorem TT.nob (h : TT w bad b l T) (k : Chg Nobody w w') : TT w' bad b l T := h.keep k fun _ h => h.elim
theorem TT.drew (h : TT w bad b l T) : TT w.drew bad b l T := h
theorem TT.nil : TT w bad b 0 [] := ⟨rfl, fun g h => by omega, VA.zero⟩
/-- A tie's record. -/
theorem TT.ix (h : TT w bad b l T) (ht : T[i]? = some t) {K : Addr → Prop} (k : ∀ g o e cs, Row w.heap g e cs → cs[o]? = some (.int .i64 t.e) → cs[o + 1]? = some (.int .i64 t.a) → cs[o + 2]? = some (.int .i64 t.b) → cs[o + 3]? = some (.int .i64 t.k) → K ⟨g, o, none⟩) : ixS b l (i : Int) 4 K := by
  have hi : i < l := by rw [← h.1]; exact (List.getElem?_eq_some_iff.1 ht).1
  refine h.2.2.ix hi fun g o e cs hr _ hc => ?_
  have h4 := fun j hj => (hc j hj).trans (fm_get encTi_len ht hj)
  exact k g o e cs hr (h4 0 (by omega)) (h4 1 (by omega)) (h4 2 (by omega)) (h4 3 (by omega))

/-! ## Records of four cells -/
/-! ## The small functions -/
/-! ## The search -/
end
end Web
end Go.Proofs.YtaoemljoiahapaaDoor
/-
The reference of layer 14: the road between two faces.
Conditions: those that each theorem states.
-/
namespace Go.Proofs.YtaoemljoiahapaaDoor
open Go Go.RowKit
set_option linter.unusedVariables false
set_option linter.unusedSimpArgs false
namespace Web
open Go.Proofs.YtaoemljoiahapaaDoor.Seq Go.Proofs.YtaoemljoiahapaaDoor.Cut
section
variable {w₀ w w' : World} {bad : Nat → Prop} {b sb fb tb ab : Option Addr} {l c i k fl fc tl tc ac f g m n a x y : Nat} {N M : Int} {X : List (List Nat)} {T : List Ti} {t : Ti} {D : Nat → Option (Nat × Nat)} {key : Nat → Int} {all sn : List Nat} {rd : Nat → List Ti}
/-- What a list of faces must be. -/
structure FX (n : Nat) (X : List (List Nat)) : Prop where
  nd : X.flatten.Nodup
  lt : ∀ z ∈ X.flatten, z < n
  ne : ∀ A ∈ X, A ≠ []
  all : ∀ z, z < n → ∃ A ∈ X, z ∈ A
  n : n ≤ 4194304
theorem FX.len (h : FX n X) : X.length ≤ n := by
  have hl : X.flatten.length ≤ n := nodup_len h.nd h.lt
  exact Nat.le_trans (len_flat h.ne) hl
theorem FX.each (h : FX n X) {A : List Nat} (hA : A ∈ X) : A.length ≤ n := Nat.le_trans (mem_len hA) (nodup_len h.nd h.lt)
theorem FX.at (h : FX n X) (hx : x < n) : ∃ (f : Nat) (A : List Nat) (k : Nat), X[f]? = some A ∧ A[k]? = some x := by
  obtain ⟨A, hA, hxA⟩ := h.all x hx
  obtain ⟨f, hf⟩ := List.getElem?_of_mem hA
  obtain ⟨k, hk⟩ := List.getElem?_of_mem hxA
  exact ⟨f, A, k, hf, hk⟩
end
end Web
end Go.Proofs.YtaoemljoiahapaaDoor
/-
The reference of layer 14: faces merged and split, ties laid and taken away, the weakest one.
Conditions: those that each theorem states.
-/
namespace Go.Proofs.YtaoemljoiahapaaDoor
open Go Go.RowKit
set_option linter.unusedVariables false
set_option linter.unusedSimpArgs false
namespace Web
open Go.Proofs.YtaoemljoiahapaaDoor.Seq Go.Proofs.YtaoemljoiahapaaDoor.Cut
/-- The weakest one of a list of ties. -/
def Wk (ts : List Ti) (z : Int) : Prop := (ts = [] ∧ z = -1) ∨ ∃ (j : Nat) (t : Ti), ts[j]? = some t ∧ z = t.e ∧ (∀ j' s, j' < j → ts[j']? = some s → t.k < s.k) ∧ ∀ s ∈ ts, t.k ≤ s.k
section
variable {w₀ w w' : World} {bad : Nat → Prop} {b sb fb tb ab : Option Addr} {l c i k fl fc tl tc ac f g m n a x y : Nat} {X : List (List Nat)} {T : List Ti} {t : Ti} {D : Nat → Option (Nat × Nat)} {key : Nat → Int} {all sn : List Nat} {rd : Nat → List Ti}
/-- A web of the reference, as it reads. -/
structure RW (w : World) (bad : Nat → Prop) (n m : Nat) (D : Nat → Option (Nat × Nat)) (key : Nat → Int) (X : List (List Nat)) (T : List Ti) (fb : Option Addr) (fl : Nat) (tb : Option Addr) (tl tc : Nat) : Prop where
  f : RF w bad fb fl X
  t : TT w bad tb tl T
  c : tl ≤ tc
  x : FX n X
  r : REL D key T
  d : ∀ e a b, D e = some (a, b) → e < m ∧ a < n ∧ b < n
  m : m ≤ 1048576
theorem RW.nob (h : RW w bad n m D key X T fb fl tb tl tc) (k : Chg Nobody w w') : RW w' bad n m D key X T fb fl tb tl tc := ⟨h.f.nob k, h.t.nob k, h.c, h.x, h.r, h.d, h.m⟩
theorem RW.keep {S : Nat → Prop} (h : RW w bad n m D key X T fb fl tb tl tc) (k : Chg S w w') (hS : ∀ i, S i → bad i) : RW w' bad n m D key X T fb fl tb tl tc := ⟨h.f.keep k hS, h.t.keep k hS, h.c, h.x, h.r, h.d, h.m⟩
theorem RW.dl (h : RW w bad n m D key X T fb fl tb tl tc) : ∀ e a b, D e = some (a, b) → a < n ∧ b < n := fun e a b hD => (h.d e a b hD).2
end
end Web
end Go.Proofs.YtaoemljoiahapaaDoor
