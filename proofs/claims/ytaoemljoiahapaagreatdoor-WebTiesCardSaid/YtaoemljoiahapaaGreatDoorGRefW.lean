/-
A search in breadth over faces, in plain mathematics: the ties on the way from a face to another one.
Conditions: those that each theorem states.
-/
import Derived.Test.YtaoemljoiahapaaGreatDoorGWeb
import Derived.Test.YtaoemljoiahapaaGreatDoorLawBfs
import Derived.Test.YtaoemljoiahapaaGreatDoorGRef
import Derived.Test.YtaoemljoiahapaaGreatDoorVals
import Derived.Test.YtaoemljoiahapaaGreatDoorGRefR
import Derived.Test.YtaoemljoiahapaaGreatDoorShPlaitref14
import Derived.Test.YtaoemljoiahapaaGreatDoorGTold
namespace Go.Proofs.YtaoemljoiahapaaGreatDoor
open Go
set_option linter.unusedVariables false
set_option linter.unusedSimpArgs false
namespace Web
open Go.Proofs.YtaoemljoiahapaaGreatDoor.Seq Go.Proofs.YtaoemljoiahapaaGreatDoor.Cut
/-- A tie: its number, its ends, its key. -/
structure Ti where
  e : Nat
  a : Nat
  b : Nat
  k : Int
/-- An item stands in the face at a place. -/
def At (X : List (List Nat)) (f x : Nat) : Prop := ∃ A, X[f]? = some A ∧ x ∈ A
/-- A list of ties, and which tie is tied where. -/
structure REL (D : Nat → Option (Nat × Nat)) (key : Nat → Int) (T : List Ti) : Prop where
  to : ∀ t ∈ T, D t.e = some (t.a, t.b) ∧ key t.e = t.k
  of : ∀ e a b, D e = some (a, b) → ∃ t ∈ T, t.e = e
  nd : (T.map (·.e)).Nodup
section
variable {n a b x y u z f g i k : Nat} {X : List (List Nat)} {D : Nat → Option (Nat × Nat)} {key : Nat → Int} {T : List Ti} {t t' : Ti} {l : List Nat} {A B : List Nat} {all : List Nat} {rd : Nat → List Ti}
theorem map_nd_inj {l : List Ti} (h : (l.map (·.e)).Nodup) {t t' : Ti} (h1 : t ∈ l) (h2 : t' ∈ l) (he : t.e = t'.e) : t = t' := by
  induction l with
  | nil => cases h1
  | cons s l ih =>
    simp only [List.map_cons, List.nodup_cons, List.mem_map, not_exists, not_and] at h
    rcases List.mem_cons.1 h1 with e1 | k1 <;> rcases List.mem_cons.1 h2 with e2 | k2
    · rw [e1, e2]
    · subst e1; exact absurd he.symm (h.1 _ k2)
    · subst e2; exact absurd he (h.1 _ k1)
    · exact ih h.2 k1 k2
theorem REL.inj (h : REL D key T) (h1 : t ∈ T) (h2 : t' ∈ T) (he : t.e = t'.e) : t = t' := map_nd_inj h.nd h1 h2 he
theorem REL.tie (h : REL D key T) {e a b : Nat} (hD : D e = some (a, b)) : ∃ t ∈ T, t.e = e ∧ t.a = a ∧ t.b = b ∧ t.k = key e := by
  obtain ⟨t, ht, rfl⟩ := h.of e a b hD
  have h1 := h.to t ht
  rw [hD] at h1
  obtain ⟨h1, h2⟩ := h1
  cases h1
  exact ⟨t, ht, rfl, rfl, rfl, h2.symm⟩
theorem REL.nope (h : REL D key T) {e : Nat} : D e = none ↔ ∀ t ∈ T, t.e ≠ e := by
  constructor
  · intro hD t ht he
    have := (h.to t ht).1
    rw [he, hD] at this; cases this
  · intro hn
    cases hD : D e with
    | none => rfl
    | some ab => obtain ⟨t, ht, he⟩ := h.of e ab.1 ab.2 hD; exact absurd he (hn t ht)
theorem at_uniq (h : X.flatten.Nodup) (h1 : At X f x) (h2 : At X g x) : f = g := by
  obtain ⟨A, hA, hx⟩ := h1
  obtain ⟨B, hB, hy⟩ := h2
  obtain ⟨i, hi⟩ := List.getElem?_of_mem hx
  obtain ⟨j, hj⟩ := List.getElem?_of_mem hy
  exact (flat_idx h hA hB hi hj).1
theorem at_lt (h : At X f x) : f < X.length := by
  obtain ⟨A, hA, _⟩ := h
  exact (List.getElem?_eq_some_iff.1 hA).1
theorem at_mem (h : At X f x) : x ∈ X.flatten := by
  obtain ⟨A, hA, hx⟩ := h
  exact List.mem_flatten.2 ⟨A, List.mem_of_getElem? hA, hx⟩
theorem Lk.mono {E E' : Nat → Nat → Prop} (h : ∀ x y, E x y → E' x y) : ∀ {l : List Nat}, Lk E l → Lk E' l
  | [], _ => trivial
  | _ :: _, k => ⟨fun y hy => h _ _ (k.1 y hy), Lk.mono h k.2⟩
/-- Within a face. -/
theorem face_way (hA : A ∈ X) (hx : x ∈ A) (hy : y ∈ A) : ∃ l, Cut.Way (EW X D n) x y l ∧ ∀ z ∈ l, z ∈ A := by
  have hr : RT (EQ [A]) x y := face_rt (q := [A]) (A := A) (by simp) (fun u v h => h) hx hy
  obtain ⟨l, h1, h2, h3, h4⟩ := hr.way
  refine ⟨l, ⟨h1, h2, h3, Lk.mono (fun u v h => .inl ?_) h4⟩, closed_way (all := A) (E := EQ [A]) (fun u hu v h => ?_) l x h1 hx h4⟩
  · have := (eq_mem h).2
    simpa using this
  · obtain ⟨B, hB, h⟩ := h
    simp at hB; subst hB
    exact ⟨B, hA, h⟩
/-- What the search knows: the faces reached so far in their order, and for each the ties on the way there. -/
structure BW (n a : Nat) (X : List (List Nat)) (D : Nat → Option (Nat × Nat)) (T : List Ti) (all : List Nat) (rd : Nat → List Ti) : Prop where
  nd : all.Nodup
  lt : ∀ f ∈ all, f < X.length
  way : ∀ f ∈ all, ∀ u, At X f u → ∃ l, Cut.Way (EW X D n) a u l ∧ l.filter (fun z => decide (n ≤ z)) = (rd f).map (fun t => n + t.e) ∧ ∀ z ∈ l, z < n → ∃ g ∈ all, At X g z
  ties : ∀ f ∈ all, ∀ t ∈ rd f, t ∈ T ∧ ∀ g, (At X g t.a ∨ At X g t.b) → g ∈ all
theorem BW.init (hX : ∀ z ∈ X.flatten, z < n) (hf : At X f a) : BW n a X D T [f] (fun _ => []) := by
  obtain ⟨A, hA, ha⟩ := hf
  refine ⟨by simp, fun g hg => ?_, fun g hg u hu => ?_, fun g hg t ht => by cases ht⟩
  · simp at hg; subst hg; exact (List.getElem?_eq_some_iff.1 hA).1
  · simp at hg; subst hg
    obtain ⟨B, hB, hu⟩ := hu
    rw [hA] at hB; cases hB
    have hAm := List.mem_of_getElem? hA
    obtain ⟨l, h1, h2⟩ := face_way (D := D) (n := n) hAm ha hu
    refine ⟨l, h1, ?_, fun z hz _ => ⟨g, by simp, A, hA, h2 z hz⟩⟩
    rw [List.filter_eq_nil_iff.2 fun z hz => ?_]
    · rfl
    · have := hX z (List.mem_flatten.2 ⟨A, hAm, h2 z hz⟩)
      simp; omega
theorem BW.push (h : BW n a X D T all rd) (hR : REL D key T) (hn : X.flatten.Nodup) (hX : ∀ z ∈ X.flatten, z < n) (hf : f ∈ all) (hg : g ∉ all) (ht : t ∈ T)
    (hab : (At X f t.a ∧ At X g t.b) ∨ (At X f t.b ∧ At X g t.a)) : BW n a X D T (all ++ [g]) (upd rd g (rd f ++ [t])) := by
  obtain ⟨p, r, hp, hr, hpr⟩ : ∃ p r, At X f p ∧ At X g r ∧ ((p = t.a ∧ r = t.b) ∨ (p = t.b ∧ r = t.a)) := by
    rcases hab with ⟨h1, h2⟩ | ⟨h1, h2⟩
    · exact ⟨_, _, h1, h2, .inl ⟨rfl, rfl⟩⟩
    · exact ⟨_, _, h1, h2, .inr ⟨rfl, rfl⟩⟩
  have hfg : f ≠ g := fun e => hg (e ▸ hf)
  have hone : ∀ f' g' : Nat, At X f' r → f' = g := fun f' _ h' => at_uniq hn h' hr
  have hends : ∀ g', (At X g' t.a ∨ At X g' t.b) → g' ∈ all ++ [g] := by
    intro g' h'
    have : g' = f ∨ g' = g := by
      rcases hpr with ⟨rfl, rfl⟩ | ⟨rfl, rfl⟩ <;> rcases h' with h' | h'
      · exact .inl (at_uniq hn h' hp)
      · exact .inr (at_uniq hn h' hr)
      · exact .inr (at_uniq hn h' hr)
      · exact .inl (at_uniq hn h' hp)
    rcases this with rfl | rfl
    · exact List.mem_append_left _ hf
    · simp
  refine ⟨?_, ?_, ?_, ?_⟩
  · rw [List.nodup_append]
    exact ⟨h.nd, by simp, fun x hx y hy e => by simp at hy; subst hy; subst e; exact hg hx⟩
  · intro g' hg'
    rcases List.mem_append.1 hg' with h' | h'
    · exact h.lt g' h'
    · simp at h'; subst h'; exact at_lt hr
  · intro g' hg' u hu
    by_cases e : g' = g
    · subst e
      rw [upd_same]
      obtain ⟨l, hw, hfl, hit⟩ := h.way f hf p hp
      obtain ⟨A, hA, hrA⟩ := hr
      obtain ⟨B, hB, huB⟩ := hu
      rw [hA] at hB; cases hB
      have hAm := List.mem_of_getElem? hA
      obtain ⟨l2, hw2, hin⟩ := face_way (D := D) (n := n) hAm hrA huB
      have hlt2 : ∀ z ∈ l2, z < n := fun z hz => hX z (List.mem_flatten.2 ⟨A, hAm, hin z hz⟩)
      have hnl : n + t.e ∉ l := by
        intro hm
        have h1 : n + t.e ∈ l.filter (fun z => decide (n ≤ z)) := List.mem_filter.2 ⟨hm, by simp⟩
        rw [hfl] at h1
        obtain ⟨t', ht', he⟩ := List.mem_map.1 h1
        obtain ⟨h2, h3⟩ := h.ties f hf t' ht'
        have : t' = t := hR.inj h2 ht (by omega)
        subst this
        rcases hpr with ⟨_, e⟩ | ⟨_, e⟩
        · exact hg (h3 g' (.inr (e ▸ ⟨A, hA, hrA⟩)))
        · exact hg (h3 g' (.inl (e ▸ ⟨A, hA, hrA⟩)))
      have hdis : ∀ z ∈ l, z ∉ l2 := by
        intro z hz hz2
        obtain ⟨g2, h1, h2⟩ := hit z hz (hlt2 z hz2)
        have : g2 = g' := at_uniq hn h2 ⟨A, hA, hin z hz2⟩
        exact hg (this ▸ h1)
      have hD := (hR.to t ht).1
      have hl1 : EW X D n p (n + t.e) := .inr ⟨t.e, t.a, t.b, hD, .inl ⟨rfl, by rcases hpr with ⟨e, _⟩ | ⟨e, _⟩ <;> simp [e]⟩⟩
      have hl2 : EW X D n (n + t.e) r := .inr ⟨t.e, t.a, t.b, hD, .inr ⟨rfl, by rcases hpr with ⟨_, e⟩ | ⟨_, e⟩ <;> simp [e]⟩⟩
      refine ⟨l ++ ((n + t.e) :: l2), ⟨?_, ?_, ?_, ?_⟩, ?_, ?_⟩
      · rw [List.head?_append, hw.hd]; rfl
      · rw [List.getLast?_append, List.getLast?_cons, hw2.la]; rfl
      · rw [List.nodup_append]
        refine ⟨hw.nd, List.nodup_cons.2 ⟨fun hm => by have := hlt2 _ hm; omega, hw2.nd⟩, fun x hx y hy e => ?_⟩
        subst e
        rcases List.mem_cons.1 hy with rfl | hy
        · exact hnl hx
        · exact hdis x hx hy
      · rw [Lk.append]
        refine ⟨hw.lk, ⟨fun y hy => ?_, hw2.lk⟩, fun x y hx hy => ?_⟩
        · rw [hw2.hd] at hy; cases hy; exact hl2
        · rw [hw.la] at hx; cases hx
          simp at hy; subst hy
          exact hl1
      · rw [List.filter_append, hfl, List.filter_cons, if_pos (by simp), List.filter_eq_nil_iff.2 fun z hz => by have := hlt2 z hz; simp; omega]
        simp
      · intro z hz hzn
        rcases List.mem_append.1 hz with hz | hz
        · obtain ⟨g2, h1, h2⟩ := hit z hz hzn
          exact ⟨g2, List.mem_append_left _ h1, h2⟩
        · rcases List.mem_cons.1 hz with rfl | hz
          · omega
          · exact ⟨g', by simp, A, hA, hin z hz⟩
    · rw [upd_ne _ _ e]
      have hg' : g' ∈ all := by
        rcases List.mem_append.1 hg' with h' | h'
        · exact h'
        · simp at h'; exact absurd h' e
      obtain ⟨l, h1, h2, h3⟩ := h.way g' hg' u hu
      exact ⟨l, h1, h2, fun z hz hzn => by obtain ⟨g2, h4, h5⟩ := h3 z hz hzn; exact ⟨g2, List.mem_append_left _ h4, h5⟩⟩
  · intro g' hg' s hs
    by_cases e : g' = g
    · subst e
      rw [upd_same] at hs
      rcases List.mem_append.1 hs with hs | hs
      · obtain ⟨h1, h2⟩ := h.ties f hf s hs
        exact ⟨h1, fun g2 h3 => List.mem_append_left _ (h2 g2 h3)⟩
      · simp at hs; subst hs
        exact ⟨ht, hends⟩
    · rw [upd_ne _ _ e] at hs
      have hg' : g' ∈ all := by
        rcases List.mem_append.1 hg' with h' | h'
        · exact h'
        · simp at h'; exact absurd h' e
      obtain ⟨h1, h2⟩ := h.ties g' hg' s hs
      exact ⟨h1, fun g2 h3 => List.mem_append_left _ (h2 g2 h3)⟩
/-- What ties lead to from the faces gone over. -/
def Done (X : List (List Nat)) (all : List Nat) (f : Nat) (t : Ti) : Prop := ∀ g, (At X f t.a → At X g t.b → g ∈ all) ∧ (At X f t.b → At X g t.a → g ∈ all)
theorem Done.mono (h : Done X all f t) (hs : ∀ g ∈ all, g ∈ l) : Done X l f t := fun g => ⟨fun h1 h2 => hs g ((h g).1 h1 h2), fun h1 h2 => hs g ((h g).2 h1 h2)⟩
/-- The search has gone over all that it reached: no link leads out. -/
theorem BW.closed (h : BW n a X D T all rd) (hR : REL D key T) (hn : X.flatten.Nodup) (hX : ∀ z ∈ X.flatten, z < n) (hall : ∀ z, z < n → ∃ f, At X f z) (hd : ∀ f ∈ all, ∀ t ∈ T, Done X all f t) (hlt : ∀ e a b, D e = some (a, b) → a < n ∧ b < n)
    (h0 : ∃ f ∈ all, At X f a) (hb : b < n) (hr : RT (EW X D n) a b) : ∃ f ∈ all, At X f b := by
  have key2 : ∀ x, RT (EW X D n) a x → (∃ f ∈ all, At X f x) ∨ (∃ e u v, D e = some (u, v) ∧ x = n + e ∧ ∃ f ∈ all, At X f u ∨ At X f v) := by
    intro x hx
    induction hx with
    | refl => exact .inl h0
    | @step y z _ hyz ih =>
      rcases hyz with hyz | ⟨e, u, v, hD, hyz⟩
      · obtain ⟨A, hA, hyz⟩ := hyz
        have hm : y ∈ A ∧ z ∈ A := by
          rcases hyz with h | h
          · exact h.mem
          · exact ⟨h.mem.2, h.mem.1⟩
        have hyn := hX y (List.mem_flatten.2 ⟨A, hA, hm.1⟩)
        rcases ih with ⟨f, hf, hfy⟩ | ⟨e, u, v, _, e2, _⟩
        · obtain ⟨g, hg⟩ := List.getElem?_of_mem hA
          have : f = g := at_uniq hn hfy ⟨A, hg, hm.1⟩
          subst this
          exact .inl ⟨f, hf, A, hg, hm.2⟩
        · omega
      · have huv := hlt e u v hD
        rcases hyz with ⟨rfl, h2⟩ | ⟨rfl, h2⟩
        · refine .inr ⟨e, u, v, hD, rfl, ?_⟩
          rcases ih with ⟨f, hf, hfy⟩ | ⟨e', u', v', _, e2, _⟩
          · rcases h2 with rfl | rfl
            · exact ⟨f, hf, .inl hfy⟩
            · exact ⟨f, hf, .inr hfy⟩
          · rcases h2 with h2 | h2 <;> omega
        · rcases ih with ⟨f, hf, hfy⟩ | ⟨e', u', v', hD', e2, f, hf, hfy⟩
          · have := hX _ (at_mem hfy); omega
          · have : e' = e := by omega
            subst this
            rw [hD] at hD'; cases hD'
            obtain ⟨t, ht, rfl, rfl, rfl, _⟩ := hR.tie hD
            have hdone := hd f hf t ht
            left
            rcases h2 with rfl | rfl
            · rcases hfy with hfy | hfy
              · exact ⟨f, hf, hfy⟩
              · obtain ⟨g, hg⟩ := hall t.a huv.1
                exact ⟨g, (hdone g).2 hfy hg, hg⟩
            · rcases hfy with hfy | hfy
              · obtain ⟨g, hg⟩ := hall t.b huv.2
                exact ⟨g, (hdone g).1 hfy hg, hg⟩
              · exact ⟨f, hf, hfy⟩
  rcases key2 b hr with h | ⟨e, _, _, _, h, _⟩
  · exact h
  · omega
end
end Web
end Go.Proofs.YtaoemljoiahapaaGreatDoor
/-
The reference of layer 14: its web as a record, its small functions, and its search.
Conditions: those that each theorem states.
-/
namespace Go.Proofs.YtaoemljoiahapaaGreatDoor
open Go Go.RowKit
set_option linter.unusedVariables false
set_option linter.unusedSimpArgs false
namespace Web
open Go.Proofs.YtaoemljoiahapaaGreatDoor.Seq Go.Proofs.YtaoemljoiahapaaGreatDoor.Cut
def encTi (t : Ti) : List Value := [.int .i64 t.e, .int .i64 t.a, .int .i64 t.b, .int .i64 t.k]
theorem encTi_len (t : Ti) : (encTi t).length = 4 := rfl
theorem encTi_one : ∀ {T : List Ti}, ∀ u ∈ T.flatMap encTi, oneC u = true := by
  intro T u hu
  obtain ⟨t, _, hu⟩ := List.mem_flatMap.1 hu
  simp only [encTi, List.mem_cons, List.not_mem_nil, or_false] at hu
  rcases hu with rfl | rfl | rfl | rfl <;> rfl
theorem ET_Tie : ET Pg T_sl_plaitref14_Tie T_plaitref14_Tie 4 32 := ET.of (by kernel_rfl) (by kernel_rfl)
/-- A slice of ties as it reads. -/
def TT (w : World) (bad : Nat → Prop) (b : Option Addr) (l : Nat) (T : List Ti) : Prop := T.length = l ∧ (∀ g, 0 < l → bk b = some g → ¬ bad g) ∧ VA w b l 4 (T.flatMap encTi)
section
variable {w₀ w w' : World} {bad : Nat → Prop} {b sb fb tb ab : Option Addr} {l c i k fl fc tl tc ac f g m n a x y : Nat} {N M : Int} {X : List (List Nat)} {T : List Ti} {t : Ti} {D : Nat → Option (Nat × Nat)} {key : Nat → Int} {all sn : List Nat} {rd : Nat → List Ti}
theorem TT.keep {S : Nat → Prop} (h : TT w bad b l T) (k : Chg S w w') (hS : ∀ i, S i → bad i) : TT w' bad b l T := ⟨h.1, h.2.1, h.2.2.keep k fun g hl hg hs => h.2.1 g hl hg (hS g hs)⟩
theorem TT.nob (h : TT w bad b l T) (k : Chg Nobody w w') : TT w' bad b l T := h.keep k fun _ h => h.elim
theorem TT.drew (h : TT w bad b l T) : TT w.drew bad b l T := h
theorem TT.nil : TT w bad b 0 [] := ⟨rfl, fun g h => by omega, VA.zero⟩
/-- A tie's record. -/
theorem TT.ix (h : TT w bad b l T) (ht : T[i]? = some t) {K : Addr → Prop} (k : ∀ g o e cs, Row w.heap g e cs → cs[o]? = some (.int .i64 t.e) → cs[o + 1]? = some (.int .i64 t.a) → cs[o + 2]? = some (.int .i64 t.b) → cs[o + 3]? = some (.int .i64 t.k) → K ⟨g, o, none⟩) : ixS b l (i : Int) 4 K := by
  have hi : i < l := by rw [← h.1]; exact (List.getElem?_eq_some_iff.1 ht).1
  refine h.2.2.ix hi fun g o e cs hr _ hc => ?_
  have h4 := fun j hj => (hc j hj).trans (fm_get encTi_len ht hj)
  exact k g o e cs hr (h4 0 (by omega)) (h4 1 (by omega)) (h4 2 (by omega)) (h4 3 (by omega))

/-! ## Records of four cells -/
theorem ld4 {A : Nat} {ty : TypeId} {n0 n1 : Int} {b2 b3 : Option Addr} {l2 c2 l3 c3 : Nat} (r : Row w.heap A ty [.int .i64 n0, .int .i64 n1, .slice b2 l2 c2, .slice b3 l3 c3]) {K : Int → Int → Option Addr → Nat → Nat → Option Addr → Nat → Nat → Prop} (k : K n0 n1 b2 l2 c2 b3 l3 c3) :
    ldI .i64 ⟨A, 0, none⟩ w fun x0 => ldI .i64 (Addr.add ⟨A, 0, none⟩ 1) w fun x1 => ldS (Addr.add ⟨A, 0, none⟩ 2) w fun x2b x2l x2c => ldS (Addr.add ⟨A, 0, none⟩ 3) w fun x3b x3l x3c => K x0 x1 x2b x2l x2c x3b x3l x3c :=
  ldI_r r rfl (ldI_r r rfl (ldS_r r rfl (ldS_r r rfl k)))
theorem st4 {B : Nat} {ty : TypeId} {cs : List Value} {v0 v1 v2 v3 : Value} (r : Row w.heap B ty cs) (hl : cs.length = 4) (h0 : oneC v0 = true) (h1 : oneC v1 = true) (h2 : oneC v2 = true) (h3 : oneC v3 = true) {K : World → Prop}
    (k : ∀ w', Chg (· = B) w w' → Row w'.heap B ty [v0, v1, v2, v3] → K w') : sto ⟨B, 0, none⟩ v0 w fun w1 => sto (Addr.add ⟨B, 0, none⟩ 1) v1 w1 fun w2 => sto (Addr.add ⟨B, 0, none⟩ 2) v2 w2 fun w3 => sto (Addr.add ⟨B, 0, none⟩ 3) v3 w3 fun w4 => K w4 := by
  obtain ⟨a, b, c, d, rfl⟩ : ∃ a b c d, cs = [a, b, c, d] := by
    match cs, hl with
    | [a, b, c, d], _ => exact ⟨a, b, c, d, rfl⟩
  refine sto_r r (by simp) h0 fun r => sto_r (o := 1) r (by simp) h1 fun r => sto_r (o := 2) r (by simp) h2 fun r => sto_r (o := 3) r (by simp) h3 fun r => k _ ?_ r
  exact ((((Chg.refl (· = B) w).setCell _ _ (.inl rfl)).setCell _ _ (.inl rfl)).setCell _ _ (.inl rfl)).setCell _ _ (.inl rfl)
/-- A record copied, and handed back. -/
theorem cpR {A B : Nat} {ty ty' : TypeId} {cs : List Value} {n0 n1 : Int} {b2 b3 : Option Addr} {l2 c2 l3 c3 : Nat} (rA : Row w.heap A ty [.int .i64 n0, .int .i64 n1, .slice b2 l2 c2, .slice b3 l3 c3]) (rB : Row w.heap B ty' cs) (hl : cs.length = 4)
    {K : Int → Int → Option Addr → Nat → Nat → Option Addr → Nat → Nat → World → Prop} (k : ∀ w', Chg (· = B) w w' → K n0 n1 b2 l2 c2 b3 l3 c3 w') :
    ldI .i64 ⟨A, 0, none⟩ w fun x0 => ldI .i64 (Addr.add ⟨A, 0, none⟩ 1) w fun x1 => ldS (Addr.add ⟨A, 0, none⟩ 2) w fun x2b x2l x2c => ldS (Addr.add ⟨A, 0, none⟩ 3) w fun x3b x3l x3c =>
      sto ⟨B, 0, none⟩ (.int .i64 x0) w fun w1 => sto (Addr.add ⟨B, 0, none⟩ 1) (.int .i64 x1) w1 fun w2 => sto (Addr.add ⟨B, 0, none⟩ 2) (.slice x2b x2l x2c) w2 fun w3 => sto (Addr.add ⟨B, 0, none⟩ 3) (.slice x3b x3l x3c) w3 fun w4 =>
      ldI .i64 ⟨B, 0, none⟩ w4 fun y0 => ldI .i64 (Addr.add ⟨B, 0, none⟩ 1) w4 fun y1 => ldS (Addr.add ⟨B, 0, none⟩ 2) w4 fun y2b y2l y2c => ldS (Addr.add ⟨B, 0, none⟩ 3) w4 fun y3b y3l y3c => K y0 y1 y2b y2l y2c y3b y3l y3c w4 :=
  ld4 rA (st4 rB hl rfl rfl rfl rfl fun w' hc r' => ld4 r' (k w' hc))
theorem alo1 {cs : Array Value} {ty : TypeId} {K : Addr → World → Prop} (k : ∀ A w', w.heap.size ≤ A → Chg Nobody w w' → Row w'.heap A ty cs.toList → K ⟨A, 0, none⟩ w') : alo cs ty w fun a w1 => K a w1 :=
  alo_r fun r => k _ _ (Nat.le_refl _) ((Chg.refl _ _).alloc _) r
theorem alo2 {cs cs2 : Array Value} {ty ty2 : TypeId} {K : Addr → Addr → World → Prop} (k : ∀ A B w', A ≠ B → w.heap.size ≤ A → w.heap.size ≤ B → Chg Nobody w w' → Row w'.heap A ty cs.toList → Row w'.heap B ty2 cs2.toList → K ⟨A, 0, none⟩ ⟨B, 0, none⟩ w') :
    alo cs ty w fun a w1 => alo cs2 ty2 w1 fun b w2 => K a b w2 :=
  alo_r fun r => alo_r fun r2 => k _ _ _ (by show w.heap.size ≠ (w.heap.push _).size; simp) (Nat.le_refl _) (by show w.heap.size ≤ (w.heap.push _).size; simp) (((Chg.refl _ _).alloc _).alloc _) (r.alloc _) r2

/-! ## The small functions -/
theorem c_In14 {a b : Int} : Calls Pg fn_plaitref14_In #[.agg #[.int .i64 N, .int .i64 M, .slice fb fl fc, .slice tb tl tc], .int .i64 a, .int .i64 b] w fun e w' => e = .returned (.bool (decide ((0 ≤ a ∧ a < N) ∧ 0 ≤ b ∧ b < N))) ∧ Chg Nobody w w' := by
  refine (calls_plaitref14_In _ _ _ _ _ _ _ _ _ _ _ (fun v' w' => v' = .bool (decide ((0 ≤ a ∧ a < N) ∧ 0 ≤ b ∧ b < N)) ∧ Chg Nobody w w') ?_).mono (by rintro e w' ⟨v, rfl, rfl, k⟩; exact ⟨rfl, k⟩)
  unfold sh_plaitref14_In
  refine alo1 fun A w1 hA hc r => ?_
  refine bif_i (fun h1 => ldI_r r rfl (bif_i (fun h2 => bif_i (fun h3 => ldI_r r rfl ?_) (fun h3 => ?_)) (fun h2 => ?_))) (fun h1 => ?_) <;> simp only [b1s] at *
  · refine ⟨?_, hc⟩
    congr 1
    rw [decide_eq_decide]
    exact ⟨fun h => ⟨⟨h1, h2⟩, h3, h⟩, fun h => h.2.2⟩
  all_goals exact ⟨by rw [decide_eq_false]; omega, hc⟩
theorem c_At14 {e : Int} (h : TT w bad tb tl T) (hl : tl ≤ 1000000000) : Calls Pg fn_plaitref14_At #[.agg #[.int .i64 N, .int .i64 M, .slice fb fl fc, .slice tb tl tc], .int .i64 e] w fun r w' => ∃ z : Int, r = .returned (.int .i64 z) ∧ Chg Nobody w w' ∧
    ((∃ i t, z = (i : Nat) ∧ T[i]? = some t ∧ (t.e : Int) = e) ∨ (z = -1 ∧ ∀ t ∈ T, (t.e : Int) ≠ e)) := by
  refine (calls_plaitref14_At _ _ _ _ _ _ _ _ _ _ (fun v' w' => ∃ z : Int, v' = .int .i64 z ∧ Chg Nobody w w' ∧ ((∃ i t, z = (i : Nat) ∧ T[i]? = some t ∧ (t.e : Int) = e) ∨ (z = -1 ∧ ∀ t ∈ T, (t.e : Int) ≠ e))) ?_).mono (by rintro e w' ⟨v, rfl, z, rfl, k⟩; exact ⟨z, rfl, k⟩)
  unfold sh_plaitref14_At
  refine alo1 fun A w1 hA hc r => ?_
  let J : Nat → List Value → World → Prop := fun j vs w' => ∃ i : Nat, vs = [.int .i64 i] ∧ i ≤ tl ∧ w' = w1 ∧ (∀ t ∈ T.take i, (t.e : Int) ≠ e) ∧ j = tl - i
  refine ⟨LI J, LM J, ⟨_, 0, rfl, by omega, rfl, by simp, rfl⟩, ?_⟩
  intro _ i w2 hJ
  obtain ⟨i, hvs, hi, rfl, hn, hj⟩ := hJ.at
  simp only [List.cons.injEq, Value.int.injEq, and_true, true_and] at hvs
  subst hvs
  have hT := h.1
  refine ldS_r r rfl (bif_i (fun hc2 => ?_) (fun hc2 => ?_)) <;> simp only [b1s] at hc2
  · have hil : i < T.length := by omega
    have hTi := List.getElem?_eq_getElem hil
    refine ldS_r r rfl ((h.nob hc).ix hTi fun g o ty cs hr h0 h1 h2 h3 => ldI_r hr h0 (bif_i (fun he => ?_) (fun he => ?_))) <;> simp only [b1s] at he
    · exact ⟨_, rfl, hc, .inl ⟨i, _, rfl, hTi, he⟩⟩
    · rw [wrap64_in (by omega) (by omega)]
      refine LI.again (k := tl - (i + 1)) ⟨i + 1, rfl, by omega, rfl, ?_, rfl⟩ (by rw [hj]; omega)
      intro t ht
      rw [List.take_add_one, hTi] at ht
      rcases List.mem_append.1 ht with ht | ht
      · exact hn t ht
      · simp at ht; subst ht; exact he
  · refine ⟨_, rfl, hc, .inr ⟨rfl, ?_⟩⟩
    rw [List.take_of_length_le (by omega)] at hn
    exact hn

/-! ## The search -/
structure RM (w₀ w : World) (A RB SB base : Nat) (ps : List Value) (m : Nat) (sn all : List Nat) (rd : Nat → List Ti) (ab : Option Addr) (ac : Nat) : Prop where
  c : Chg Nobody w₀ w
  p : Row w.heap A T_plaitref14_Web ps
  s : Row w.heap SB T_bool ((List.range m).map fun f => .bool (decide (f ∈ sn)))
  r : ∃ rs, Row w.heap RB T_sl_plaitref14_Tie rs ∧ rs.length = m ∧ (∀ f, f < m → f ∉ all → rs[f]? = some (.slice none 0 0)) ∧ ∀ f ∈ all, ∃ rb rc, rs[f]? = some (.slice rb (rd f).length rc) ∧ VA w rb (rd f).length 4 ((rd f).flatMap encTi) ∧ (∀ g, 0 < (rd f).length → bk rb = some g → base ≤ g ∧ bk ab ≠ some g)
  a : Own w base T_int 1 ab all.length ac (ivs all)
  b : w₀.heap.size ≤ A ∧ w₀.heap.size ≤ RB ∧ w₀.heap.size ≤ SB ∧ A < base ∧ RB < base ∧ SB < base ∧ A ≠ RB ∧ A ≠ SB ∧ RB ≠ SB
  bs : base ≤ w.heap.size
theorem RM.nob {A RB SB base : Nat} {ps : List Value} (h : RM w₀ w A RB SB base ps m sn all rd ab ac) (c : Chg Nobody w w') : RM w₀ w' A RB SB base ps m sn all rd ab ac := by
  obtain ⟨rs, h1, h2, h3, h4⟩ := h.r
  exact ⟨h.c.trans c, c.row (fun h => h) h.p, c.row (fun h => h) h.s, ⟨rs, c.row (fun h => h) h1, h2, h3, fun f hf => by
    obtain ⟨rb, rc, k1, k2, k3⟩ := h4 f hf
    exact ⟨rb, rc, k1, k2.nob c, k3⟩⟩, h.a.keep c (fun _ _ h => h), h.b, Nat.le_trans h.bs c.size⟩
theorem set_range_map {v : Nat → Value} {u : Value} (hg : g < m) : ((List.range m).map v).set g u = (List.range m).map fun f => if f = g then u else v f := by
  refine List.ext_getElem? fun i => ?_
  rw [List.getElem?_set, List.getElem?_map, List.getElem?_map]
  by_cases h : g = i
  · subst h; simp [hg]
  · rw [if_neg h]
    by_cases hi : i < m
    · simp [List.getElem?_range hi, Ne.symm h]
    · rw [List.getElem?_eq_none (by simpa using hi)]; rfl
/-- A face is seen. -/
theorem RM.see {A RB SB base : Nat} {ps : List Value} (h : RM w₀ w A RB SB base ps m all all rd ab ac) (hg : g < m) (hle : w₀.heap.size ≤ SB) : RM w₀ (w.setCell ⟨SB, g, none⟩ (.bool true)) A RB SB base ps m (all ++ [g]) all rd ab ac := by
  have c : Chg (· = SB) w (w.setCell ⟨SB, g, none⟩ (.bool true)) := (Chg.refl (· = SB) w).setCell _ _ (.inl rfl)
  obtain ⟨b1, b2, b3, b4, b5, b6, b7, b8, b9⟩ := h.b
  obtain ⟨rs, h1, h2, h3, h4⟩ := h.r
  refine ⟨h.c.trans' c (fun i e => by subst e; exact .inr b3), c.row b8 h.p, ?_, ⟨rs, c.row b9 h1, h2, h3, fun f hf => ?_⟩, h.a.keep c (fun k hk e => by have := (h.a.bk_lt hk).1; omega), h.b, Nat.le_trans h.bs c.size⟩
  · have hs := h.s.set g (.bool true)
    rw [set_range_map hg] at hs
    have e : ((List.range m).map fun f => if f = g then Value.bool true else .bool (decide (f ∈ all))) = (List.range m).map fun f => Value.bool (decide (f ∈ all ++ [g])) := by
      refine List.map_congr_left fun f _ => ?_
      by_cases hf : f = g
      · simp [hf]
      · simp [hf]
    rw [← e]; exact hs
  · obtain ⟨rb, rc, k1, k2, k3⟩ := h4 f hf
    exact ⟨rb, rc, k1, k2.keep c (fun k hl hk e => by have := (k3 k hl hk).1; omega), k3⟩
theorem road_fin {A RB SB base c7 : Nat} {b7 : Option Addr} {ps : List Value} {ts : List Ti} (h : RM w₀ w A RB SB base ps m (all ++ [g]) all rd ab ac) (hg : g ∉ all) (hgm : g < m) (hv : VA w b7 ts.length 4 (ts.flatMap encTi)) (hb7 : ∀ k, bk b7 = some k → base ≤ k ∧ bk ab ≠ some k) (hal : all.length ≤ 100000000)
    {K : Option Addr → Nat → Nat → World → Prop} (kk : ∀ ab' ac' w', RM w₀ w' A RB SB base ps m (all ++ [g]) (all ++ [g]) (upd rd g ts) ab' ac' → K ab' (all ++ [g]).length ac' w') :
    ixS (some ⟨RB, 0, none⟩) m (g : Int) 1 fun a8 => sto a8 (.slice b7 ts.length c7) w fun w8 => alo #[.int .i64 (g : Int)] T_int w8 fun a9 w9 => ∃ b10 : Option Addr, ∃ l10 : Nat, ∃ c10 : Nat, ∃ w10 : World,
      (Builtin.append_ #[T_sl_int, T_sl_int] T_sl_int #[.slice ab all.length ac, .slice (some a9) 1 1]).run Pg w9 = .ok (.slice b10 l10 c10) w10 ∧ K b10 l10 c10 w10 := by
  obtain ⟨b1, b2, b3, b4, b5, b6, b7', b8, b9⟩ := h.b
  obtain ⟨rs, h1, h2, h3, h4⟩ := h.r
  refine ixS_i hgm ?_
  rw [Nat.zero_add, Nat.mul_one]
  refine sto_r h1 (by omega) rfl fun hr1 => ?_
  have c : Chg (· = RB) w (w.setCell ⟨RB, g, none⟩ (.slice b7 ts.length c7)) := (Chg.refl (· = RB) w).setCell _ _ (.inl rfl)
  have hp := c.row b7' h.p
  have hs := c.row (fun e => b9 e.symm) h.s
  have ha := h.a.keep c (fun k hk e => by have := (h.a.bk_lt hk).1; omega)
  have hv := hv.keep c (fun k hl hk e => by have := (hb7 k hk).1; omega)
  have hvs : ∀ f ∈ all, ∃ rb rc, rs[f]? = some (.slice rb (rd f).length rc) ∧ VA (w.setCell ⟨RB, g, none⟩ (.slice b7 ts.length c7)) rb (rd f).length 4 ((rd f).flatMap encTi) ∧ (∀ g, 0 < (rd f).length → bk rb = some g → base ≤ g ∧ bk ab ≠ some g) := fun f hf => by
    obtain ⟨rb, rc, k1, k2, k3⟩ := h4 f hf
    exact ⟨rb, rc, k1, k2.keep c (fun k hl hk e => by have := (k3 k hl hk).1; omega), k3⟩
  have hc := h.c.trans' c (fun i e => by subst e; exact .inr b2)
  have hbs := Nat.le_trans h.bs c.size
  generalize w.setCell ⟨RB, g, none⟩ (.slice b7 ts.length c7) = w8 at *
  refine alo1 fun B w9 hB c9 r9 => ?_
  have hs8 := c9.size
  obtain ⟨b10, c10, w10, hrun, ho, c10c, hw⟩ := own_append2 (ty := T_sl_int) ET_int (ha.keep c9 (fun _ _ h => h)) r9 rfl (by simp [oneC]) (by omega) (by omega) (by omega)
  refine ⟨_, _, _, _, hrun, ?_⟩
  have hlen : (all ++ [g]).length = all.length + 1 := by simp
  have hkk := kk b10 c10 w10 ?_
  · rw [hlen] at hkk; exact hkk
  have hfresh : ∀ {rb : Option Addr} {l : Nat} {xs : List Value}, VA w8 rb l 4 xs → (∀ k, 0 < l → bk rb = some k → base ≤ k ∧ bk ab ≠ some k) → VA w10 rb l 4 xs ∧ ∀ k, 0 < l → bk rb = some k → base ≤ k ∧ bk b10 ≠ some k := by
    intro rb l xs hv hk
    refine ⟨(hv.nob c9).keep c10c (fun k hl hk' e => (hk k hl hk').2 e), fun k hl hk' => ⟨(hk k hl hk').1, fun e => ?_⟩⟩
    obtain ⟨g', hg', hlt⟩ := (hv.nob c9).blk hl
    rw [hk'] at hg'; cases hg'
    rcases hw with hw | hw
    · exact (hk k hl hk').2 (by rw [← hw]; exact e)
    · rw [hw] at e; cases e; omega
  have c10n : Chg (fun k => base ≤ k) w9 w10 := c10c.mono fun k _ hk => (h.a.bk_lt hk).1
  refine ⟨(hc.trans c9).trans' c10n (fun i hi => .inr (by have : base ≤ i := hi; omega)), c10n.row (by show ¬ base ≤ A; omega) (c9.row (fun h => h) hp), c10n.row (by show ¬ base ≤ SB; omega) (c9.row (fun h => h) hs), ⟨rs.set g (.slice b7 ts.length c7), c10n.row (by show ¬ base ≤ RB; omega) (c9.row (fun h => h) hr1), by simpa using h2, fun f hf hfn => ?_, fun f hf => ?_⟩, ?_, h.b, by have := c10n.size; omega⟩
  · have hfg : f ≠ g := fun e => hfn (by simp [e])
    rw [List.getElem?_set_ne (Ne.symm hfg)]
    exact h3 f hf (fun h => hfn (List.mem_append_left _ h))
  · by_cases hfg : f = g
    · subst hfg
      rw [upd_same]
      obtain ⟨k1, k2⟩ := hfresh hv (fun k _ hk => hb7 k hk)
      exact ⟨b7, c7, by rw [List.getElem?_set_self (by omega)], k1, k2⟩
    · rw [upd_ne _ _ hfg]
      have hf' : f ∈ all := by
        rcases List.mem_append.1 hf with h' | h'
        · exact h'
        · simp at h'; exact absurd h' hfg
      obtain ⟨rb, rc, k1, k2, k3⟩ := hvs f hf'
      obtain ⟨k4, k5⟩ := hfresh k2 k3
      exact ⟨rb, rc, by rw [List.getElem?_set_ne (Ne.symm hfg)]; exact k1, k4, k5⟩
  · rw [hlen]
    have e : ivs (all ++ [g]) = ivs all ++ [.int .i64 (g : Int)] := by simp [ivs]
    rw [e]; exact ho
end
end Web
end Go.Proofs.YtaoemljoiahapaaGreatDoor
/-
The reference of layer 14: the road between two faces.
Conditions: those that each theorem states.
-/
namespace Go.Proofs.YtaoemljoiahapaaGreatDoor
open Go Go.RowKit
set_option linter.unusedVariables false
set_option linter.unusedSimpArgs false
namespace Web
open Go.Proofs.YtaoemljoiahapaaGreatDoor.Seq Go.Proofs.YtaoemljoiahapaaGreatDoor.Cut
section
variable {w₀ w w' : World} {bad : Nat → Prop} {b sb fb tb ab : Option Addr} {l c i k fl fc tl tc ac f g m n a x y : Nat} {N M : Int} {X : List (List Nat)} {T : List Ti} {t : Ti} {D : Nat → Option (Nat × Nat)} {key : Nat → Int} {all sn : List Nat} {rd : Nat → List Ti}
/-- A face more: it is seen, and its road is that of the face it was reached from, and the tie. -/
theorem road_push {A RB SB base : Nat} (h : RM w₀ w A RB SB base [.int .i64 N, .int .i64 M, .slice fb fl fc, .slice tb tl tc] m all all rd ab ac) (ht : TT w₀ bad tb tl T) (hf : f ∈ all) (hfm : f < m) (hg : g ∉ all) (hgm : g < m) (hT : T[k]? = some t) (hal : all.length ≤ 100000000) (hrl : (rd f).length ≤ 100000000)
    {K : Option Addr → Nat → Nat → World → Prop} (kk : ∀ ab' ac' w', RM w₀ w' A RB SB base [.int .i64 N, .int .i64 M, .slice fb fl fc, .slice tb tl tc] m (all ++ [g]) (all ++ [g]) (upd rd g (rd f ++ [t])) ab' ac' → K ab' (all ++ [g]).length ac' w') :
    ixS (some ⟨SB, 0, none⟩) m (g : Int) 1 fun a1 => sto a1 (.bool true) w fun w1 => ixS (some ⟨RB, 0, none⟩) m (f : Int) 1 fun a2 => ldS a2 (World.drew w1) fun b2 l2 c2 => ldS (Addr.add ⟨A, 0, none⟩ 3) (World.drew w1) fun b3 l3 c3 => ixS b3 l3 (k : Int) 4 fun a4 =>
      ldI .i64 a4 (World.drew w1) fun n0 => ldI .i64 (a4.add 1) (World.drew w1) fun n1 => ldI .i64 (a4.add 2) (World.drew w1) fun n2 => ldI .i64 (a4.add 3) (World.drew w1) fun n3 =>
      (∃ b5 : Option Addr, ∃ l5 : Nat, ∃ c5 : Nat, ∃ w5 : World, (Builtin.append_ #[T_sl_plaitref14_Tie, T_sl_plaitref14_Tie] T_sl_plaitref14_Tie #[(Value.slice none 0 0), (Value.slice b2 l2 c2)]).run Pg (World.drew w1) = .ok (Value.slice b5 l5 c5) w5 ∧
        World.cell? w5 a4 = some (Value.int .i64 n0) ∧ World.cell? w5 (a4.add 1) = some (Value.int .i64 n1) ∧ World.cell? w5 (a4.add 2) = some (Value.int .i64 n2) ∧ World.cell? w5 (a4.add 3) = some (Value.int .i64 n3) ∧ World.cell? w5 (Addr.add ⟨A, 0, none⟩ 3) = some (Value.slice b3 l3 c3) ∧
        alo #[(Value.int .i64 n0), (Value.int .i64 n1), (Value.int .i64 n2), (Value.int .i64 n3)] T_plaitref14_Tie w5 fun a6 w6 =>
        ∃ b7 : Option Addr, ∃ l7 : Nat, ∃ c7 : Nat, ∃ w7 : World, (Builtin.append_ #[T_sl_plaitref14_Tie, T_sl_plaitref14_Tie] T_sl_plaitref14_Tie #[(Value.slice b5 l5 c5), (Value.slice (some a6) 1 1)]).run Pg w6 = .ok (Value.slice b7 l7 c7) w7 ∧
        ixS (some ⟨RB, 0, none⟩) m (g : Int) 1 fun a8 => sto a8 (Value.slice b7 l7 c7) w7 fun w8 => alo #[(Value.int .i64 (g : Int))] T_int w8 fun a9 w9 => ∃ b10 : Option Addr, ∃ l10 : Nat, ∃ c10 : Nat, ∃ w10 : World,
        (Builtin.append_ #[T_sl_int, T_sl_int] T_sl_int #[(Value.slice ab all.length ac), (Value.slice (some a9) 1 1)]).run Pg w9 = .ok (Value.slice b10 l10 c10) w10 ∧ K b10 l10 c10 w10) ∧
      (alo #[(Value.int .i64 n0), (Value.int .i64 n1), (Value.int .i64 n2), (Value.int .i64 n3)] T_plaitref14_Tie (World.drew w1) fun a6 w6 =>
        World.cell? w6 a2 = some (Value.slice b2 l2 c2) ∧ ∃ b5 : Option Addr, ∃ l5 : Nat, ∃ c5 : Nat, ∃ w5 : World, (Builtin.append_ #[T_sl_plaitref14_Tie, T_sl_plaitref14_Tie] T_sl_plaitref14_Tie #[(Value.slice none 0 0), (Value.slice b2 l2 c2)]).run Pg w6 = .ok (Value.slice b5 l5 c5) w5 ∧
        ∃ b7 : Option Addr, ∃ l7 : Nat, ∃ c7 : Nat, ∃ w7 : World, (Builtin.append_ #[T_sl_plaitref14_Tie, T_sl_plaitref14_Tie] T_sl_plaitref14_Tie #[(Value.slice b5 l5 c5), (Value.slice (some a6) 1 1)]).run Pg w5 = .ok (Value.slice b7 l7 c7) w7 ∧
        ixS (some ⟨RB, 0, none⟩) m (g : Int) 1 fun a8 => sto a8 (Value.slice b7 l7 c7) w7 fun w8 => alo #[(Value.int .i64 (g : Int))] T_int w8 fun a9 w9 => ∃ b10 : Option Addr, ∃ l10 : Nat, ∃ c10 : Nat, ∃ w10 : World,
        (Builtin.append_ #[T_sl_int, T_sl_int] T_sl_int #[(Value.slice ab all.length ac), (Value.slice (some a9) 1 1)]).run Pg w9 = .ok (Value.slice b10 l10 c10) w10 ∧ K b10 l10 c10 w10) := by
  obtain ⟨b1, b2, b3, b4, b5, b6, b7', b8, b9⟩ := h.b
  refine ixS_i hgm ?_
  rw [Nat.zero_add, Nat.mul_one]
  refine sto_r h.s (by simpa using hgm) rfl fun _ => ?_
  have h1 := (h.see hgm b3).nob ((Chg.refl _ _).drew)
  have hdr : ∀ w : World, w.drew.heap = w.heap := fun _ => rfl
  generalize hw1 : w.setCell ⟨SB, g, none⟩ (.bool true) = w1 at *
  obtain ⟨rs, r1, r2, r3, r4⟩ := h1.r
  obtain ⟨rb, rc, k1, k2, k3⟩ := r4 f hf
  refine ixS_i hfm ?_
  rw [Nat.zero_add, Nat.mul_one]
  refine ldS_r r1 k1 (ldS_r h1.p rfl ?_)
  refine (ht.nob h1.c).ix hT fun q o ty cs hr e0 e1 e2 e3 => ?_
  refine ldI_r hr e0 (by
    simp only [add_mk]
    refine ldI_r hr e1 (ldI_r hr e2 (ldI_r hr e3 ?_))
    have hencl : [Value.int .i64 (t.e : Int), .int .i64 (t.a : Int), .int .i64 (t.b : Int), .int .i64 t.k] = encTi t := rfl
    have hlen : (rd f ++ [t]).length = (rd f).length + 1 := by simp
    have hcells : (rd f ++ [t]).flatMap encTi = (rd f).flatMap encTi ++ encTi t := by simp
    have one : ∀ u ∈ encTi t, oneC u = true := by
      intro u hu
      exact encTi_one (T := [t]) u (by simpa using hu)
    have newb : ∀ {W W' : World} {b7 : Option Addr} {l7 c7 : Nat} {xs : List Value}, RM w₀ W A RB SB base [.int .i64 N, .int .i64 M, .slice fb fl fc, .slice tb tl tc] m (all ++ [g]) all rd ab ac → Own W' W.heap.size T_plaitref14_Tie 4 b7 l7 c7 xs → ∀ k, bk b7 = some k → base ≤ k ∧ bk ab ≠ some k := by
      intro W W' b7 l7 c7 xs hW ho k hk
      have h1 := (ho.bk_lt hk).1
      have h2 := hW.bs
      exact ⟨by omega, fun e => by have := (hW.a.bk_lt e).2; omega⟩
    refine ⟨?_, ?_⟩
    · obtain ⟨b5, c5, w5, hrun, ho, hc5⟩ := own_appendNil (sc := rc) (ty := T_sl_plaitref14_Tie) ET_Tie k2 encTi_one (by omega) (by omega)
      refine ⟨b5, _, c5, w5, hrun, ?_⟩
      have hr5 := hc5.row (fun h => h) hr
      refine ⟨by rw [hr5.cell]; exact e0, by rw [hr5.cell]; exact e1, by rw [hr5.cell]; exact e2, by rw [hr5.cell]; exact e3, by rw [(hc5.row (fun h => h) h1.p).cell]; rfl, ?_⟩
      refine alo1 fun B w6 hB c6 r6 => ?_
      obtain ⟨b7, c7, w7, hrun7, ho7, c7c, hw7⟩ := own_append2 (ty := T_sl_plaitref14_Tie) ET_Tie (ho.keep c6 (fun _ _ h => h)) r6 rfl (by rw [show (#[Value.int .i64 (t.e : Int), .int .i64 (t.a : Int), .int .i64 (t.b : Int), .int .i64 t.k] : Array Value).toList = encTi t from rfl]; exact one) (by have := hc5.size; have := c6.size; omega) (by omega) (by omega)
      refine ⟨b7, _, c7, w7, hrun7, ?_⟩
      have h5 := h1.nob ((hc5.trans c6).trans' (T := fun k => bk b5 = some k) (c7c) (fun k hk => .inr (ho.bk_lt hk).1))
      have hv := VA.of_own ho7
      rw [show (#[Value.int .i64 (t.e : Int), .int .i64 (t.a : Int), .int .i64 (t.b : Int), .int .i64 t.k] : Array Value).toList = encTi t from rfl, ← hcells, ← hlen] at hv
      rw [← hlen]
      exact road_fin h5 hg hgm hv (newb h1 ho7) hal kk
    · refine alo1 fun B w6 hB c6 r6 => ?_
      refine ⟨by rw [(c6.row (fun h => h) r1).cell]; exact k1, ?_⟩
      obtain ⟨b5, c5, w5, hrun, ho, hc5⟩ := own_appendNil (sc := rc) (ty := T_sl_plaitref14_Tie) ET_Tie (k2.nob c6) encTi_one (by omega) (by omega)
      refine ⟨b5, _, c5, w5, hrun, ?_⟩
      obtain ⟨b7, c7, w7, hrun7, ho7, c7c, hw7⟩ := own_append2 (ty := T_sl_plaitref14_Tie) ET_Tie ho (hc5.row (fun h => h) r6) rfl (by rw [show (#[Value.int .i64 (t.e : Int), .int .i64 (t.a : Int), .int .i64 (t.b : Int), .int .i64 t.k] : Array Value).toList = encTi t from rfl]; exact one) hc5.size (by omega) (by omega)
      refine ⟨b7, _, c7, w7, hrun7, ?_⟩
      have h6 := h1.nob c6
      have h5 := h6.nob (hc5.trans' (T := fun k => bk b5 = some k) (c7c) (fun k hk => .inr (ho.bk_lt hk).1))
      have hv := VA.of_own ho7
      rw [show (#[Value.int .i64 (t.e : Int), .int .i64 (t.a : Int), .int .i64 (t.b : Int), .int .i64 t.k] : Array Value).toList = encTi t from rfl, ← hcells, ← hlen] at hv
      rw [← hlen]
      exact road_fin h5 hg hgm hv (newb h6 ho7) hal kk)
/-- What a list of faces must be. -/
structure FX (n : Nat) (X : List (List Nat)) : Prop where
  nd : X.flatten.Nodup
  lt : ∀ z ∈ X.flatten, z < n
  ne : ∀ A ∈ X, A ≠ []
  all : ∀ z, z < n → ∃ A ∈ X, z ∈ A
  n : n ≤ 4194304
theorem FX.len (h : FX n X) : X.length ≤ n := by
  have hl : X.flatten.length ≤ n := nodup_len h.nd h.lt
  exact Nat.le_trans (len_flat h.ne) hl
theorem FX.each (h : FX n X) {A : List Nat} (hA : A ∈ X) : A.length ≤ n := Nat.le_trans (mem_len hA) (nodup_len h.nd h.lt)
theorem FX.at (h : FX n X) (hx : x < n) : ∃ (f : Nat) (A : List Nat) (k : Nat), X[f]? = some A ∧ A[k]? = some x := by
  obtain ⟨A, hA, hxA⟩ := h.all x hx
  obtain ⟨f, hf⟩ := List.getElem?_of_mem hA
  obtain ⟨k, hk⟩ := List.getElem?_of_mem hxA
  exact ⟨f, A, k, hf, hk⟩
theorem at_of {A : List Nat} (h1 : X[f]? = some A) (h2 : A[k]? = some x) : At X f x := ⟨A, h1, List.mem_of_getElem? h2⟩
theorem c_Road14 {a b : Nat} (h : RF w bad fb fl X) (ht : TT w bad tb tl T) (hS : FX n X) (hR : REL D key T) (hD : ∀ e a b, D e = some (a, b) → a < n ∧ b < n) (htl : tl ≤ 100000000) (ha : a < n) (hb : b < n) (hbad : ∀ k, w.heap.size ≤ k → ¬ bad k) :
    Calls Pg fn_plaitref14_Road #[.agg #[.int .i64 N, .int .i64 M, .slice fb fl fc, .slice tb tl tc], .int .i64 a, .int .i64 b] w fun e w' => ∃ rb rc, ∃ ts : List Ti, ∃ ok, e = .returned (.tuple #[.slice rb ts.length rc, .bool ok]) ∧ (ok = true ↔ RT (EW X D n) a b) ∧
      (ok = true → ∃ l, Cut.Way (EW X D n) a b l ∧ l.filter (fun z => decide (n ≤ z)) = ts.map (fun t => n + t.e)) ∧ (∀ t ∈ ts, t ∈ T) ∧ ts.length ≤ n ∧ VA w' rb ts.length 4 (ts.flatMap encTi) ∧ Chg Nobody w w' := by
  refine (calls_plaitref14_Road _ _ _ _ _ _ _ _ _ _ _ (fun v' w' => ∃ rb rc, ∃ ts : List Ti, ∃ ok, v' = .tuple #[.slice rb (List.length ts) rc, .bool ok] ∧ (ok = true ↔ RT (EW X D n) a b) ∧
      (ok = true → ∃ l, Cut.Way (EW X D n) a b l ∧ l.filter (fun z => decide (n ≤ z)) = ts.map (fun t => n + t.e)) ∧ (∀ t ∈ ts, t ∈ T) ∧ ts.length ≤ n ∧ VA w' rb ts.length 4 (ts.flatMap encTi) ∧ Chg Nobody w w') ?_).mono (by rintro e w' ⟨v, rfl, p1, p2, p3, p4, rfl, k⟩; exact ⟨p1, p2, p3, p4, rfl, k⟩)
  unfold sh_plaitref14_Road
  have hXl := hS.len
  have hn := hS.n
  have hfl : fl = X.length := h.1.symm
  have hbig : ∀ A ∈ X, A.length ≤ 1000000000 := fun A hA => by have := hS.each hA; omega
  obtain ⟨fa, Aa, ka, ha1, ha2⟩ := hS.at ha
  obtain ⟨fz, Ab, kb, hb1, hb2⟩ := hS.at hb
  have hfa := (List.getElem?_eq_some_iff.1 ha1).1
  have hfz := (List.getElem?_eq_some_iff.1 hb1).1
  refine alo1 fun A w7 hA hc7 r7 => ?_
  have hps : (#[Value.int .i64 N, .int .i64 M, .slice fb fl fc, .slice tb tl tc] : Array Value).toList = [.int .i64 N, .int .i64 M, .slice fb fl fc, .slice tb tl tc] := rfl
  rw [hps] at r7
  refine ldS_r r7 rfl ?_
  refine (c_rFind (h.nob hc7) hS.nd ha1 ha2 (by omega) hbig).mono ?_
  rintro e w11 ⟨rfl, hc11⟩
  replace r7 := hc11.row (fun h => h) r7
  replace hc11 := hc7.trans hc11
  refine ⟨_, _, rfl, ldS_r r7 rfl ?_⟩
  refine (c_rFind (h.nob hc11) hS.nd hb1 hb2 (by omega) hbig).mono ?_
  rintro e w16 ⟨rfl, hc16⟩
  replace r7 := hc16.row (fun h => h) r7
  replace hc16 := hc11.trans hc16
  refine ⟨_, _, rfl, ldS_r r7 rfl ⟨by omega, by omega, by omega, ?_⟩⟩
  simp only [Int.toNat_natCast]
  refine alo1 fun RB w20 hRB hc20 r20 => ?_
  have r7l := r7.lt
  replace r7 := hc20.row (fun h => h) r7
  refine ldS_r r7 rfl ⟨by omega, by omega, by omega, ?_⟩
  refine alo1 fun SB w23 hSB hc23 r23 => ?_
  have r20l := r20.lt
  replace r7 := hc23.row (fun h => h) r7
  replace r20 := hc23.row (fun h => h) r20
  rw [zerosOf_recs] at r20 r23
  have es : ∀ v : Value, recs (fun _ => [v]) fl = (List.range fl).map fun _ => v := fun v => by
    unfold recs
    induction (List.range fl) with
    | nil => rfl
    | cons x l ih => rw [List.flatMap_cons, ih]; rfl
  rw [es] at r20 r23
  -- the first face is seen
  refine ixS_i (by omega) ?_
  rw [Nat.zero_add, Nat.mul_one]
  refine sto_r r23 (by simp; omega) rfl fun r25 => ?_
  have c25 : Chg (· = SB) w23 (w23.setCell ⟨SB, fa, none⟩ (.bool true)) := (Chg.refl (· = SB) w23).setCell _ _ (.inl rfl)
  have hA16 := hc7.size
  have hc1620 := hc20.size
  have hc2023 := hc23.size
  have hww : w.heap.size ≤ w16.heap.size := hc16.size
  have hAlt : A < w16.heap.size := r7l
  replace r7 := c25.row (fun e => by omega) r7
  replace r20 := c25.row (fun e => by omega) r20
  rw [set_range_map (by omega)] at r25
  have hc25 : Chg Nobody w (w23.setCell ⟨SB, fa, none⟩ (.bool true)) := ((hc16.trans hc20).trans hc23).trans' c25 (fun i e => .inr (by omega))
  have l20 := r20.lt
  have l25 := r25.lt
  generalize hw25 : w23.setCell ⟨SB, fa, none⟩ (.bool true) = w25 at *
  refine alo1 fun B w27 hB hc27 r27 => ?_
  have h0 : RM w w27 A RB SB w25.heap.size [.int .i64 N, .int .i64 M, .slice fb fl fc, .slice tb tl tc] fl [fa] [fa] (fun _ => []) (some ⟨B, 0, none⟩) 1 := by
    refine ⟨hc25.trans hc27, hc27.row (fun h => h) r7, ?_, ⟨_, hc27.row (fun h => h) r20, by simp, fun f hf _ => by simp [hf], fun f hf => ?_⟩, own_one r27 hB, by omega, hc27.size⟩
    · refine (List.map_congr_left fun f _ => ?_) ▸ hc27.row (fun h => h) r25
      by_cases e : f = fa
      · simp [e]
      · simp [e]
    · simp at hf
      subst hf
      exact ⟨none, 0, by rw [List.getElem?_map, List.getElem?_range (by omega)]; rfl, VA.zero, fun g hg => by simp at hg⟩
  have hw0 : BW n a X D T [fa] (fun _ => []) := BW.init hS.lt (at_of ha1 ha2)
  clear r7 r20 r23 r25 c25 r27 hc27 hc25 hc20 hc23 hc11 hc16 hc7
  have hall : ∀ z, z < n → ∃ f, At X f z := fun z hz => by obtain ⟨f, A, k, h1, h2⟩ := hS.at hz; exact ⟨f, at_of h1 h2⟩
  let J : Nat → List Value → World → Prop := fun j vs w' => ∃ (i : Nat) (all : List Nat) (rd : Nat → List Ti) (ab : Option Addr) (ac : Nat), vs = [.slice ab all.length ac, .int .i64 i] ∧ i ≤ all.length ∧ RM w w' A RB SB w25.heap.size [.int .i64 N, .int .i64 M, .slice fb fl fc, .slice tb tl tc] fl all all rd ab ac ∧
    BW n a X D T all rd ∧ all[0]? = some fa ∧ (∀ f ∈ all, (rd f).length < all.length) ∧ (∀ j f, j < i → all[j]? = some f → ∀ t ∈ T, Done X all f t) ∧ j = fl - i
  refine ⟨LI J, LM J, ⟨_, 0, [fa], _, _, _, rfl, by simp, h0, hw0, rfl, by simp, fun j f hj => by omega, rfl⟩, ?_⟩
  clear h0 hw0
  intro _ sb sl sc i w32 hJ
  obtain ⟨i, all, rd, ab, ac, hvs, hi, hm, hw, hall0, hrl, hdone, hj⟩ := hJ.at
  simp only [List.cons.injEq, Value.slice.injEq, Value.int.injEq, and_true, true_and] at hvs
  obtain ⟨⟨rfl, rfl, rfl⟩, rfl⟩ := hvs
  have hallX : all.length ≤ X.length := nodup_len hw.nd hw.lt
  refine bif_i (fun hc => ?_) (fun hc => ?_) <;> simp only [b1s] at hc
  · -- a face's ties
    obtain ⟨fi, hfi⟩ : ∃ fi, all[i]? = some fi := ⟨_, List.getElem?_eq_getElem (by omega)⟩
    let J2 : Nat → List Value → World → Prop := fun j vs w' => ∃ (k : Nat) (all2 : List Nat) (rd2 : Nat → List Ti) (ab2 : Option Addr) (ac2 : Nat), vs = [.slice ab2 all2.length ac2, .int .i64 k] ∧ k ≤ tl ∧ RM w w' A RB SB w25.heap.size [.int .i64 N, .int .i64 M, .slice fb fl fc, .slice tb tl tc] fl all2 all2 rd2 ab2 ac2 ∧
      BW n a X D T all2 rd2 ∧ all2[0]? = some fa ∧ (∀ f ∈ all2, (rd2 f).length < all2.length) ∧ (∀ j f, j < i → all2[j]? = some f → ∀ t ∈ T, Done X all2 f t) ∧ all2[i]? = some fi ∧ (∀ j t, j < k → T[j]? = some t → Done X all2 fi t) ∧ j = tl - k
    refine ⟨LI J2, LM J2, ⟨_, 0, all, rd, _, _, rfl, by omega, hm, hw, hall0, hrl, hdone, hfi, fun j t hj => by omega, rfl⟩, ?_⟩
    intro _ sb2 sl2 sc2 k w37 hJ2
    obtain ⟨k, all2, rd2, ab2, ac2, hvs2, hk, hm2, hw2, hall02, hrl2, hdone2, hfi2, hdk, hj2⟩ := hJ2.at
    simp only [List.cons.injEq, Value.slice.injEq, Value.int.injEq, and_true, true_and] at hvs2
    obtain ⟨⟨rfl, rfl, rfl⟩, rfl⟩ := hvs2
    have hi2 : i < all2.length := (List.getElem?_eq_some_iff.1 hfi2).1
    have hallX2 : all2.length ≤ X.length := nodup_len hw2.nd hw2.lt
    have hTl := ht.1
    refine ldS_r hm2.p rfl (bif_i (fun hc2 => ?_) (fun hc2 => ?_)) <;> simp only [b1s] at hc2
    · obtain ⟨t, hTk⟩ : ∃ t, T[k]? = some t := ⟨_, List.getElem?_eq_getElem (by omega)⟩
      have htm := List.mem_of_getElem? hTk
      have htab := hD t.e t.a t.b (hR.to t htm).1
      obtain ⟨x, Ax, kx, hx1, hx2⟩ := hS.at htab.1
      obtain ⟨y, Ay, ky, hy1, hy2⟩ := hS.at htab.2
      have hxa := at_of hx1 hx2
      have hyb := at_of hy1 hy2
      have hxl := (List.getElem?_eq_some_iff.1 hx1).1
      have hyl := (List.getElem?_eq_some_iff.1 hy1).1
      have hm3 := hm2.nob ((Chg.refl _ _).drew)
      refine ldS_r hm3.p rfl (ldS_r hm3.p rfl ((ht.nob hm3.c).ix hTk fun q o ty cs hr e0 e1 e2 e3 => ?_))
      rw [add_mk]
      refine ldI_r hr e1 ?_
      refine (c_rFind (h.nob hm3.c) hS.nd hx1 hx2 (by omega) hbig).mono ?_
      rintro e w45 ⟨rfl, hc45⟩
      refine ⟨_, _, rfl, ?_⟩
      have hm4 := hm3.nob (hc45.trans ((Chg.refl _ _).drew))
      refine ldS_r hm4.p rfl (ldS_r hm4.p rfl ((ht.nob hm4.c).ix hTk fun q o ty cs hr e0 e1 e2 e3 => ?_))
      rw [add_mk]
      refine ldI_r hr e2 ?_
      refine (c_rFind (h.nob hm4.c) hS.nd hy1 hy2 (by omega) hbig).mono ?_
      rintro e w53 ⟨rfl, hc53⟩
      have hm5 := hm4.nob hc53
      clear hm2 hm3 hm4 hc45 hc53 hr e0 e1 e2 e3
      refine ⟨_, _, rfl, ?_⟩
      have hrow : ∀ {K : Int → Prop}, K (fi : Nat) → ixS sb2 all2.length (i : Int) 1 fun a => ldI .i64 a w53 K := fun hK =>
        (VA.of_own hm5.a).ix hi2 fun q o ty cs hr _ hcs => ldI_r hr ((hcs 0 (by omega)).trans (by rw [Nat.mul_one, Nat.add_zero]; unfold ivs; rw [List.getElem?_map, hfi2]; rfl)) hK
      refine hrow ?_
      rw [wrap64_in (x := (k : Int) + 1) (by omega) (by omega)]
      have next : ∀ (all3 : List Nat) (rd3 : Nat → List Ti) (ab3 : Option Addr) (ac3 : Nat) (w' : World), RM w w' A RB SB w25.heap.size [.int .i64 N, .int .i64 M, .slice fb fl fc, .slice tb tl tc] fl all3 all3 rd3 ab3 ac3 → BW n a X D T all3 rd3 → all3[0]? = some fa → (∀ f ∈ all3, (rd3 f).length < all3.length) → (∀ g ∈ all2, g ∈ all3) → (∀ j < all2.length, all3[j]? = all2[j]?) →
          Done X all3 fi t → LI J2 [.slice ab3 all3.length ac3, .int .i64 ((k : Int) + 1)] w' ∧ LM J2 [.slice ab3 all3.length ac3, .int .i64 ((k : Int) + 1)] w' < LM J2 [.slice sb2 all2.length sc2, .int .i64 (k : Int)] w37 := by
        intro all3 rd3 ab3 ac3 w' h1 h2 h3 h4 h5 h6 h7
        refine LI.again (k := tl - (k + 1)) ⟨k + 1, all3, rd3, ab3, ac3, rfl, by omega, h1, h2, h3, h4, fun j f hj hf t ht => (hdone2 j f hj (by rw [← h6 j (by omega)]; exact hf) t ht).mono h5, by rw [h6 i hi2]; exact hfi2, fun j t' hj ht' => ?_, rfl⟩ (by rw [hj2]; omega)
        by_cases hjk : j = k
        · subst hjk; rw [hTk] at ht'; cases ht'; exact h7
        · exact (hdk j t' (by omega) ht').mono h5
      have stay := next all2 rd2 sb2 sc2 w53 hm5 hw2 hall02 hrl2 (fun g hg => hg) (fun _ _ => rfl)
      have push : ∀ (f g : Nat), f = fi → f < fl → g < fl → g ∉ all2 → (At X f t.a ∧ At X g t.b) ∨ (At X f t.b ∧ At X g t.a) → ∀ ab' ac' w', RM w w' A RB SB w25.heap.size [.int .i64 N, .int .i64 M, .slice fb fl fc, .slice tb tl tc] fl (all2 ++ [g]) (all2 ++ [g]) (upd rd2 g (rd2 f ++ [t])) ab' ac' →
          LI J2 [.slice ab' (all2 ++ [g]).length ac', .int .i64 ((k : Int) + 1)] w' ∧ LM J2 [.slice ab' (all2 ++ [g]).length ac', .int .i64 ((k : Int) + 1)] w' < LM J2 [.slice sb2 all2.length sc2, .int .i64 (k : Int)] w37 := by
        intro f g hf hfl' hgl hg hab ab' ac' w' hrm
        subst hf
        have hfm := List.mem_of_getElem? hfi2
        refine next _ _ _ _ _ hrm (hw2.push hR hS.nd hS.lt hfm hg htm hab) (by rw [List.getElem?_append_left (by omega)]; exact hall02) (fun f' hf' => ?_) (fun g' hg' => List.mem_append_left _ hg') (fun j hj => List.getElem?_append_left hj) ?_
        · rw [List.length_append, List.length_singleton]
          by_cases e : f' = g
          · subst e
            rw [upd_same, List.length_append, List.length_singleton]
            have := hrl2 f hfm; omega
          · rw [upd_ne _ _ e]
            rcases List.mem_append.1 hf' with h' | h'
            · have := hrl2 f' h'; omega
            · simp at h'; exact absurd h' e
        · intro g'
          have hg'' : ∀ z, At X g z → At X g' z → g' ∈ all2 ++ [g] := fun z h1 h2 => by rw [at_uniq hS.nd h2 h1]; simp
          have hff : ∀ z, At X f z → At X g' z → g' ∈ all2 ++ [g] := fun z h1 h2 => by rw [at_uniq hS.nd h2 h1]; exact List.mem_append_left _ hfm
          rcases hab with ⟨h1, h2⟩ | ⟨h1, h2⟩
          · exact ⟨fun h3 h4 => hg'' _ h2 h4, fun h3 h4 => hff _ h1 h4⟩
          · exact ⟨fun h3 h4 => hff _ h1 h4, fun h3 h4 => hg'' _ h2 h4⟩
      have seen : ∀ (g : Nat) {K : Bool → Prop}, g < fl → K (decide (g ∈ all2)) → ixS (some ⟨SB, 0, none⟩) fl (g : Int) 1 fun a => ldB a w53 K := fun g K hg hK =>
        ixS_i hg (by rw [Nat.zero_add, Nat.mul_one]; exact ldB_r hm5.s (by simp [hg]) hK)
      have hal8 : all2.length ≤ 100000000 := by omega
      have hrl8 : ∀ f ∈ all2, (rd2 f).length ≤ 100000000 := fun f hf => by have := hrl2 f hf; omega
      refine bif_i (fun hyf => ?_) (fun hyf => ?_) <;> simp only [b1s] at hyf
      · -- y is the face: the other way round
        have hyf : y = fi := by omega
        subst hyf
        refine hrow (bif_i (fun h => by simp at h) (fun _ => ?_))
        refine seen x (by omega) (bif_i (fun hs => ?_) (fun hs => ?_)) <;> simp only [b1s] at hs
        · refine stay fun g' => ⟨fun h1 h2 => ?_, fun h1 h2 => ?_⟩
          · rw [at_uniq hS.nd h2 hyb]; exact List.mem_of_getElem? hfi2
          · rw [at_uniq hS.nd h2 hxa]; exact hs
        · exact road_push hm5 ht (List.mem_of_getElem? hfi2) (by omega) hs (by omega) hTk hal8 (hrl8 _ (List.mem_of_getElem? hfi2)) (push y x rfl (by omega) (by omega) hs (.inr ⟨hyb, hxa⟩))
      · refine hrow (bif_i (fun hxf => ?_) (fun hxf => ?_)) <;> simp only [b1s] at hxf
        · refine stay fun g' => ⟨fun h1 h2 => ?_, fun h1 h2 => ?_⟩
          · have := at_uniq hS.nd h1 hxa; omega
          · have := at_uniq hS.nd h1 hyb; omega
        · have hxf : x = fi := by omega
          subst hxf
          refine seen y (by omega) (bif_i (fun hs => ?_) (fun hs => ?_)) <;> simp only [b1s] at hs
          · refine stay fun g' => ⟨fun h1 h2 => ?_, fun h1 h2 => ?_⟩
            · rw [at_uniq hS.nd h2 hyb]; exact hs
            · rw [at_uniq hS.nd h2 hxa]; exact List.mem_of_getElem? hfi2
          · exact road_push hm5 ht (List.mem_of_getElem? hfi2) (by omega) hs (by omega) hTk hal8 (hrl8 _ (List.mem_of_getElem? hfi2)) (push x y rfl (by omega) (by omega) hs (.inl ⟨hxa, hyb⟩))
    · rw [wrap64_in (by omega) (by omega)]
      refine LI.again (k := fl - (i + 1)) ⟨i + 1, all2, rd2, _, _, rfl, by omega, hm2, hw2, hall02, hrl2, fun j f hj hf t ht2 => ?_, rfl⟩ (by rw [hj]; omega)
      by_cases hji : j = i
      · subst hji
        rw [hfi2] at hf; cases hf
        obtain ⟨q, hq⟩ := List.getElem?_of_mem ht2
        exact hdk q t (by have := (List.getElem?_eq_some_iff.1 hq).1; omega) hq
      · exact hdone2 j f (by omega) hf t ht2
  · -- all is gone over
    have hfin : ∀ f ∈ all, ∀ t ∈ T, Done X all f t := fun f hf t ht2 => by
      obtain ⟨j, hjf⟩ := List.getElem?_of_mem hf
      exact hdone j f (by have := (List.getElem?_eq_some_iff.1 hjf).1; omega) hjf t ht2
    have hm3 := hm.nob ((Chg.refl _ _).drew)
    have hfzb := at_of hb1 hb2
    have hiff : fz ∈ all ↔ RT (EW X D n) a b := by
      constructor
      · intro hf
        obtain ⟨l, h1, _⟩ := hw.way fz hf b hfzb
        exact way_rt h1
      · intro hr
        obtain ⟨f, hf, hfb⟩ := hw.closed hR hS.nd hS.lt hall hfin hD ⟨fa, List.mem_of_getElem? hall0, at_of ha1 ha2⟩ hb hr
        rw [at_uniq hS.nd hfzb hfb]; exact hf
    obtain ⟨rs, h1, h2, h3, h4⟩ := hm3.r
    by_cases hz : fz ∈ all
    · obtain ⟨rb, rc, k1, k2, k3⟩ := h4 fz hz
      refine ixS_i (by omega) ?_
      rw [Nat.zero_add, Nat.mul_one]
      refine ldS_r h1 k1 (ixS_i (by omega) ?_)
      rw [Nat.zero_add, Nat.mul_one]
      refine ldB_r (n := true) hm3.s (by rw [List.getElem?_map, List.getElem?_range (by omega)]; simp [hz]) ?_
      refine ⟨rb, rc, rd fz, true, rfl, by simp [← hiff, hz], fun _ => ?_, fun t ht2 => (hw.ties fz hz t ht2).1, ?_, k2, hm3.c⟩
      · obtain ⟨l, h1, h2, _⟩ := hw.way fz hz b hfzb
        exact ⟨l, h1, h2⟩
      · have := hrl fz hz; omega
    · refine ixS_i (by omega) ?_
      rw [Nat.zero_add, Nat.mul_one]
      refine ldS_r h1 (h3 fz (by omega) hz) (ixS_i (by omega) ?_)
      rw [Nat.zero_add, Nat.mul_one]
      refine ldB_r (n := false) hm3.s (by rw [List.getElem?_map, List.getElem?_range (by omega)]; simp [hz]) ?_
      exact ⟨none, 0, [], false, rfl, by simp [← hiff, hz], fun h => (by cases h), fun t h => (by cases h), by simp, VA.zero, hm3.c⟩
end
end Web
end Go.Proofs.YtaoemljoiahapaaGreatDoor
/-
The reference of layer 14: faces merged and split, ties laid and taken away, the weakest one.
Conditions: those that each theorem states.
-/
namespace Go.Proofs.YtaoemljoiahapaaGreatDoor
open Go Go.RowKit
set_option linter.unusedVariables false
set_option linter.unusedSimpArgs false
namespace Web
open Go.Proofs.YtaoemljoiahapaaGreatDoor.Seq Go.Proofs.YtaoemljoiahapaaGreatDoor.Cut
/-- What comes of a split, a merging, an item taken out, a tie, a tie less. -/
def SpOut (n : Nat) (X : List (List Nat)) (a b : Int) (X' : List (List Nat)) (er : Int) : Prop :=
  (¬ ((0 ≤ a ∧ a < n) ∧ 0 ≤ b ∧ b < n) ∧ X' = X ∧ er = 12) ∨
  ∃ x y : Nat, a = x ∧ b = y ∧ x < n ∧ y < n ∧ ((x = y ∧ X' = X ∧ er = 20) ∨ (∃ (i j : Nat) (A B : List Nat), i ≠ j ∧ X[i]? = some A ∧ X[j]? = some B ∧ x ∈ A ∧ y ∈ B ∧ X' = X ∧ er = 21) ∨
    (∃ (i k : Nat) (A mid rest : List Nat), X[i]? = some A ∧ A[k]? = some x ∧ A.drop k ++ A.take k = x :: mid ++ y :: rest ∧ X' = wo X i i X.length ++ [x :: mid, y :: rest] ∧ er = 0))
def MgOut (n : Nat) (X : List (List Nat)) (D : Nat → Option (Nat × Nat)) (a b : Int) (X' : List (List Nat)) (er : Int) : Prop :=
  (¬ ((0 ≤ a ∧ a < n) ∧ 0 ≤ b ∧ b < n) ∧ X' = X ∧ er = 12) ∨
  ∃ x y : Nat, a = x ∧ b = y ∧ x < n ∧ y < n ∧ ((RT (EW X D n) x y ∧ X' = X ∧ er = 20) ∨
    (¬ RT (EW X D n) x y ∧ ∃ (i j k k2 : Nat) (A B : List Nat), i ≠ j ∧ X[i]? = some A ∧ X[j]? = some B ∧ A[k]? = some x ∧ B[k2]? = some y ∧ X' = wo X i j X.length ++ [(A.drop k ++ A.take k) ++ (B.drop k2 ++ B.take k2)] ∧ er = 0))
def ApOut (n : Nat) (X : List (List Nat)) (a : Int) (X' : List (List Nat)) (er : Int) : Prop :=
  (¬ (0 ≤ a ∧ a < n) ∧ X' = X ∧ er = 12) ∨
  ∃ x : Nat, a = x ∧ x < n ∧ ((∃ i : Nat, X[i]? = some [x] ∧ X' = X ∧ er = 20) ∨
    (∃ (i k y : Nat) (A rest : List Nat), X[i]? = some A ∧ A[k]? = some x ∧ A.drop k ++ A.take k = x :: y :: rest ∧ X' = wo X i i X.length ++ [[x], y :: rest] ∧ er = 0))
def AdOut (n m : Nat) (X : List (List Nat)) (D : Nat → Option (Nat × Nat)) (T : List Ti) (e a b k : Int) (T' : List Ti) (er : Int) : Prop :=
  (¬ ((0 ≤ e ∧ e < m) ∧ (0 ≤ a ∧ a < n) ∧ 0 ≤ b ∧ b < n) ∧ T' = T ∧ er = 12) ∨
  ∃ i x y : Nat, e = i ∧ a = x ∧ b = y ∧ i < m ∧ x < n ∧ y < n ∧ ((k = 9223372036854775807 ∧ T' = T ∧ er = 1) ∨ (k ≠ 9223372036854775807 ∧ (RT (EW X D n) x y ∨ ∃ t ∈ T, t.e = i) ∧ T' = T ∧ er = 20) ∨
    (k ≠ 9223372036854775807 ∧ ¬ RT (EW X D n) x y ∧ (∀ t ∈ T, t.e ≠ i) ∧ T' = T ++ [⟨i, x, y, k⟩] ∧ er = 0))
def DrOut (m : Nat) (T : List Ti) (e : Int) (T' : List Ti) (er : Int) : Prop :=
  (¬ (0 ≤ e ∧ e < m) ∧ T' = T ∧ er = 12) ∨
  ∃ i : Nat, e = i ∧ i < m ∧ (((∀ t ∈ T, t.e ≠ i) ∧ T' = T ∧ er = 21) ∨ (∃ (j : Nat) (t : Ti), T[j]? = some t ∧ t.e = i ∧ T' = T.take j ++ T.drop (j + 1) ∧ er = 0))
/-- The weakest one of a list of ties. -/
def Wk (ts : List Ti) (z : Int) : Prop := (ts = [] ∧ z = -1) ∨ ∃ (j : Nat) (t : Ti), ts[j]? = some t ∧ z = t.e ∧ (∀ j' s, j' < j → ts[j']? = some s → t.k < s.k) ∧ ∀ s ∈ ts, t.k ≤ s.k
def WkOut (n : Nat) (X : List (List Nat)) (D : Nat → Option (Nat × Nat)) (T : List Ti) (a b z er : Int) : Prop :=
  (¬ ((0 ≤ a ∧ a < n) ∧ 0 ≤ b ∧ b < n) ∧ z = 0 ∧ er = 12) ∨
  ∃ x y : Nat, a = x ∧ b = y ∧ x < n ∧ y < n ∧ ((¬ RT (EW X D n) x y ∧ z = 0 ∧ er = 21) ∨
    (er = 0 ∧ ∃ l ts, Cut.Way (EW X D n) x y l ∧ l.filter (fun z => decide (n ≤ z)) = ts.map (fun t => n + t.e) ∧ (∀ t ∈ ts, t ∈ T) ∧ Wk ts z))
section
variable {w₀ w w' : World} {bad : Nat → Prop} {b sb fb tb ab : Option Addr} {l c i k fl fc tl tc ac f g m n a x y : Nat} {X : List (List Nat)} {T : List Ti} {t : Ti} {D : Nat → Option (Nat × Nat)} {key : Nat → Int} {all sn : List Nat} {rd : Nat → List Ti}
/-- A web of the reference, as it reads. -/
structure RW (w : World) (bad : Nat → Prop) (n m : Nat) (D : Nat → Option (Nat × Nat)) (key : Nat → Int) (X : List (List Nat)) (T : List Ti) (fb : Option Addr) (fl : Nat) (tb : Option Addr) (tl tc : Nat) : Prop where
  f : RF w bad fb fl X
  t : TT w bad tb tl T
  c : tl ≤ tc
  x : FX n X
  r : REL D key T
  d : ∀ e a b, D e = some (a, b) → e < m ∧ a < n ∧ b < n
  m : m ≤ 1048576
theorem RW.nob (h : RW w bad n m D key X T fb fl tb tl tc) (k : Chg Nobody w w') : RW w' bad n m D key X T fb fl tb tl tc := ⟨h.f.nob k, h.t.nob k, h.c, h.x, h.r, h.d, h.m⟩
theorem RW.keep {S : Nat → Prop} (h : RW w bad n m D key X T fb fl tb tl tc) (k : Chg S w w') (hS : ∀ i, S i → bad i) : RW w' bad n m D key X T fb fl tb tl tc := ⟨h.f.keep k hS, h.t.keep k hS, h.c, h.x, h.r, h.d, h.m⟩
theorem RW.tl_le (h : RW w bad n m D key X T fb fl tb tl tc) : tl ≤ 1048576 := by
  have h1 : (T.map (·.e)).length ≤ m := nodup_len h.r.nd fun e he => by
    obtain ⟨t, ht, rfl⟩ := List.mem_map.1 he
    exact (h.d _ _ _ (h.r.to t ht).1).1
  rw [List.length_map, h.t.1] at h1
  have := h.m
  omega
theorem RW.dl (h : RW w bad n m D key X T fb fl tb tl tc) : ∀ e a b, D e = some (a, b) → a < n ∧ b < n := fun e a b hD => (h.d e a b hD).2
theorem c_Weakest14 {a b : Int} (h : RW w bad n m D key X T fb fl tb tl tc) (hbad : ∀ k, w.heap.size ≤ k → ¬ bad k) :
    Calls Pg fn_plaitref14_Weakest #[.agg #[.int .i64 (n : Nat), .int .i64 (m : Nat), .slice fb fl fc, .slice tb tl tc], .int .i64 a, .int .i64 b] w fun e w' => ∃ z er : Int, e = .returned (.tuple #[.int .i64 z, .int .i64 er]) ∧ WkOut n X D T a b z er ∧ Chg Nobody w w' := by
  refine (calls_plaitref14_Weakest _ _ _ _ _ _ _ _ _ _ _ (fun v' w' => ∃ z er : Int, v' = .tuple #[.int .i64 z, .int .i64 er] ∧ WkOut n X D T a b z er ∧ Chg Nobody w w') ?_).mono (by rintro e w' ⟨v, rfl, z, er, rfl, k⟩; exact ⟨z, er, rfl, k⟩)
  unfold sh_plaitref14_Weakest
  refine alo1 fun A w7 hA hc7 r7 => ld4 r7 ?_
  refine c_In14.mono ?_
  rintro e w13 ⟨rfl, hc13⟩
  refine ⟨_, rfl, bif_i (fun hn => ?_) (fun hn => ?_)⟩ <;> simp only [b1s] at hn
  · exact ⟨_, _, rfl, .inl ⟨hn, rfl, rfl⟩, hc7.trans hc13⟩
  obtain ⟨⟨ha0, han⟩, hb0, hbn⟩ := hn
  obtain ⟨x, rfl⟩ := Int.eq_ofNat_of_zero_le ha0
  obtain ⟨y, rfl⟩ := Int.eq_ofNat_of_zero_le hb0
  have r13 := hc13.row (fun h => h) r7
  have hch := hc7.trans hc13
  have h13 := h.nob hch
  refine ld4 r13 ?_
  have htl := h.tl_le
  refine (c_Road14 h13.f h13.t h13.x h13.r h13.dl (by omega) (by omega) (by omega) (fun k hk => hbad k (Nat.le_trans hch.size hk))).mono ?_
  rintro e w21 ⟨rb, rc, ts, ok, rfl, hok, hway, hts, htsl, hva, hc21⟩
  have hch := hch.trans hc21
  refine ⟨_, _, _, _, rfl, bif_i (fun hn => ?_) (fun hn => ?_)⟩ <;> simp only [b1s] at hn
  · subst hn
    exact ⟨_, _, rfl, .inr ⟨x, y, rfl, rfl, by omega, by omega, .inl ⟨fun hr => (by have := hok.2 hr; cases this), rfl, rfl⟩⟩, hch⟩
  subst hn
  have hnn := h.x.n
  have htt : TT w21 Nobody rb ts.length ts := ⟨rfl, fun _ _ _ h => h, hva⟩
  obtain ⟨l, hw1, hw2⟩ := hway rfl
  have out : ∀ z, Wk ts z → WkOut n X D T x y z 0 := fun z hz => .inr ⟨x, y, rfl, rfl, by omega, by omega, .inr ⟨rfl, l, ts, hw1, hw2, hts, hz⟩⟩
  let J : Nat → List Value → World → Prop := fun j vs w' => ∃ (i : Nat) (z : Int), vs = [.int .i64 z, .int .i64 i] ∧ i ≤ ts.length ∧ Chg Nobody w21 w' ∧ ((i = 0 ∧ z = -1) ∨ ∃ (q : Nat) (t : Ti), z = q ∧ q < i ∧ ts[q]? = some t ∧ (∀ j' s, j' < q → ts[j']? = some s → t.k < s.k) ∧ (∀ j' s, j' < i → ts[j']? = some s → t.k ≤ s.k)) ∧ j = ts.length - i
  refine ⟨LI J, LM J, ⟨_, 0, -1, rfl, by omega, Chg.refl _ _, .inl ⟨rfl, rfl⟩, rfl⟩, ?_⟩
  intro _ z i w27 hJ
  obtain ⟨i, z, hvs, hi, hc27, hz, hj⟩ := hJ.at
  simp only [List.cons.injEq, Value.int.injEq, and_true, true_and] at hvs
  obtain ⟨rfl, rfl⟩ := hvs
  have htt' := htt.nob hc27
  have again : ∀ (z' : Int), ((i + 1 = 0 ∧ z' = -1) ∨ ∃ (q : Nat) (t : Ti), z' = q ∧ q < i + 1 ∧ ts[q]? = some t ∧ (∀ j' s, j' < q → ts[j']? = some s → t.k < s.k) ∧ (∀ j' s, j' < i + 1 → ts[j']? = some s → t.k ≤ s.k)) → i < ts.length →
      LI J [.int .i64 z', .int .i64 (IntKind.wrap .i64 ((i : Int) + 1))] w27.drew ∧ LM J [.int .i64 z', .int .i64 (IntKind.wrap .i64 ((i : Int) + 1))] w27.drew < LM J [.int .i64 z, .int .i64 (i : Int)] w27 := fun z' h1 h2 => by
    rw [wrap64_in (by omega) (by omega)]
    exact LI.again (k := ts.length - (i + 1)) ⟨i + 1, z', rfl, by omega, hc27.drew, h1, rfl⟩ (by rw [hj]; omega)
  refine bif_i (fun hc => ?_) (fun hc => ?_) <;> simp only [b1s] at hc
  · have hil : i < ts.length := by omega
    have hti := List.getElem?_eq_getElem hil
    rcases hz with ⟨rfl, rfl⟩ | ⟨q, t, rfl, hq, htq, h1, h2⟩
    · refine bif_i (fun _ => again _ (.inr ⟨0, _, rfl, by omega, hti, fun j' s hj => by omega, fun j' s hj hs => ?_⟩) hil) (fun h => by simp at h)
      have : j' = 0 := by omega
      subst this
      rw [hti] at hs; cases hs; exact Int.le_refl _
    · refine bif_i (fun h => ?_) (fun _ => ?_)
      · simp only [b1s] at h; omega
      refine (htt'.drew).ix hti fun g o ty cs hr e0 e1 e2 e3 => ?_
      rw [add_mk]
      refine ldI_r hr e3 ?_
      refine (htt'.drew).ix htq fun g o ty cs hr e0 e1 e2 e3 => ?_
      rw [add_mk]
      refine ldI_r hr e3 (bif_i (fun hlt => ?_) (fun hlt => ?_)) <;> simp only [b1s] at hlt
      · refine again _ (.inr ⟨i, _, rfl, by omega, hti, fun j' s hj hs => ?_, fun j' s hj hs => ?_⟩) hil
        · have := h2 j' s hj hs; omega
        · by_cases e : j' = i
          · subst e; rw [hti] at hs; cases hs; exact Int.le_refl _
          · have := h2 j' s (by omega) hs; omega
      · refine again _ (.inr ⟨q, t, rfl, by omega, htq, h1, fun j' s hj hs => ?_⟩) hil
        by_cases e : j' = i
        · subst e; rw [hti] at hs; cases hs; omega
        · exact h2 j' s (by omega) hs
  · rcases hz with ⟨rfl, rfl⟩ | ⟨q, t, rfl, hq, htq, h1, h2⟩
    · refine bif_i (fun _ => ⟨_, _, rfl, out _ (.inl ⟨List.length_eq_zero_iff.1 (by omega), rfl⟩), hch.trans hc27⟩) (fun h => by simp at h)
    · refine bif_i (fun h => ?_) (fun _ => ?_)
      · simp only [b1s] at h; omega
      refine htt'.ix htq fun g o ty cs hr e0 e1 e2 e3 => ldI_r hr e0 ⟨_, _, rfl, out _ (.inr ⟨q, t, htq, rfl, h1, fun s hs => ?_⟩), hch.trans hc27⟩
      obtain ⟨j', hj'⟩ := List.getElem?_of_mem hs
      exact h2 j' s (by have := (List.getElem?_eq_some_iff.1 hj').1; omega) hj'
theorem RF.weak {bad' : Nat → Prop} {X : List (List Nat)} (h : RF w bad' b l X) (hb : ∀ k, bad k → bad' k) : RF w bad b l X := by
  obtain ⟨h1, h2, h3⟩ := h
  refine ⟨h1, fun k hk hbk => h2 k hk (hb k hbk), h3.imp id ?_⟩
  rintro ⟨g, o, e, cs, rfl, hr, hc⟩
  refine ⟨g, o, e, cs, rfl, hr, fun i A hA => ?_⟩
  obtain ⟨eb, ec, h4, h5, h6, h7⟩ := hc i A hA
  exact ⟨eb, ec, h4, h5, fun k hk hbk => h6 k hk (hb k hbk), h7⟩
theorem RF.grow {bad' : Nat → Prop} {X : List (List Nat)} (h : RF w bad b l X) (hne : ∀ A ∈ X, A ≠ []) (hl : 0 < l) (hb : ∀ k, k < w.heap.size → bad' k → bad k) : RF w bad' b l X := by
  obtain ⟨h1, h2, h3⟩ := h
  rcases h3 with h0 | ⟨g, o, e, cs, rfl, hr, hc⟩
  · omega
  refine ⟨h1, fun k hk hbk => ?_, .inr ⟨g, o, e, cs, rfl, hr, fun i A hA => ?_⟩⟩
  · cases hk; exact h2 g rfl (hb g hr.lt hbk)
  · obtain ⟨eb, ec, h4, h5, h6, h7⟩ := hc i A hA
    refine ⟨eb, ec, h4, h5, fun k hk hbk => ?_, h7⟩
    obtain ⟨g', hg', hlt⟩ := h5.blk (List.length_pos_iff.2 (hne A (List.mem_of_getElem? hA)))
    rw [hk] at hg'; cases hg'
    exact h6 k hk (hb k hlt hbk)
theorem TT.weak {bad' : Nat → Prop} (h : TT w bad' b l T) (hb : ∀ k, bad k → bad' k) : TT w bad b l T := ⟨h.1, fun g hl hg hbk => h.2.1 g hl hg (hb g hbk), h.2.2⟩
theorem TT.grow {bad' : Nat → Prop} (h : TT w bad b l T) (hb : ∀ k, k < w.heap.size → bad' k → bad k) : TT w bad' b l T :=
  ⟨h.1, fun g hl hg hbk => by
    obtain ⟨g', hg', hlt⟩ := h.2.2.blk hl
    rw [hg] at hg'; cases hg'
    exact h.2.1 g hl hg (hb g hlt hbk), h.2.2⟩
theorem RW.weak {bad' : Nat → Prop} (h : RW w bad' n m D key X T fb fl tb tl tc) (hb : ∀ k, bad k → bad' k) : RW w bad n m D key X T fb fl tb tl tc := ⟨RF.weak h.f hb, h.t.weak hb, h.c, h.x, h.r, h.d, h.m⟩
theorem RW.grow {bad' : Nat → Prop} (h : RW w bad n m D key X T fb fl tb tl tc) (h0 : 0 < n) (hb : ∀ k, k < w.heap.size → bad' k → bad k) : RW w bad' n m D key X T fb fl tb tl tc := by
  refine ⟨RF.grow h.f h.x.ne ?_ hb, h.t.grow hb, h.c, h.x, h.r, h.d, h.m⟩
  obtain ⟨A, hA, _⟩ := h.x.all 0 h0
  rw [← h.f.1]
  exact List.length_pos_iff.2 (fun e => by rw [e] at hA; cases hA)
theorem c_New14 (hn : n ≤ 1000000) (hbad : ∀ k, w.heap.size ≤ k → ¬ bad k) : Calls Pg fn_plaitref14_New #[.int .i64 (n : Nat), .int .i64 (m : Nat)] w fun e w' => ∃ fb fc, e = .returned (.agg #[.int .i64 (n : Nat), .int .i64 (m : Nat), .slice fb n fc, .slice none 0 0]) ∧ RF w' bad fb n (ones n) ∧ Chg Nobody w w' := by
  refine (calls_plaitref14_New _ _ _ (fun v' w' => ∃ fb fc, v' = .agg #[.int .i64 (n : Nat), .int .i64 (m : Nat), .slice fb n fc, .slice none 0 0] ∧ RF w' bad fb n (ones n) ∧ Chg Nobody w w') ?_).mono (by rintro e w' ⟨v, rfl, a, b, rfl, k⟩; exact ⟨a, b, rfl, k⟩)
  unfold sh_plaitref14_New
  refine alo1 fun A w3 hA hc3 r3 => ?_
  refine (c_rNew (bad := fun k => bad k ∨ k = A) hn (fun k hk h => h.elim (hbad k (Nat.le_trans hc3.size hk)) (fun e => by have := r3.lt; omega))).mono ?_
  rintro e w5 ⟨fb, fc, rfl, hf, hc5⟩
  refine ⟨_, _, _, rfl, ?_⟩
  refine st4 (hc5.row (fun h => h) r3) rfl rfl rfl rfl rfl fun w' hc' r' => ld4 r' ?_
  exact ⟨_, _, rfl, RF.weak (hf.keep hc' (fun i e => .inr e)) (fun k h => .inl h), (hc3.trans hc5).trans' hc' (fun i e => .inr (by omega))⟩
/-- New faces, or new ties, put into the record, which is handed back. -/
theorem put2 {A B : Nat} {ty ty' : TypeId} {cs : List Value} {n0 n1 : Int} {b2 b3 rb : Option Addr} {l2 c2 l3 c3 rl rc : Nat} (rA : Row w.heap A ty [.int .i64 n0, .int .i64 n1, .slice b2 l2 c2, .slice b3 l3 c3]) (rB : Row w.heap B ty' cs) (hl : cs.length = 4) (hAB : A ≠ B)
    {K : Int → Int → Option Addr → Nat → Nat → Option Addr → Nat → Nat → World → Prop} (k : ∀ w', Chg (fun k => k = A ∨ k = B) w w' → K n0 n1 rb rl rc b3 l3 c3 w') :
    sto (Addr.add ⟨A, 0, none⟩ 2) (.slice rb rl rc) w fun w0 => ldI .i64 ⟨A, 0, none⟩ w0 fun x0 => ldI .i64 (Addr.add ⟨A, 0, none⟩ 1) w0 fun x1 => ldS (Addr.add ⟨A, 0, none⟩ 2) w0 fun x2b x2l x2c => ldS (Addr.add ⟨A, 0, none⟩ 3) w0 fun x3b x3l x3c =>
      sto ⟨B, 0, none⟩ (.int .i64 x0) w0 fun w1 => sto (Addr.add ⟨B, 0, none⟩ 1) (.int .i64 x1) w1 fun w2 => sto (Addr.add ⟨B, 0, none⟩ 2) (.slice x2b x2l x2c) w2 fun w3 => sto (Addr.add ⟨B, 0, none⟩ 3) (.slice x3b x3l x3c) w3 fun w4 =>
      ldI .i64 ⟨B, 0, none⟩ w4 fun y0 => ldI .i64 (Addr.add ⟨B, 0, none⟩ 1) w4 fun y1 => ldS (Addr.add ⟨B, 0, none⟩ 2) w4 fun y2b y2l y2c => ldS (Addr.add ⟨B, 0, none⟩ 3) w4 fun y3b y3l y3c => K y0 y1 y2b y2l y2c y3b y3l y3c w4 := by
  refine sto_r (o := 2) rA (by simp) rfl fun r => ?_
  have c : Chg (· = A) w (w.setCell ⟨A, 2, none⟩ (.slice rb rl rc)) := (Chg.refl (· = A) w).setCell _ _ (.inl rfl)
  refine cpR r (c.row (fun e => hAB e.symm) rB) hl fun w' hc => k w' ?_
  exact (c.mono fun i _ e => .inl e).trans (hc.mono fun i _ e => .inr e)
theorem put3 {A B : Nat} {ty ty' : TypeId} {cs : List Value} {n0 n1 : Int} {b2 b3 rb : Option Addr} {l2 c2 l3 c3 rl rc : Nat} (rA : Row w.heap A ty [.int .i64 n0, .int .i64 n1, .slice b2 l2 c2, .slice b3 l3 c3]) (rB : Row w.heap B ty' cs) (hl : cs.length = 4) (hAB : A ≠ B)
    {K : Int → Int → Option Addr → Nat → Nat → Option Addr → Nat → Nat → World → Prop} (k : ∀ w', Chg (fun k => k = A ∨ k = B) w w' → K n0 n1 b2 l2 c2 rb rl rc w') :
    sto (Addr.add ⟨A, 0, none⟩ 3) (.slice rb rl rc) w fun w0 => ldI .i64 ⟨A, 0, none⟩ w0 fun x0 => ldI .i64 (Addr.add ⟨A, 0, none⟩ 1) w0 fun x1 => ldS (Addr.add ⟨A, 0, none⟩ 2) w0 fun x2b x2l x2c => ldS (Addr.add ⟨A, 0, none⟩ 3) w0 fun x3b x3l x3c =>
      sto ⟨B, 0, none⟩ (.int .i64 x0) w0 fun w1 => sto (Addr.add ⟨B, 0, none⟩ 1) (.int .i64 x1) w1 fun w2 => sto (Addr.add ⟨B, 0, none⟩ 2) (.slice x2b x2l x2c) w2 fun w3 => sto (Addr.add ⟨B, 0, none⟩ 3) (.slice x3b x3l x3c) w3 fun w4 =>
      ldI .i64 ⟨B, 0, none⟩ w4 fun y0 => ldI .i64 (Addr.add ⟨B, 0, none⟩ 1) w4 fun y1 => ldS (Addr.add ⟨B, 0, none⟩ 2) w4 fun y2b y2l y2c => ldS (Addr.add ⟨B, 0, none⟩ 3) w4 fun y3b y3l y3c => K y0 y1 y2b y2l y2c y3b y3l y3c w4 := by
  refine sto_r (o := 3) rA (by simp) rfl fun r => ?_
  have c : Chg (· = A) w (w.setCell ⟨A, 3, none⟩ (.slice rb rl rc)) := (Chg.refl (· = A) w).setCell _ _ (.inl rfl)
  refine cpR r (c.row (fun e => hAB e.symm) rB) hl fun w' hc => k w' ?_
  exact (c.mono fun i _ e => .inl e).trans (hc.mono fun i _ e => .inr e)
theorem FX.big (h : FX n X) : X.length ≤ 10000000 ∧ ∀ A ∈ X, A.length ≤ 10000000 := by
  have h1 := h.len
  have h2 := h.n
  exact ⟨by omega, fun A hA => by have := h.each hA; omega⟩
/-- A cycle seen from an item of it on. -/
theorem rot_split {A : List Nat} {x y : Nat} (hx : A[k]? = some x) (hy : y ∈ A) (hne : x ≠ y) : ∃ mid rest, A.drop k ++ A.take k = x :: mid ++ y :: rest := by
  obtain ⟨h1, h2⟩ := split_at hx
  rw [h2]
  have hm : y ∈ A.drop (k + 1) ++ A.take k := by
    rw [h1] at hy
    simp only [List.mem_append, List.mem_cons] at hy ⊢
    rcases hy with h | h | h
    · exact .inr h
    · exact absurd h.symm hne
    · exact .inl h
  obtain ⟨mid, rest, e⟩ := List.append_of_mem hm
  exact ⟨mid, rest, by rw [List.cons_append, e]; simp⟩
theorem c_Split14 {a b : Int} (h : RW w bad n m D key X T fb fl tb tl tc) (h0 : 0 < n) (hbad : ∀ k, w.heap.size ≤ k → ¬ bad k) :
    Calls Pg fn_plaitref14_Split #[.agg #[.int .i64 (n : Nat), .int .i64 (m : Nat), .slice fb fl fc, .slice tb tl tc], .int .i64 a, .int .i64 b] w fun e w' => ∃ rb rl rc X' er, e = .returned (.tuple #[.agg #[.int .i64 (n : Nat), .int .i64 (m : Nat), .slice rb rl rc, .slice tb tl tc], .int .i64 er]) ∧ SpOut n X a b X' er ∧ RF w' bad rb rl X' ∧ Chg Nobody w w' := by
  refine (calls_plaitref14_Split _ _ _ _ _ _ _ _ _ _ _ (fun v' w' => ∃ rb rl rc X' er, v' = .tuple #[.agg #[.int .i64 (n : Nat), .int .i64 (m : Nat), .slice rb rl rc, .slice tb tl tc], .int .i64 er] ∧ SpOut n X a b X' er ∧ RF w' bad rb rl X' ∧ Chg Nobody w w') ?_).mono (by rintro e w' ⟨v, rfl, p1, p2, p3, p4, p5, rfl, k⟩; exact ⟨p1, p2, p3, p4, p5, rfl, k⟩)
  unfold sh_plaitref14_Split
  refine alo2 fun A B w9 hAB hA hB hc9 rA rB => ld4 rA ?_
  refine c_In14.mono ?_
  rintro e w15 ⟨rfl, hc15⟩
  have rA15 := hc15.row (fun h => h) rA
  have rB15 := hc15.row (fun h => h) rB
  have hch := hc9.trans hc15
  refine ⟨_, rfl, bif_i (fun hn => ?_) (fun hn => ?_)⟩ <;> simp only [b1s] at hn
  · refine cpR rA15 rB15 rfl fun w' hc' => ?_
    have hc := hch.trans' hc' (fun i e => .inr (by omega))
    exact ⟨_, _, _, X, 12, rfl, .inl ⟨hn, rfl, rfl⟩, h.f.nob hc, hc⟩
  obtain ⟨⟨ha0, han⟩, hb0, hbn⟩ := hn
  obtain ⟨x, rfl⟩ := Int.eq_ofNat_of_zero_le ha0
  obtain ⟨y, rfl⟩ := Int.eq_ofNat_of_zero_le hb0
  have h15 := (h.grow (bad' := fun k => bad k ∨ k = A ∨ k = B) h0 (fun k hk hb => hb.elim id fun e => by omega)).nob hch
  have hlA := rA15.lt
  have hlB := rB15.lt
  have hs15 := hch.size
  have hbad' : ∀ k, w15.heap.size ≤ k → ¬ (bad k ∨ k = A ∨ k = B) := fun k hk hb => hb.elim (hbad k (by omega)) (fun e => by omega)
  obtain ⟨i, Ax, kx, hx1, hx2⟩ := h.x.at (x := x) (by omega)
  obtain ⟨j, Ay, ky, hy1, hy2⟩ := h.x.at (x := y) (by omega)
  obtain ⟨hbX, hbA⟩ := h.x.big
  have hfl : fl = X.length := h.f.1.symm
  refine ldS_r rA15 rfl ?_
  have fin : ∀ (rb : Option Addr) (rl rc : Nat) (X' : List (List Nat)) (er : Int) (w32 : World), RF w32 (fun k => bad k ∨ k = A ∨ k = B) rb rl X' → Chg Nobody w15 w32 → SpOut n X x y X' er →
      ∀ w', Chg (fun k => k = A ∨ k = B) w32 w' → ∃ rb' rl' rc' X'' er', Value.tuple #[.agg #[.int .i64 (n : Int), .int .i64 (m : Int), .slice rb rl rc, .slice tb tl tc], .int .i64 er] = .tuple #[.agg #[.int .i64 (n : Int), .int .i64 (m : Int), .slice rb' rl' rc', .slice tb tl tc], .int .i64 er'] ∧ SpOut n X x y X'' er' ∧ RF w' bad rb' rl' X'' ∧ Chg Nobody w w' :=
    fun rb rl rc X' er w32 h1 h2 h3 w' hc => ⟨_, _, _, _, _, rfl, h3, RF.weak (h1.keep hc (fun i e => .inr e)) (fun k hk => .inl hk), (hch.trans h2).trans' hc (fun i e => .inr (by omega))⟩
  by_cases hxy : x = y
  · subst hxy
    refine (c_rSplit05_same h15.f h.x.nd hx1 hx2 (by omega) hbA).mono ?_
    rintro e w32 ⟨rfl, hc⟩
    refine ⟨_, _, _, _, rfl, put2 (hc.row (fun h => h) rA15) (hc.row (fun h => h) rB15) rfl hAB fun w' hc' => ?_⟩
    exact fin _ _ _ X 20 w32 (h15.f.nob hc) hc (.inr ⟨x, x, rfl, rfl, by omega, by omega, .inl ⟨rfl, rfl, rfl⟩⟩) w' hc'
  by_cases hij : i = j
  · subst hij
    rw [hx1] at hy1; cases hy1
    obtain ⟨mid, rest, hW⟩ := rot_split hx2 (List.mem_of_getElem? hy2) hxy
    refine (c_rSplit05 h15.f h.x.nd h.x.ne hx1 hx2 hW (by omega) hbA hbad').mono ?_
    rintro e w32 ⟨rb, rl, rc, rfl, hf, hc⟩
    refine ⟨_, _, _, _, rfl, put2 (hc.row (fun h => h) rA15) (hc.row (fun h => h) rB15) rfl hAB fun w' hc' => ?_⟩
    exact fin _ _ _ _ 0 w32 hf hc (.inr ⟨x, y, rfl, rfl, by omega, by omega, .inr (.inr ⟨i, kx, _, mid, rest, hx1, hx2, hW, by rw [hfl], rfl⟩)⟩) w' hc'
  · refine (c_rSplit05_apart h15.f h.x.nd hx1 hx2 hy1 hy2 hij (by omega) hbA).mono ?_
    rintro e w32 ⟨rfl, hc⟩
    refine ⟨_, _, _, _, rfl, put2 (hc.row (fun h => h) rA15) (hc.row (fun h => h) rB15) rfl hAB fun w' hc' => ?_⟩
    exact fin _ _ _ X 21 w32 (h15.f.nob hc) hc (.inr ⟨x, y, rfl, rfl, by omega, by omega, .inr (.inl ⟨i, j, _, _, hij, hx1, hy1, List.mem_of_getElem? hx2, List.mem_of_getElem? hy2, rfl, rfl⟩)⟩) w' hc'
theorem c_Apart14 {a : Int} (h : RW w bad n m D key X T fb fl tb tl tc) (h0 : 0 < n) (hbad : ∀ k, w.heap.size ≤ k → ¬ bad k) :
    Calls Pg fn_plaitref14_Apart #[.agg #[.int .i64 (n : Nat), .int .i64 (m : Nat), .slice fb fl fc, .slice tb tl tc], .int .i64 a] w fun e w' => ∃ rb rl rc X' er, e = .returned (.tuple #[.agg #[.int .i64 (n : Nat), .int .i64 (m : Nat), .slice rb rl rc, .slice tb tl tc], .int .i64 er]) ∧ ApOut n X a X' er ∧ RF w' bad rb rl X' ∧ Chg Nobody w w' := by
  refine (calls_plaitref14_Apart _ _ _ _ _ _ _ _ _ _ (fun v' w' => ∃ rb rl rc X' er, v' = .tuple #[.agg #[.int .i64 (n : Nat), .int .i64 (m : Nat), .slice rb rl rc, .slice tb tl tc], .int .i64 er] ∧ ApOut n X a X' er ∧ RF w' bad rb rl X' ∧ Chg Nobody w w') ?_).mono (by rintro e w' ⟨v, rfl, p1, p2, p3, p4, p5, rfl, k⟩; exact ⟨p1, p2, p3, p4, p5, rfl, k⟩)
  unfold sh_plaitref14_Apart
  refine alo2 fun A B w9 hAB hA hB hc9 rA rB => ld4 rA ?_
  refine c_In14.mono ?_
  rintro e w15 ⟨rfl, hc15⟩
  have rA15 := hc15.row (fun h => h) rA
  have rB15 := hc15.row (fun h => h) rB
  have hch := hc9.trans hc15
  refine ⟨_, rfl, bif_i (fun hn => ?_) (fun hn => ?_)⟩ <;> simp only [b1s] at hn
  · refine cpR rA15 rB15 rfl fun w' hc' => ?_
    have hc := hch.trans' hc' (fun i e => .inr (by omega))
    exact ⟨_, _, _, X, 12, rfl, .inl ⟨fun h => hn ⟨h, h⟩, rfl, rfl⟩, h.f.nob hc, hc⟩
  obtain ⟨⟨ha0, han⟩, _⟩ := hn
  obtain ⟨x, rfl⟩ := Int.eq_ofNat_of_zero_le ha0
  have h15 := (h.grow (bad' := fun k => bad k ∨ k = A ∨ k = B) h0 (fun k hk hb => hb.elim id fun e => by omega)).nob hch
  have hlA := rA15.lt
  have hlB := rB15.lt
  have hs15 := hch.size
  have hbad' : ∀ k, w15.heap.size ≤ k → ¬ (bad k ∨ k = A ∨ k = B) := fun k hk hb => hb.elim (hbad k (by omega)) (fun e => by omega)
  obtain ⟨i, Ax, kx, hx1, hx2⟩ := h.x.at (x := x) (by omega)
  obtain ⟨hbX, hbA⟩ := h.x.big
  have hfl : fl = X.length := h.f.1.symm
  refine ldS_r rA15 rfl ?_
  have fin : ∀ (rb : Option Addr) (rl rc : Nat) (X' : List (List Nat)) (er : Int) (w32 : World), RF w32 (fun k => bad k ∨ k = A ∨ k = B) rb rl X' → Chg Nobody w15 w32 → ApOut n X x X' er →
      ∀ w', Chg (fun k => k = A ∨ k = B) w32 w' → ∃ rb' rl' rc' X'' er', Value.tuple #[.agg #[.int .i64 (n : Int), .int .i64 (m : Int), .slice rb rl rc, .slice tb tl tc], .int .i64 er] = .tuple #[.agg #[.int .i64 (n : Int), .int .i64 (m : Int), .slice rb' rl' rc', .slice tb tl tc], .int .i64 er'] ∧ ApOut n X x X'' er' ∧ RF w' bad rb' rl' X'' ∧ Chg Nobody w w' :=
    fun rb rl rc X' er w32 h1 h2 h3 w' hc => ⟨_, _, _, _, _, rfl, h3, RF.weak (h1.keep hc (fun i e => .inr e)) (fun k hk => .inl hk), (hch.trans h2).trans' hc (fun i e => .inr (by omega))⟩
  cases hW : Ax.drop kx ++ Ax.take kx with
  | nil =>
    have := from_len hx2
    rw [hW] at this
    have := (List.getElem?_eq_some_iff.1 hx2).1
    simp at *; omega
  | cons x' r =>
    have hx' : x' = x := by
      have := (split_at hx2).2
      rw [this] at hW
      simp at hW; exact hW.1.symm
    subst hx'
    cases r with
    | nil =>
      have hA1 : Ax = [x'] := by
        have h1 := from_len hx2
        rw [hW] at h1
        have h3 := List.mem_of_getElem? hx2
        match Ax, h1, h3 with
        | [z], _, h3 => simp at h3; rw [h3]
      subst hA1
      refine (c_rApart05_alone h15.f h.x.nd hx1 (by omega) hbA).mono ?_
      rintro e w32 ⟨rfl, hc⟩
      refine ⟨_, _, _, _, rfl, put2 (hc.row (fun h => h) rA15) (hc.row (fun h => h) rB15) rfl hAB fun w' hc' => ?_⟩
      exact fin _ _ _ X 20 w32 (h15.f.nob hc) hc (.inr ⟨x', rfl, by omega, .inl ⟨i, hx1, rfl, rfl⟩⟩) w' hc'
    | cons y rest =>
      refine (c_rApart05 h15.f h.x.nd h.x.ne hx1 hx2 hW (by omega) hbA hbad').mono ?_
      rintro e w32 ⟨rb, rl, rc, rfl, hf, hc⟩
      refine ⟨_, _, _, _, rfl, put2 (hc.row (fun h => h) rA15) (hc.row (fun h => h) rB15) rfl hAB fun w' hc' => ?_⟩
      exact fin _ _ _ _ 0 w32 hf hc (.inr ⟨x', rfl, by omega, .inr ⟨i, kx, y, _, rest, hx1, hx2, hW, by rw [hfl], rfl⟩⟩) w' hc'
theorem c_Merge14 {a b : Int} (h : RW w bad n m D key X T fb fl tb tl tc) (h0 : 0 < n) (hbad : ∀ k, w.heap.size ≤ k → ¬ bad k) :
    Calls Pg fn_plaitref14_Merge #[.agg #[.int .i64 (n : Nat), .int .i64 (m : Nat), .slice fb fl fc, .slice tb tl tc], .int .i64 a, .int .i64 b] w fun e w' => ∃ rb rl rc X' er, e = .returned (.tuple #[.agg #[.int .i64 (n : Nat), .int .i64 (m : Nat), .slice rb rl rc, .slice tb tl tc], .int .i64 er]) ∧ MgOut n X D a b X' er ∧ RF w' bad rb rl X' ∧ Chg Nobody w w' := by
  refine (calls_plaitref14_Merge _ _ _ _ _ _ _ _ _ _ _ (fun v' w' => ∃ rb rl rc X' er, v' = .tuple #[.agg #[.int .i64 (n : Nat), .int .i64 (m : Nat), .slice rb rl rc, .slice tb tl tc], .int .i64 er] ∧ MgOut n X D a b X' er ∧ RF w' bad rb rl X' ∧ Chg Nobody w w') ?_).mono (by rintro e w' ⟨v, rfl, p1, p2, p3, p4, p5, rfl, k⟩; exact ⟨p1, p2, p3, p4, p5, rfl, k⟩)
  unfold sh_plaitref14_Merge
  refine alo2 fun A B w9 hAB hA hB hc9 rA rB => ld4 rA ?_
  refine c_In14.mono ?_
  rintro e w15 ⟨rfl, hc15⟩
  have rA15 := hc15.row (fun h => h) rA
  have rB15 := hc15.row (fun h => h) rB
  have hch := hc9.trans hc15
  refine ⟨_, rfl, bif_i (fun hn => ?_) (fun hn => ?_)⟩ <;> simp only [b1s] at hn
  · refine cpR rA15 rB15 rfl fun w' hc' => ?_
    have hc := hch.trans' hc' (fun i e => .inr (by omega))
    exact ⟨_, _, _, X, 12, rfl, .inl ⟨hn, rfl, rfl⟩, h.f.nob hc, hc⟩
  obtain ⟨⟨ha0, han⟩, hb0, hbn⟩ := hn
  obtain ⟨x, rfl⟩ := Int.eq_ofNat_of_zero_le ha0
  obtain ⟨y, rfl⟩ := Int.eq_ofNat_of_zero_le hb0
  have htl := h.tl_le
  have h15 := (h.grow (bad' := fun k => bad k ∨ k = A ∨ k = B) h0 (fun k hk hb => hb.elim id fun e => by omega)).nob hch
  have hlA := rA15.lt
  have hlB := rB15.lt
  have hs15 := hch.size
  have hbad' : ∀ k, w15.heap.size ≤ k → ¬ (bad k ∨ k = A ∨ k = B) := fun k hk hb => hb.elim (hbad k (by omega)) (fun e => by omega)
  refine ld4 rA15 ?_
  refine (c_Road14 h15.f h15.t h15.x h15.r h15.dl (by omega) (by omega) (by omega) hbad').mono ?_
  rintro e w35 ⟨qb, qc, ts, ok, rfl, hok, _, _, _, _, hc35⟩
  have rA35 := hc35.row (fun h => h) rA15
  have rB35 := hc35.row (fun h => h) rB15
  have hch35 := hch.trans hc35
  refine ⟨_, _, _, _, rfl, bif_i (fun hr => ?_) (fun hr => ?_)⟩
  · refine cpR rA35 rB35 rfl fun w' hc' => ?_
    have hc := hch35.trans' hc' (fun i e => .inr (by omega))
    exact ⟨_, _, _, X, 20, rfl, .inr ⟨x, y, rfl, rfl, by omega, by omega, .inl ⟨hok.1 hr, rfl, rfl⟩⟩, h.f.nob hc, hc⟩
  have hnr : ¬ RT (EW X D n) x y := fun h => by rw [hok.2 h] at hr; cases hr
  obtain ⟨i, Ax, kx, hx1, hx2⟩ := h.x.at (x := x) (by omega)
  obtain ⟨j, Ay, ky, hy1, hy2⟩ := h.x.at (x := y) (by omega)
  have hij : i ≠ j := by
    rintro rfl
    rw [hx1] at hy1; cases hy1
    exact hnr (face_rt (q := X) (List.mem_of_getElem? hx1) (fun u v h => .inl h) (List.mem_of_getElem? hx2) (List.mem_of_getElem? hy2))
  obtain ⟨hbX, hbA⟩ := h.x.big
  have hfl : fl = X.length := h.f.1.symm
  have h35 := h15.nob hc35
  have hs35 := hc35.size
  refine ldS_r rA35 rfl ?_
  refine (c_rMerge05 h35.f h.x.nd h.x.ne hx1 hx2 hy1 hy2 hij (by omega) hbA (fun k hk => hbad' k (by omega))).mono ?_
  rintro e w52 ⟨rb, rl, rc, rfl, hf, hc⟩
  refine ⟨_, _, _, _, rfl, put2 (hc.row (fun h => h) rA35) (hc.row (fun h => h) rB35) rfl hAB fun w' hc' => ?_⟩
  exact ⟨_, _, _, _, _, rfl, .inr ⟨x, y, rfl, rfl, by omega, by omega, .inr ⟨hnr, i, j, kx, ky, _, _, hij, hx1, hy1, hx2, hy2, by rw [hfl], rfl⟩⟩, RF.weak (hf.keep hc' (fun i e => .inr e)) (fun k hk => .inl hk), (hch35.trans hc).trans' hc' (fun i e => .inr (by omega))⟩
theorem _root_.Go.Proofs.YtaoemljoiahapaaGreatDoor.Row.cellA {w : World} {b : Nat} {e : TypeId} {cs : List Value} (r : Row w.heap b e cs) (o : Nat) : w.cell? (Addr.add ⟨b, 0, none⟩ o) = cs[o]? := by
  rw [add_mk, Nat.zero_add]; exact r.cell o
theorem alo3 {cs cs2 cs3 : Array Value} {ty ty2 ty3 : TypeId} {K : Addr → Addr → Addr → World → Prop} (k : ∀ A B C w', A ≠ B → A ≠ C → B ≠ C → w.heap.size ≤ A → w.heap.size ≤ B → w.heap.size ≤ C → Chg Nobody w w' → Row w'.heap A ty cs.toList → Row w'.heap B ty2 cs2.toList → Row w'.heap C ty3 cs3.toList → K ⟨A, 0, none⟩ ⟨B, 0, none⟩ ⟨C, 0, none⟩ w') :
    alo cs ty w fun a w1 => alo cs2 ty2 w1 fun b w2 => alo cs3 ty3 w2 fun c w3 => K a b c w3 :=
  alo2 fun A B w' hAB hA hB hc rA rB => alo1 fun C w'' hC hc' rC =>
    k A B C w'' hAB (by have := rA.lt; omega) (by have := rB.lt; omega) hA hB (by have := hc.size; omega) (hc.trans hc') (hc'.row (fun h => h) rA) (hc'.row (fun h => h) rB) rC
theorem c_Add14 {e a b kk : Int} (h : RW w bad n m D key X T fb fl tb tl tc) (h0 : 0 < n) (hbad : ∀ k, w.heap.size ≤ k → ¬ bad k) :
    Calls Pg fn_plaitref14_Add #[.agg #[.int .i64 (n : Nat), .int .i64 (m : Nat), .slice fb fl fc, .slice tb tl tc], .agg #[.int .i64 e, .int .i64 a, .int .i64 b, .int .i64 kk]] w fun r w' => ∃ rb rl rc T' er, r = .returned (.tuple #[.agg #[.int .i64 (n : Nat), .int .i64 (m : Nat), .slice fb fl fc, .slice rb rl rc], .int .i64 er]) ∧ AdOut n m X D T e a b kk T' er ∧ TT w' bad rb rl T' ∧ rl ≤ rc ∧ Chg Nobody w w' := by
  refine (calls_plaitref14_Add _ _ _ _ _ _ _ _ _ _ _ _ _ (fun v' w' => ∃ rb rl rc T' er, v' = .tuple #[.agg #[.int .i64 (n : Nat), .int .i64 (m : Nat), .slice fb fl fc, .slice rb rl rc], .int .i64 er] ∧ AdOut n m X D T e a b kk T' er ∧ TT w' bad rb rl T' ∧ rl ≤ rc ∧ Chg Nobody w w') ?_).mono (by rintro e w' ⟨v, rfl, p1, p2, p3, p4, p5, rfl, k⟩; exact ⟨p1, p2, p3, p4, p5, rfl, k⟩)
  unfold sh_plaitref14_Add
  refine alo3 fun A C B w13 hAC hAB hCB hA hC hB hc13 rA rC rB => ?_
  have same : ∀ {W w' : World} {er : Int}, Chg Nobody w W → AdOut n m X D T e a b kk T er → Chg (· = B) W w' → ∃ rb rl rc T' er', Value.tuple #[.agg #[.int .i64 (n : Int), .int .i64 (m : Int), .slice fb fl fc, .slice tb tl tc], .int .i64 er] = .tuple #[.agg #[.int .i64 (n : Int), .int .i64 (m : Int), .slice fb fl fc, .slice rb rl rc], .int .i64 er'] ∧ AdOut n m X D T e a b kk T' er' ∧ TT w' bad rb rl T' ∧ rl ≤ rc ∧ Chg Nobody w w' := by
    intro W w' er h1 h2 h3
    have hc := h1.trans' h3 (fun i e => .inr (by omega))
    exact ⟨_, _, _, T, er, rfl, h2, h.t.nob hc, h.c, hc⟩
  refine ldI_r rC rfl (bif_i (fun hn => ?_) (fun hn => ?_)) <;> simp only [b1s] at hn
  · exact cpR rA rB rfl fun w' hc' => same hc13 (.inl ⟨by omega, rfl, rfl⟩) hc'
  refine ldI_r rC rfl (ldI_r rA rfl (bif_i (fun hn2 => ?_) (fun hn2 => ?_))) <;> simp only [b1s] at hn2
  · exact cpR rA rB rfl fun w' hc' => same hc13 (.inl ⟨by omega, rfl, rfl⟩) hc'
  refine ld4 rA (ldI_r rC rfl (ldI_r rC rfl ?_))
  refine c_In14.mono ?_
  rintro r w48 ⟨rfl, hc48⟩
  have rA48 := hc48.row (fun h => h) rA
  have rB48 := hc48.row (fun h => h) rB
  have rC48 := hc48.row (fun h => h) rC
  have hch := hc13.trans hc48
  refine ⟨_, rfl, bif_i (fun hn3 => ?_) (fun hn3 => ?_)⟩ <;> simp only [b1s] at hn3
  · exact cpR rA48 rB48 rfl fun w' hc' => same hch (.inl ⟨fun h => hn3 h.2, rfl, rfl⟩) hc'
  obtain ⟨⟨ha0, han⟩, hb0, hbn⟩ := hn3
  obtain ⟨i, rfl⟩ := Int.eq_ofNat_of_zero_le (show 0 ≤ e by omega)
  obtain ⟨x, rfl⟩ := Int.eq_ofNat_of_zero_le ha0
  obtain ⟨y, rfl⟩ := Int.eq_ofNat_of_zero_le hb0
  have oute : ∀ {T' : List Ti} {er : Int}, ((kk = 9223372036854775807 ∧ T' = T ∧ er = 1) ∨ (kk ≠ 9223372036854775807 ∧ (RT (EW X D n) x y ∨ ∃ t ∈ T, t.e = i) ∧ T' = T ∧ er = 20) ∨
    (kk ≠ 9223372036854775807 ∧ ¬ RT (EW X D n) x y ∧ (∀ t ∈ T, t.e ≠ i) ∧ T' = T ++ [Ti.mk i x y kk] ∧ er = 0)) → AdOut n m X D T i x y kk T' er := fun h => .inr ⟨i, x, y, rfl, rfl, rfl, by omega, by omega, by omega, h⟩
  refine ldI_r rC48 rfl (bif_i (fun hn4 => ?_) (fun hn4 => ?_)) <;> simp only [b1s] at hn4
  · exact cpR rA48 rB48 rfl fun w' hc' => same hch (oute (.inl ⟨hn4, rfl, rfl⟩)) hc'
  have htl := h.tl_le
  have h48 := h.nob hch
  refine ld4 rA48 (ldI_r rC48 rfl (ldI_r rC48 rfl ?_))
  refine (c_Road14 h48.f h48.t h48.x h48.r h48.dl (by omega) (by omega) (by omega) (fun k hk => hbad k (Nat.le_trans hch.size hk))).mono ?_
  rintro r w83 ⟨qb, qc, ts, ok, rfl, hok, _, _, _, _, hc83⟩
  have rA83 := hc83.row (fun h => h) rA48
  have rB83 := hc83.row (fun h => h) rB48
  have rC83 := hc83.row (fun h => h) rC48
  have hch83 := hch.trans hc83
  refine ⟨_, _, _, _, rfl, bif_i (fun hr => ?_) (fun hr => ?_)⟩
  · exact cpR rA83 rB83 rfl fun w' hc' => same hch83 (oute (.inr (.inl ⟨hn4, .inl (hok.1 hr), rfl, rfl⟩))) hc'
  have hnr : ¬ RT (EW X D n) x y := fun h => by rw [hok.2 h] at hr; cases hr
  have h83 := h48.nob hc83
  refine ld4 rA83 (ldI_r rC83 rfl ?_)
  refine (c_At14 h83.t (by omega)).mono ?_
  rintro r w103 ⟨z, rfl, hc103, hz⟩
  have rA103 := hc103.row (fun h => h) rA83
  have rB103 := hc103.row (fun h => h) rB83
  have rC103 := hc103.row (fun h => h) rC83
  have hch103 := hch83.trans hc103
  refine ⟨_, rfl, bif_i (fun hz0 => ?_) (fun hz0 => ?_)⟩ <;> simp only [b1s] at hz0
  · refine cpR rA103 rB103 rfl fun w' hc' => same hch103 (oute (.inr (.inl ⟨hn4, .inr ?_, rfl, rfl⟩))) hc'
    rcases hz with ⟨j, t, rfl, hj, he⟩ | ⟨rfl, _⟩
    · exact ⟨t, List.mem_of_getElem? hj, by omega⟩
    · omega
  have hnt : ∀ t ∈ T, t.e ≠ i := by
    rcases hz with ⟨j, t, rfl, hj, he⟩ | ⟨rfl, hz⟩
    · omega
    · exact fun t ht he => hz t ht (by omega)
  have h103 := h83.nob hc103
  have hT : T.flatMap encTi ++ encTi (Ti.mk i x y kk) = (T ++ [Ti.mk i x y kk]).flatMap encTi := by simp
  have e4 : (#[Value.int .i64 (i : Int), .int .i64 (x : Int), .int .i64 (y : Int), .int .i64 kk] : Array Value).toList = encTi (Ti.mk i x y kk) := rfl
  have one : ∀ u ∈ encTi (Ti.mk i x y kk), oneC u = true := fun u hu => encTi_one (T := [Ti.mk i x y kk]) u (by simpa using hu)
  have hww := hch103.size
  have fin : ∀ {W : World} {b7 : Option Addr} {c7 base : Nat} {w' : World}, Own W base T_plaitref14_Tie 4 b7 (tl + 1) c7 ((T ++ [Ti.mk i x y kk]).flatMap encTi) → w103.heap.size ≤ base → Chg Nobody w103 W → Chg (fun k => k = A ∨ k = B) W w' →
      ∃ rb rl rc T' er', Value.tuple #[.agg #[.int .i64 (n : Int), .int .i64 (m : Int), .slice fb fl fc, .slice b7 (tl + 1) c7], .int .i64 0] = .tuple #[.agg #[.int .i64 (n : Int), .int .i64 (m : Int), .slice fb fl fc, .slice rb rl rc], .int .i64 er'] ∧ AdOut n m X D T i x y kk T' er' ∧ TT w' bad rb rl T' ∧ rl ≤ rc ∧ Chg Nobody w w' := by
    intro W b7 c7 base w' ho hb hcW hc'
    have hlt := rA103.lt
    have hlt2 := rB103.lt
    have hTl := h.t.1
    refine ⟨_, _, _, _, _, rfl, oute (.inr (.inr ⟨hn4, hnr, hnt, rfl, rfl⟩)), ⟨by rw [List.length_append, hTl]; rfl, fun g hl hg => ?_, (VA.of_own ho).keep hc' (fun g hl hg hgg => ?_)⟩, ho.cap.1, (hch103.trans hcW).trans' hc' (fun i e => .inr (by omega))⟩
    · exact hbad g (by have := (ho.bk_lt hg).1; omega)
    · have := (ho.bk_lt hg).1; omega
  refine ldS_r rA103 rfl (ldI_r rC103 rfl (ldI_r rC103 rfl (ldI_r rC103 rfl (ldI_r rC103 rfl ?_))))
  have hdr : Chg Nobody w103 w103.drew := (Chg.refl _ _).drew
  refine ⟨?_, ?_⟩
  · obtain ⟨b5, c5, w5, hrun, ho, hc5⟩ := own_appendNil (sc := tc) (ty := T_sl_plaitref14_Tie) ET_Tie h103.t.drew.2.2 encTi_one (by omega) (by omega)
    have rC5 := hc5.row (fun h => h) rC103
    refine ⟨b5, _, c5, w5, hrun, by rw [rC5.cell]; rfl, rC5.cellA 1, rC5.cellA 2, rC5.cellA 3, ?_⟩
    refine alo1 fun Q w6 hQ c6 r6 => ?_
    obtain ⟨b7, c7, w7, hrun7, ho7, c7c, hw7⟩ := own_append2 (ty := T_sl_plaitref14_Tie) ET_Tie (ho.keep c6 (fun _ _ h => h)) r6 rfl (by rw [e4]; exact one) (by have := hc5.size; have := c6.size; omega) (by omega) (by omega)
    refine ⟨b7, _, c7, w7, hrun7, ?_⟩
    rw [e4, hT] at ho7
    have hcc := (hdr.trans (hc5.trans c6)).trans' c7c (fun k hk => .inr (ho.bk_lt hk).1)
    exact put3 (hcc.row (fun h => h) rA103) (hcc.row (fun h => h) rB103) rfl hAB fun w' hc' => fin ho7 (Nat.le_refl _) hcc hc'
  · refine alo1 fun Q w6 hQ c6 r6 => ?_
    refine ⟨(c6.row (fun h => h) rA103).cellA 3, ?_⟩
    obtain ⟨b5, c5, w5, hrun, ho, hc5⟩ := own_appendNil (sc := tc) (ty := T_sl_plaitref14_Tie) ET_Tie (h103.t.drew.nob c6).2.2 encTi_one (by omega) (by omega)
    refine ⟨b5, _, c5, w5, hrun, ?_⟩
    obtain ⟨b7, c7, w7, hrun7, ho7, c7c, hw7⟩ := own_append2 (ty := T_sl_plaitref14_Tie) ET_Tie ho (hc5.row (fun h => h) r6) rfl (by rw [e4]; exact one) hc5.size (by omega) (by omega)
    refine ⟨b7, _, c7, w7, hrun7, ?_⟩
    rw [e4, hT] at ho7
    have hs6 : w103.heap.size ≤ w6.heap.size := c6.size
    have hcc := (hdr.trans (c6.trans hc5)).trans' c7c (fun k hk => .inr (by have := (ho.bk_lt hk).1; omega))
    exact put3 (hcc.row (fun h => h) rA103) (hcc.row (fun h => h) rB103) rfl hAB fun w' hc' => fin ho7 hs6 hcc hc'
theorem c_Drop14 {e : Int} (h : RW w bad n m D key X T fb fl tb tl tc) (hbad : ∀ k, w.heap.size ≤ k → ¬ bad k) :
    Calls Pg fn_plaitref14_Drop #[.agg #[.int .i64 (n : Nat), .int .i64 (m : Nat), .slice fb fl fc, .slice tb tl tc], .int .i64 e] w fun r w' => ∃ rb rl rc T' er, r = .returned (.tuple #[.agg #[.int .i64 (n : Nat), .int .i64 (m : Nat), .slice fb fl fc, .slice rb rl rc], .int .i64 er]) ∧ DrOut m T e T' er ∧ TT w' bad rb rl T' ∧ rl ≤ rc ∧ Chg Nobody w w' := by
  refine (calls_plaitref14_Drop _ _ _ _ _ _ _ _ _ _ (fun v' w' => ∃ rb rl rc T' er, v' = .tuple #[.agg #[.int .i64 (n : Nat), .int .i64 (m : Nat), .slice fb fl fc, .slice rb rl rc], .int .i64 er] ∧ DrOut m T e T' er ∧ TT w' bad rb rl T' ∧ rl ≤ rc ∧ Chg Nobody w w') ?_).mono (by rintro e w' ⟨v, rfl, p1, p2, p3, p4, p5, rfl, k⟩; exact ⟨p1, p2, p3, p4, p5, rfl, k⟩)
  unfold sh_plaitref14_Drop
  refine alo2 fun A B w8 hAB hA hB hc8 rA rB => ?_
  have same : ∀ {W w' : World} {er : Int}, Chg Nobody w W → DrOut m T e T er → Chg (· = B) W w' → ∃ rb rl rc T' er', Value.tuple #[.agg #[.int .i64 (n : Int), .int .i64 (m : Int), .slice fb fl fc, .slice tb tl tc], .int .i64 er] = .tuple #[.agg #[.int .i64 (n : Int), .int .i64 (m : Int), .slice fb fl fc, .slice rb rl rc], .int .i64 er'] ∧ DrOut m T e T' er' ∧ TT w' bad rb rl T' ∧ rl ≤ rc ∧ Chg Nobody w w' := by
    intro W w' er h1 h2 h3
    have hc := h1.trans' h3 (fun i e => .inr (by omega))
    exact ⟨_, _, _, T, er, rfl, h2, h.t.nob hc, h.c, hc⟩
  refine bif_i (fun hn => ?_) (fun hn => ?_) <;> simp only [b1s] at hn
  · exact cpR rA rB rfl fun w' hc' => same hc8 (.inl ⟨by omega, rfl, rfl⟩) hc'
  refine ldI_r rA rfl (bif_i (fun hn2 => ?_) (fun hn2 => ?_)) <;> simp only [b1s] at hn2
  · exact cpR rA rB rfl fun w' hc' => same hc8 (.inl ⟨by omega, rfl, rfl⟩) hc'
  obtain ⟨i, rfl⟩ := Int.eq_ofNat_of_zero_le (show 0 ≤ e by omega)
  have htl := h.tl_le
  have h8 := h.nob hc8
  refine ld4 rA ?_
  refine (c_At14 h8.t (by omega)).mono ?_
  rintro r w39 ⟨z, rfl, hc39, hz⟩
  have rA39 := hc39.row (fun h => h) rA
  have rB39 := hc39.row (fun h => h) rB
  have hch := hc8.trans hc39
  refine ⟨_, rfl, bif_i (fun hz0 => ?_) (fun hz0 => ?_)⟩ <;> simp only [b1s] at hz0
  · refine cpR rA39 rB39 rfl fun w' hc' => same hch (.inr ⟨i, rfl, by omega, .inl ⟨?_, rfl, rfl⟩⟩) hc'
    rcases hz with ⟨j, t, rfl, hj, he⟩ | ⟨rfl, hz⟩
    · omega
    · exact fun t ht he => hz t ht (by omega)
  rcases hz with ⟨j, t, rfl, hj, he⟩ | ⟨rfl, hz⟩
  case inr => omega
  have hjl := (List.getElem?_eq_some_iff.1 hj).1
  have hTl := h.t.1
  have hcap := h.c
  have h39 := h8.nob hc39
  refine ldS_r rA39 rfl ⟨by omega, by omega, ldS_r rA39 rfl ?_⟩
  rw [wrap64_in (x := (j : Int) + 1) (by omega) (by omega), show ((j : Int) + 1).toNat = j + 1 by omega, Int.toNat_natCast]
  refine ⟨by omega, by omega, ?_⟩
  have e1 : (if tc = 0 then tb else Option.map (fun a => Addr.add a (0 * 4)) tb) = tb := by
    split
    · rfl
    · cases tb <;> rfl
  rw [e1, Nat.sub_zero, Nat.sub_zero]
  have hv1 : VA w39.drew tb j 4 ((T.take j).flatMap encTi) := by
    have := h39.t.drew.2.2.pre (k := j) (by omega)
    rw [fm_take encTi_len] at this; exact this
  obtain ⟨b5, c5, w5, hrun, ho, hc5⟩ := own_appendNil (sc := tc) (ty := T_sl_plaitref14_Tie) ET_Tie hv1 encTi_one (by omega) (by omega)
  have hcc := ((Chg.refl Nobody w39).drew).trans hc5
  refine ⟨b5, _, c5, w5, hrun, (hcc.row (fun h => h) rA39).cellA 3, ?_⟩
  have hv2 : VA w5 (if tc = j + 1 then tb else Option.map (fun a => Addr.add a ((j + 1) * 4)) tb) (tl - (j + 1)) 4 ((T.drop (j + 1)).flatMap encTi) := by
    by_cases hcj : tc = j + 1
    · rw [if_pos hcj]
      have h1 : tl - (j + 1) = 0 := by omega
      have h2 : T.drop (j + 1) = [] := List.drop_of_length_le (by omega)
      rw [h1, h2]
      exact VA.zero
    · rw [if_neg hcj]
      have := (h39.t.nob hcc).2.2.post (k := j + 1) (by omega)
      rw [fm_drop encTi_len] at this; exact this
  obtain ⟨b7, c7, w7, hrun7, ho7, c7c, hw7⟩ := own_appendAny (sc := tc - (j + 1)) (ty := T_sl_plaitref14_Tie) ET_Tie ho hv2 encTi_one hc5.size (by omega) (by omega)
  refine ⟨b7, _, c7, w7, hrun7, ?_⟩
  have hcw : Chg Nobody w39 w7 := hcc.trans' c7c (fun k hk => .inr (ho.bk_lt hk).1)
  rw [← List.flatMap_append] at ho7
  have hlA := rA39.lt
  have hlB := rB39.lt
  have hs39 : w.heap.size ≤ w39.heap.size := hch.size
  have hs5 : w39.heap.size ≤ w39.drew.heap.size := Nat.le_refl _
  refine put3 (hcw.row (fun h => h) rA39) (hcw.row (fun h => h) rB39) rfl hAB fun w' hc' => ⟨_, _, _, _, _, rfl, .inr ⟨i, rfl, by omega, .inr ⟨j, t, hj, by omega, rfl, rfl⟩⟩, ⟨by simp; omega, fun g hl hg => ?_, (VA.of_own ho7).keep hc' (fun g hl hg hgg => ?_)⟩, ho7.cap.1, (hch.trans hcw).trans' hc' (fun i e => .inr (by omega))⟩
  · exact hbad g (by have := (ho7.bk_lt hg).1; omega)
  · have := (ho7.bk_lt hg).1; omega
end
end Web
end Go.Proofs.YtaoemljoiahapaaGreatDoor
