/-
What the web's calls do, said as the reference says it; a law's web.
Conditions: those that each theorem states.
-/
import Derived.Test.YtaoemljoiahapaaDoorGWeb
import Derived.Test.YtaoemljoiahapaaDoorGRefW
import Derived.Test.YtaoemljoiahapaaDoorLawP14
import Derived.Test.YtaoemljoiahapaaDoorGLaw
import Derived.Test.YtaoemljoiahapaaDoorShPlaitlaw14
namespace Go.Proofs.YtaoemljoiahapaaDoor
open Go Go.RowKit
set_option linter.unusedVariables false
set_option linter.unusedSimpArgs false
namespace Web
open Go.Proofs.YtaoemljoiahapaaDoor.Seq Go.Proofs.YtaoemljoiahapaaDoor.Cut
section
variable {w₀ w w' : World} {W R F L CF CL EB n t a b x e : Nat} {X X' : List (List Nat)} {D D' : Nat → Option (Nat × Nat)} {key key' : Nat → Int} {T T' : List Ti} {er : Int} {A B : List Nat} {k i j : Nat}
/-- A tie more, or less, in both. -/
theorem REL.add (h : REL D key T) {i x y : Nat} {k : Int} (hn : ∀ t ∈ T, t.e ≠ i) : REL (upd D i (some (x, y))) (upd key i k) (T ++ [⟨i, x, y, k⟩]) := by
  refine ⟨fun t ht => ?_, fun e a b hD => ?_, ?_⟩
  · rcases List.mem_append.1 ht with ht | ht
    · rw [upd_ne _ _ (hn t ht), upd_ne _ _ (hn t ht)]; exact h.to t ht
    · simp at ht; subst ht; simp [upd]
  · by_cases he : e = i
    · subst he; exact ⟨_, List.mem_append_right _ (List.mem_singleton.2 rfl), rfl⟩
    · rw [upd_ne _ _ he] at hD
      obtain ⟨t, ht, rfl⟩ := h.of e a b hD
      exact ⟨t, List.mem_append_left _ ht, rfl⟩
  · rw [List.map_append, List.nodup_append]
    refine ⟨h.nd, by simp, fun a ha b hb e => ?_⟩
    simp at hb; subst hb; subst e
    obtain ⟨t, ht, he⟩ := List.mem_map.1 ha
    exact hn t ht he
theorem REL.drop (h : REL D key T) {i j : Nat} {t : Ti} (hj : T[j]? = some t) (he : t.e = i) : REL (upd D i none) key (T.take j ++ T.drop (j + 1)) := by
  have hsplit : T = T.take j ++ t :: T.drop (j + 1) := by
    conv => lhs; rw [← List.take_append_drop j T]
    congr 1
    have hl := (List.getElem?_eq_some_iff.1 hj).1
    rw [List.drop_eq_getElem_cons hl]
    congr 1
    exact (List.getElem?_eq_some_iff.1 hj).2
  have hnd := h.nd
  rw [hsplit, List.map_append, List.map_cons] at hnd
  have hmem : ∀ s, s ∈ T.take j ++ T.drop (j + 1) → s ∈ T ∧ s.e ≠ i := by
    intro s hs
    refine ⟨by rw [hsplit]; simp only [List.mem_append, List.mem_cons] at hs ⊢; rcases hs with h | h; exact .inl h; exact .inr (.inr h), fun e => ?_⟩
    rw [List.nodup_append, List.nodup_cons] at hnd
    rcases List.mem_append.1 hs with hs | hs
    · exact hnd.2.2 s.e (List.mem_map.2 ⟨s, hs, rfl⟩) t.e (by simp) (by omega)
    · exact hnd.2.1.1 (List.mem_map.2 ⟨s, hs, by omega⟩)
  refine ⟨fun s hs => ?_, fun e a b hD => ?_, ?_⟩
  · obtain ⟨h1, h2⟩ := hmem s hs
    rw [upd_ne _ _ h2]; exact h.to s h1
  · by_cases hei : e = i
    · rw [hei, upd_same] at hD; cases hD
    · rw [upd_ne _ _ hei] at hD
      obtain ⟨s, hs, rfl⟩ := h.of e a b hD
      refine ⟨s, ?_, rfl⟩
      rw [hsplit] at hs
      simp only [List.mem_append, List.mem_cons] at hs ⊢
      rcases hs with h | h | h
      · exact .inl h
      · subst h; exact absurd he hei
      · exact .inr h
  · rw [List.map_append]
    rw [List.nodup_append, List.nodup_cons] at hnd
    rw [List.nodup_append]
    exact ⟨hnd.1, hnd.2.1.2, fun a ha b hb => hnd.2.2 a ha b (List.mem_cons_of_mem _ hb)⟩
/-! ## A law's web -/
structure LW (w₀ w : World) (W R F L CF CL EB n t : Nat) (X : List (List Nat)) (D : Nat → Option (Nat × Nat)) (key : Nat → Int) : Prop where
  c : Chg Nobody w₀ w
  b : w₀.heap.size ≤ W ∧ w₀.heap.size ≤ R ∧ w₀.heap.size ≤ F ∧ w₀.heap.size ≤ L ∧ w₀.heap.size ≤ CF ∧ w₀.heap.size ≤ CL ∧ w₀.heap.size ≤ EB
  a : WB w.heap W R F L CF CL EB n t X D key
theorem LW.step (h : LW w₀ w W R F L CF CL EB n t X D key) (k : WS w w' W R F L CF CL EB n t X' D' key') : LW w₀ w' W R F L CF CL EB n t X' D' key' :=
  ⟨h.c.trans' k.c (fun i e => .inr (by rcases e with rfl | rfl | rfl; exact h.b.2.2.2.1; exact h.b.2.2.2.2.2.1; exact h.b.2.2.2.2.2.2)), h.b, k.a⟩
theorem LW.nob (h : LW w₀ w W R F L CF CL EB n t X D key) (k : Chg Nobody w w') : LW w₀ w' W R F L CF CL EB n t X D key := ⟨h.c.trans k, h.b, h.a.nob k⟩
theorem LW.g (h : LW w₀ w W R F L CF CL EB n t X D key) (k : LaidG w₀) : LaidG w := k.chg h.c (fun h => h)
theorem WB.lts {h : Array Obj} (k : WB h W R F L CF CL EB n t X D key) : W < h.size ∧ R < h.size ∧ F < h.size ∧ L < h.size ∧ CF < h.size ∧ CL < h.size ∧ EB < h.size := by
  obtain ⟨v, f, _⟩ := k.f
  exact ⟨k.r.lt, k.a.r.lt, k.a.a.lt.1, k.a.a.lt.2, f.lt.1, f.lt.2, k.e.lt⟩
/-- The blocks that a web's calls write. -/
abbrev wbad (L CL EB : Nat) : Nat → Prop := fun k => k = L ∨ k = CL ∨ k = EB
theorem wbad_ge {h : Array Obj} (k : WB h W R F L CF CL EB n t X D key) : ∀ i, h.size ≤ i → ¬ wbad L CL EB i := by
  have := k.lts
  rintro i hi (rfl | rfl | rfl) <;> omega
end
end Web
end Go.Proofs.YtaoemljoiahapaaDoor
/-
The web's laws' own helpers: an act done to both; all that is told of two items; a web by some acts; what must come.
Conditions: those that each theorem states.
-/
namespace Go.Proofs.YtaoemljoiahapaaDoor
open Go Go.RowKit
set_option linter.unusedVariables false
set_option linter.unusedSimpArgs false
namespace Web
open Go.Proofs.YtaoemljoiahapaaDoor.Seq Go.Proofs.YtaoemljoiahapaaDoor.Cut
section
variable {lc : Nat → Prop} {w₀ w w' : World} {W R F L CF CL EB n t x y e : Nat} {X X' : List (List Nat)} {D D' : Nat → Option (Nat × Nat)} {key key' : Nat → Int} {T T' : List Ti} {er : Int} {k i j fl fc tl tc : Nat} {fb tb : Option Addr}
/-- A law's web, and the reference's, as they stand. -/
abbrev bd (L CL EB : Nat) (lc : Nat → Prop) : Nat → Prop := fun k => wbad L CL EB k ∨ lc k
/-- (lc: the law's own records, which neither lies in.) -/
def ST (lc : Nat → Prop) (w₀ w : World) (W R F L CF CL EB n t : Nat) (fb : Option Addr) (fl : Nat) (tb : Option Addr) (tl tc : Nat) : Prop :=
  ∃ X D key T, LW w₀ w W R F L CF CL EB n t X D key ∧ RW w (bd L CL EB lc) n t D key X T fb fl tb tl tc
theorem ST.nob (h : ST lc w₀ w W R F L CF CL EB n t fb fl tb tl tc) (k : Chg Nobody w w') : ST lc w₀ w' W R F L CF CL EB n t fb fl tb tl tc := by
  obtain ⟨X, D, key, T, h1, h2⟩ := h
  exact ⟨X, D, key, T, h1.nob k, h2.nob k⟩
theorem ST.g (h : ST lc w₀ w W R F L CF CL EB n t fb fl tb tl tc) (k : LaidG w₀) : LaidG w := by
  obtain ⟨X, D, key, T, h1, h2⟩ := h
  exact h1.g k
theorem ST.c (h : ST lc w₀ w W R F L CF CL EB n t fb fl tb tl tc) : Chg Nobody w₀ w := by
  obtain ⟨X, D, key, T, h1, h2⟩ := h
  exact h1.c
theorem ST.put (h : ST lc w₀ w W R F L CF CL EB n t fb fl tb tl tc) (c : Chg lc w w') (hl : ∀ k, lc k → w₀.heap.size ≤ k ∧ k ≠ W ∧ k ≠ R ∧ k ≠ F ∧ k ≠ L ∧ k ≠ CF ∧ k ≠ CL ∧ k ≠ EB) : ST lc w₀ w' W R F L CF CL EB n t fb fl tb tl tc := by
  obtain ⟨X, D, key, T, h1, h2⟩ := h
  exact ⟨X, D, key, T, ⟨h1.c.trans' c (fun i hi => .inr (hl i hi).1), h1.b, h1.a.keep c (fun i hi => (hl i hi).2)⟩, h2.keep c (fun i e => .inr e)⟩
theorem ST.wb (h : ST lc w₀ w W R F L CF CL EB n t fb fl tb tl tc) : ∀ i, w.heap.size ≤ i → ¬ wbad L CL EB i := by
  obtain ⟨X, D, key, T, h1, h2⟩ := h
  exact wbad_ge h1.a
theorem rt_closed {E : Nat → Nat → Prop} {P : Nat → Prop} {a b : Nat} (hc : ∀ x y, P x → E x y → P y) (h0 : P a) (h : RT E a b) : P b := by
  induction h with
  | refl => exact h0
  | step _ e ih => exact hc _ _ ih e
theorem c_sure14 {w : World} (hg : LaidG w) : Calls Pg fn_plaitlaw14_sure #[] w fun e w' => e = .returned (.bool true) ∧ Chg Nobody w w' := by
  refine (calls_plaitlaw14_sure _ (fun v' w' => v' = .bool true ∧ Chg Nobody w w') ?_).mono (by rintro e w' ⟨v, rfl, rfl, k⟩; exact ⟨rfl, k⟩)
  unfold sh_plaitlaw14_sure
  refine (w_New (n := 3) (t := 2) (by omega) (by omega) (by omega) (by omega)).mono ?_
  rintro e w2 ⟨W, R, F, L, CF, CL, EB, rfl, hc, hb, hw⟩
  have hs : LW w w2 W R F L CF CL EB 3 2 (([] ++ 0 :: []) :: ([] ++ 1 :: []) :: [[2]]) (fun _ => none) (fun _ => 0) := ⟨hc, hb, hw⟩
  clear hw hc hb
  refine ⟨_, _, rfl, fun _ w' => LW w w' W R F L CF CL EB 3 2 [[0, 1], [2]] (upd (fun _ => none) 0 (some (1, 2))) (upd (fun _ => 0) 0 7), err_i (fun e => absurd rfl e) (fun _ => bif_i (fun h => by cases h) (fun _ => ?_)), ?_⟩
  · refine (w_Merge hs.a ?_).mono ?_
    · intro hr
      exact absurd (rt_closed (P := fun x => x = 0) (fun x y _ h => absurd h (ew_ones (n := 3))) rfl hr) (by omega)
    rintro e w6 ⟨rfl, hws⟩
    have hs := hs.step hws
    refine ⟨_, rfl, err_i (fun e => absurd rfl e) (fun _ => ?_)⟩
    refine (w_Tie (e := 0) (a := 1) (b := 2) (k := 7) hs.a (by omega) (by omega) (by omega) (by omega) ?_ rfl).mono ?_
    · intro hr
      have : 2 ≤ 1 := rt_closed (P := fun x => x ≤ 1) (fun x y hx h => ?_) (Nat.le_refl 1) hr
      · omega
      · rcases h with ⟨A, hA, h⟩ | ⟨_, _, _, h, _⟩
        · simp at hA
          rcases hA with rfl | rfl
          · rcases h with h | h <;> simp [Nx] at h <;> omega
          · rcases h with h | h <;> simp [Nx] at h
        · cases h
    rintro e w9 ⟨rfl, hws⟩
    have hs := hs.step hws
    exact ⟨_, rfl, err_i (fun e => absurd rfl e) (fun _ => hs)⟩
  · rintro _ w11 hs
    have hw4 : Cut.Way (EW [[0, 1], [2]] (upd (fun _ => none) 0 (some (1, 2))) 3) 0 2 [0, 1, 3, 2] := by
      refine ⟨rfl, rfl, by decide, ⟨fun y hy => ?_, ⟨fun y hy => ?_, ⟨fun y hy => ?_, ⟨fun y hy => by simp at hy, trivial⟩⟩⟩⟩⟩
      · simp at hy; subst hy; exact .inl ⟨[0, 1], by simp, .inl (.inl ⟨rfl, rfl⟩)⟩
      · simp at hy; subst hy; exact .inr ⟨0, 1, 2, rfl, .inl ⟨rfl, .inl rfl⟩⟩
      · simp at hy; subst hy; exact .inr ⟨0, 1, 2, rfl, .inr ⟨rfl, .inr rfl⟩⟩
    refine (w_Weakest (a := 0) (b := 2) hs.a (by omega) (by omega) hw4).mono ?_
    rintro e w14 ⟨v, z, hv, hk, ⟨pre, post, e1, h1, h2⟩, rfl, hws⟩
    have hs := hs.step hws
    have hv3 : v 3 = 7 := hk 0 1 2 rfl
    have hz : z = 3 := by
      have h3 := h1 3 (by simp)
      have hm : z ∈ [0, 1, 3, 2] := by rw [e1]; simp
      have hv0 := hv 0 (by omega)
      have hv1 := hv 1 (by omega)
      have hv2 := hv 2 (by omega)
      simp at hm
      rcases hm with rfl | rfl | rfl | rfl <;> omega
    subst hz
    refine ⟨_, _, rfl, errV_isI _, bif_i (fun _ => bif_i (fun _ => ?_) (fun h => by simp at h)) (fun h => absurd h (by decide))⟩
    refine (w_Merge_same (a := 0) (b := 2) hs.a (by omega) (by omega) (way_rt hw4)).mono ?_
    rintro e w17 ⟨rfl, hws⟩
    have hs := hs.step hws
    refine ⟨_, rfl, (c_num14 (hs.g hg)).mono ?_⟩
    rintro e w20 ⟨rfl, hc⟩
    have hs := hs.nob hc
    refine ⟨_, rfl, bif_i (fun _ => ?_) (fun h => by simp at h)⟩
    refine (w_Tied (e := 0) hs.a (by omega)).mono ?_
    rintro e w23 ⟨rfl, rfl⟩
    exact ⟨_, rfl, rfl, hs.c⟩
end
end Web
end Go.Proofs.YtaoemljoiahapaaDoor
/-
A law's web: made, and grown by some acts.
Conditions: those that each theorem states.
-/
namespace Go.Proofs.YtaoemljoiahapaaDoor
open Go Go.RowKit
set_option linter.unusedVariables false
set_option linter.unusedSimpArgs false
/-- An act's record. -/
theorem CA.ix {w : World} {b : Option Addr} {l sz i : Nat} {f : Nat → Nat → Int} (h : CA w b l sz f) (hi : i < l) {K : Addr → Prop} (kk : ∀ a, a.block < w.heap.size → (∀ k, k < sz → w.cell? (a.add k) = some (.int .i64 (f i k))) → K a) : ixS b l (i : Int) sz K := by
  rcases h with h0 | ⟨a, rfl, ha, hc⟩
  · omega
  · refine ⟨a, rfl, by omega, by omega, kk _ ?_ ?_⟩
    · rw [add_block]; exact ha
    · intro k hk
      have : (i : Int).toNat = i := by omega
      rw [this]; exact hc i k hi hk
namespace Web
open Go.Proofs.YtaoemljoiahapaaDoor.Seq Go.Proofs.YtaoemljoiahapaaDoor.Cut
section
variable {lc : Nat → Prop} {w₀ w w' : World} {W R F L CF CL EB n t x y e : Nat} {k i j fl fc tl tc : Nat} {fb tb : Option Addr}
theorem REL.start : REL (fun _ => none) (fun _ => 0) [] := ⟨fun t h => (by cases h), fun e a b h => (by cases h), by simp⟩
end
end Web
end Go.Proofs.YtaoemljoiahapaaDoor
