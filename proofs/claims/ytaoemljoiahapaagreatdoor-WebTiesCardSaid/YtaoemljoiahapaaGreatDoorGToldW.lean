/-
What the web's calls do, said as the reference says it; a law's web.
Conditions: those that each theorem states.
-/
import Derived.Test.YtaoemljoiahapaaGreatDoorGWeb
import Derived.Test.YtaoemljoiahapaaGreatDoorGRefW
import Derived.Test.YtaoemljoiahapaaGreatDoorLawP14
import Derived.Test.YtaoemljoiahapaaGreatDoorGLaw
import Derived.Test.YtaoemljoiahapaaGreatDoorShPlaitlaw14
namespace Go.Proofs.YtaoemljoiahapaaGreatDoor
open Go Go.RowKit
set_option linter.unusedVariables false
set_option linter.unusedSimpArgs false
namespace Web
open Go.Proofs.YtaoemljoiahapaaGreatDoor.Seq Go.Proofs.YtaoemljoiahapaaGreatDoor.Cut
section
variable {w₀ w w' : World} {W R F L CF CL EB n t a b x e : Nat} {X X' : List (List Nat)} {D D' : Nat → Option (Nat × Nat)} {key key' : Nat → Int} {T T' : List Ti} {er : Int} {A B : List Nat} {k i j : Nat}
theorem FX.of_wb {h : Array Obj} (k : WB h W R F L CF CL EB n t X D key) : FX n X := by
  obtain ⟨h1, h2, h3, h4⟩ := k.nodup
  exact ⟨h1, h2, h3, h4, k.sz.1⟩
/-- A list of faces, one of them first. -/
theorem perm_one (hA : X[i]? = some A) : X.Perm (A :: wo X i i X.length) := wo_perm1 hA
theorem rot_eq {x : Nat} (hx : A[k]? = some x) {r : List Nat} (h : A.drop k ++ A.take k = x :: r) : A.drop (k + 1) ++ A.take k = r := by
  rw [(split_at hx).2] at h
  simpa using h
theorem w_SplitO {a b : Int} (h : WB w.heap W R F L CF CL EB n t X D key) (ho : SpOut n X a b X' er) :
    Calls Pg fn_web_Web_Split #[.pointer (some ⟨W, 0, none⟩), .int .i64 a, .int .i64 b] w fun r w' => r = .returned (errV er) ∧ WS w w' W R F L CF CL EB n t X' D key := by
  rcases ho with ⟨hn, rfl, rfl⟩ | ⟨x, y, rfl, rfl, hx, hy, ho⟩
  · exact w_Split_bad h hn
  rcases ho with ⟨rfl, rfl, rfl⟩ | ⟨i, j, A, B, hij, hA, hB, hxA, hyB, rfl, rfl⟩ | ⟨i, k, A, mid, rest, hA, hxk, hW, rfl, rfl⟩
  · obtain ⟨A, hA, hxA⟩ := (FX.of_wb h).all x hx
    obtain ⟨i, hi⟩ := List.getElem?_of_mem hA
    have hp := perm_one hi
    exact (w_Split_same (h.perm hp) hxA).mono fun e w' ⟨h1, h2⟩ => ⟨h1, h2.perm hp.symm⟩
  · have hp := wo_perm2 hA hB hij
    exact (w_Split_apart (h.perm hp) hxA hyB).mono fun e w' ⟨h1, h2⟩ => ⟨h1, h2.perm hp.symm⟩
  · have hp := perm_one hA
    have h1 := h.perm hp
    rw [(split_at hxk).1] at h1
    refine (w_Split (mid := mid) (b := y) (rest := rest) h1 (rot_eq hxk (by rw [hW]; rfl))).mono fun e w' ⟨h1, h2⟩ => ⟨h1, h2.perm ?_⟩
    exact List.perm_append_comm (l₁ := [x :: mid, y :: rest])
theorem w_MergeO {a b : Int} (h : WB w.heap W R F L CF CL EB n t X D key) (ho : MgOut n X D a b X' er) :
    Calls Pg fn_web_Web_Merge #[.pointer (some ⟨W, 0, none⟩), .int .i64 a, .int .i64 b] w fun r w' => r = .returned (errV er) ∧ WS w w' W R F L CF CL EB n t X' D key := by
  rcases ho with ⟨hn, rfl, rfl⟩ | ⟨x, y, rfl, rfl, hx, hy, ho⟩
  · exact w_Merge_bad h hn
  rcases ho with ⟨hr, rfl, rfl⟩ | ⟨hr, i, j, k, k2, A, B, hij, hA, hB, hxk, hyk, rfl, rfl⟩
  · exact w_Merge_same h hx hy hr
  · have hp := wo_perm2 hA hB hij
    have h1 := h.perm hp
    rw [(split_at hxk).1, (split_at hyk).1] at h1
    have hr' : ¬ RT (EW ((A.take k ++ x :: A.drop (k + 1)) :: (B.take k2 ++ y :: B.drop (k2 + 1)) :: wo X i j X.length) D n) x y := by
      rw [← (split_at hxk).1, ← (split_at hyk).1]
      exact fun h => hr ((rt_equiv fun u v => ew_perm hp).2 h)
    refine (w_Merge h1 hr').mono fun e w' ⟨h1, h2⟩ => ⟨h1, h2.perm ?_⟩
    have e1 : x :: A.drop (k + 1) ++ A.take k = A.drop k ++ A.take k := by rw [(split_at hxk).2]
    have e2 : y :: B.drop (k2 + 1) ++ B.take k2 = B.drop k2 ++ B.take k2 := by rw [(split_at hyk).2]
    rw [e1, e2]
    exact List.perm_append_comm (l₁ := [_])
theorem w_ApartO {a : Int} (h : WB w.heap W R F L CF CL EB n t X D key) (ho : ApOut n X a X' er) :
    Calls Pg fn_web_Web_Apart #[.pointer (some ⟨W, 0, none⟩), .int .i64 a] w fun r w' => r = .returned (errV er) ∧ WS w w' W R F L CF CL EB n t X' D key := by
  rcases ho with ⟨hn, rfl, rfl⟩ | ⟨x, rfl, hx, ho⟩
  · exact w_Apart_bad h hn
  rcases ho with ⟨i, hA, rfl, rfl⟩ | ⟨i, k, y, A, rest, hA, hxk, hW, rfl, rfl⟩
  · have hp := perm_one hA
    exact (w_Apart_alone (h.perm hp)).mono fun e w' ⟨h1, h2⟩ => ⟨h1, h2.perm hp.symm⟩
  · have hp := perm_one hA
    have h1 := h.perm hp
    rw [(split_at hxk).1] at h1
    refine (w_Apart (y := y) (rest := rest) h1 (rot_eq hxk hW)).mono fun e w' ⟨h1, h2⟩ => ⟨h1, h2.perm ?_⟩
    exact List.perm_append_comm (l₁ := [[x], y :: rest])
/-- A tie more, or less, in both. -/
theorem REL.add (h : REL D key T) {i x y : Nat} {k : Int} (hn : ∀ t ∈ T, t.e ≠ i) : REL (upd D i (some (x, y))) (upd key i k) (T ++ [⟨i, x, y, k⟩]) := by
  refine ⟨fun t ht => ?_, fun e a b hD => ?_, ?_⟩
  · rcases List.mem_append.1 ht with ht | ht
    · rw [upd_ne _ _ (hn t ht), upd_ne _ _ (hn t ht)]; exact h.to t ht
    · simp at ht; subst ht; simp [upd]
  · by_cases he : e = i
    · subst he; exact ⟨_, List.mem_append_right _ (List.mem_singleton.2 rfl), rfl⟩
    · rw [upd_ne _ _ he] at hD
      obtain ⟨t, ht, rfl⟩ := h.of e a b hD
      exact ⟨t, List.mem_append_left _ ht, rfl⟩
  · rw [List.map_append, List.nodup_append]
    refine ⟨h.nd, by simp, fun a ha b hb e => ?_⟩
    simp at hb; subst hb; subst e
    obtain ⟨t, ht, he⟩ := List.mem_map.1 ha
    exact hn t ht he
theorem REL.drop (h : REL D key T) {i j : Nat} {t : Ti} (hj : T[j]? = some t) (he : t.e = i) : REL (upd D i none) key (T.take j ++ T.drop (j + 1)) := by
  have hsplit : T = T.take j ++ t :: T.drop (j + 1) := by
    conv => lhs; rw [← List.take_append_drop j T]
    congr 1
    have hl := (List.getElem?_eq_some_iff.1 hj).1
    rw [List.drop_eq_getElem_cons hl]
    congr 1
    exact (List.getElem?_eq_some_iff.1 hj).2
  have hnd := h.nd
  rw [hsplit, List.map_append, List.map_cons] at hnd
  have hmem : ∀ s, s ∈ T.take j ++ T.drop (j + 1) → s ∈ T ∧ s.e ≠ i := by
    intro s hs
    refine ⟨by rw [hsplit]; simp only [List.mem_append, List.mem_cons] at hs ⊢; rcases hs with h | h; exact .inl h; exact .inr (.inr h), fun e => ?_⟩
    rw [List.nodup_append, List.nodup_cons] at hnd
    rcases List.mem_append.1 hs with hs | hs
    · exact hnd.2.2 s.e (List.mem_map.2 ⟨s, hs, rfl⟩) t.e (by simp) (by omega)
    · exact hnd.2.1.1 (List.mem_map.2 ⟨s, hs, by omega⟩)
  refine ⟨fun s hs => ?_, fun e a b hD => ?_, ?_⟩
  · obtain ⟨h1, h2⟩ := hmem s hs
    rw [upd_ne _ _ h2]; exact h.to s h1
  · by_cases hei : e = i
    · rw [hei, upd_same] at hD; cases hD
    · rw [upd_ne _ _ hei] at hD
      obtain ⟨s, hs, rfl⟩ := h.of e a b hD
      refine ⟨s, ?_, rfl⟩
      rw [hsplit] at hs
      simp only [List.mem_append, List.mem_cons] at hs ⊢
      rcases hs with h | h | h
      · exact .inl h
      · subst h; exact absurd he hei
      · exact .inr h
  · rw [List.map_append]
    rw [List.nodup_append, List.nodup_cons] at hnd
    rw [List.nodup_append]
    exact ⟨hnd.1, hnd.2.1.2, fun a ha b hb => hnd.2.2 a ha b (List.mem_cons_of_mem _ hb)⟩
theorem w_TieO {e a b k : Int} (h : WB w.heap W R F L CF CL EB n t X D key) (hR : REL D key T) (hd : ∀ e a b, D e = some (a, b) → e < t ∧ a < n ∧ b < n) (hk : -9223372036854775808 ≤ k ∧ k ≤ 9223372036854775807) (ho : AdOut n t X D T e a b k T' er) :
    Calls Pg fn_web_Web_Tie #[.pointer (some ⟨W, 0, none⟩), .int .i64 e, .int .i64 a, .int .i64 b, .int .i64 k] w fun r w' => r = .returned (errV er) ∧ ∃ D' key', WS w w' W R F L CF CL EB n t X D' key' ∧ REL D' key' T' ∧ ∀ e a b, D' e = some (a, b) → e < t ∧ a < n ∧ b < n := by
  rcases ho with ⟨hn, rfl, rfl⟩ | ⟨i, x, y, rfl, rfl, rfl, hi, hx, hy, ho⟩
  · exact (w_Tie_bad h hn).mono fun e w' ⟨h1, h2⟩ => ⟨h1, D, key, h2, hR, hd⟩
  rcases ho with ⟨rfl, rfl, rfl⟩ | ⟨hk1, hs, rfl, rfl⟩ | ⟨hk1, hr, hn, rfl, rfl⟩
  · exact (w_Tie_arg h hi hx hy).mono fun e w' ⟨h1, h2⟩ => ⟨h1, D, key, h2, hR, hd⟩
  · refine (w_Tie_same h hi hx hy hk1 ?_).mono fun e w' ⟨h1, h2⟩ => ⟨h1, D, key, h2, hR, hd⟩
    refine hs.imp id fun ⟨t, ht, he⟩ => ?_
    rw [← he, (hR.to t ht).1]; rfl
  · refine (w_Tie h hi hx hy (by omega) hr (hR.nope.2 hn)).mono fun e w' ⟨h1, h2⟩ => ⟨h1, _, _, h2, hR.add hn, fun e a b hD => ?_⟩
    by_cases he : e = i
    · subst he; rw [upd_same] at hD; cases hD; exact ⟨hi, hx, hy⟩
    · rw [upd_ne _ _ he] at hD; exact hd e a b hD
theorem w_UntieO {e : Int} (h : WB w.heap W R F L CF CL EB n t X D key) (hR : REL D key T) (hd : ∀ e a b, D e = some (a, b) → e < t ∧ a < n ∧ b < n) (ho : DrOut t T e T' er) :
    Calls Pg fn_web_Web_Untie #[.pointer (some ⟨W, 0, none⟩), .int .i64 e] w fun r w' => r = .returned (errV er) ∧ ∃ D' key', WS w w' W R F L CF CL EB n t X D' key' ∧ REL D' key' T' ∧ ∀ e a b, D' e = some (a, b) → e < t ∧ a < n ∧ b < n := by
  rcases ho with ⟨hn, rfl, rfl⟩ | ⟨i, rfl, hi, ⟨hn, rfl, rfl⟩ | ⟨j, s, hj, he, rfl, rfl⟩⟩
  · exact (w_Untie_bad h hn).mono fun e w' ⟨h1, h2⟩ => ⟨h1, D, key, h2, hR, hd⟩
  · exact (w_Untie_no h hi (hR.nope.2 hn)).mono fun e w' ⟨h1, h2⟩ => ⟨h1, D, key, h2, hR, hd⟩
  · have hD := (hR.to s (List.mem_of_getElem? hj)).1
    rw [he] at hD
    refine (w_Untie h hi hD).mono fun e w' ⟨h1, h2⟩ => ⟨h1, _, _, h2, hR.drop hj he, fun e a b hD' => ?_⟩
    by_cases hei : e = i
    · rw [hei, upd_same] at hD'; cases hD'
    · rw [upd_ne _ _ hei] at hD'; exact hd e a b hD'
/-- The weakest tie on a way, by its nodes and by its ties. -/
theorem wk_eq {v : Nat → Int} {l : List Nat} {ts : List Ti} {z : Nat} {z' : Int} (hv : ∀ x, x < n → v x = 9223372036854775807) (hk : ∀ t ∈ ts, v (n + t.e) = t.k ∧ t.k < 9223372036854775807) (hl : l.filter (fun z => decide (n ≤ z)) = ts.map (fun t => n + t.e)) (hz : FstMn v l z) (hw : Wk ts z') :
    (if z < n then (-1 : Int) else ((z - n : Nat) : Int)) = z' := by
  obtain ⟨pre, post, rfl, h1, h2⟩ := hz
  rcases hw with ⟨rfl, rfl⟩ | ⟨j, t, htj, rfl, h3, h4⟩
  · have : ¬ n ≤ z := by
      intro h
      have : z ∈ (pre ++ z :: post).filter (fun z => decide (n ≤ z)) := List.mem_filter.2 ⟨by simp, by simpa using h⟩
      rw [hl] at this; cases this
    rw [if_pos (by omega)]
  · have htm := List.mem_of_getElem? htj
    have hmem : ∀ s ∈ ts, n + s.e ∈ pre ++ z :: post := fun s hs => by
      have : n + s.e ∈ (pre ++ z :: post).filter (fun z => decide (n ≤ z)) := by rw [hl]; exact List.mem_map.2 ⟨s, hs, rfl⟩
      exact (List.mem_filter.1 this).1
    have hzt := h1 _ (hmem t htm)
    have hzn : n ≤ z := by
      rcases Nat.lt_or_ge z n with h | h
      · have := hv z h; have := hk t htm; omega
      · exact h
    rw [if_neg (by omega)]
    rw [List.filter_append, List.filter_cons, if_pos (by simpa using hzn)] at hl
    have hp : (ts.map (fun t => n + t.e))[(pre.filter (fun z => decide (n ≤ z))).length]? = some z := by
      rw [← hl, List.getElem?_append_right (Nat.le_refl _)]; simp
    rw [List.getElem?_map] at hp
    generalize hpp : (pre.filter (fun z => decide (n ≤ z))).length = p at *
    obtain ⟨s, hs, hsz⟩ := Option.map_eq_some_iff.1 hp
    have hsm := List.mem_of_getElem? hs
    have hvz : v z = s.k := by rw [← hsz]; exact (hk s hsm).1
    have h5 := h4 s hsm
    have h6 := (hk t htm).1
    have hjp : j = p := by
      rcases Nat.lt_trichotomy j p with h | h | h
      · have : n + t.e ∈ pre := by
          have h7 : (ts.map (fun t => n + t.e))[j]? = some (n + t.e) := by rw [List.getElem?_map, htj]; rfl
          rw [← hl, List.getElem?_append_left (by omega)] at h7
          exact (List.mem_filter.1 (List.mem_of_getElem? h7)).1
        have := h2 _ this
        omega
      · exact h
      · have := h3 p s h hs
        omega
    subst hjp
    rw [htj] at hs; cases hs
    omega

/-! ## A law's web -/
structure LW (w₀ w : World) (W R F L CF CL EB n t : Nat) (X : List (List Nat)) (D : Nat → Option (Nat × Nat)) (key : Nat → Int) : Prop where
  c : Chg Nobody w₀ w
  b : w₀.heap.size ≤ W ∧ w₀.heap.size ≤ R ∧ w₀.heap.size ≤ F ∧ w₀.heap.size ≤ L ∧ w₀.heap.size ≤ CF ∧ w₀.heap.size ≤ CL ∧ w₀.heap.size ≤ EB
  a : WB w.heap W R F L CF CL EB n t X D key
theorem LW.step (h : LW w₀ w W R F L CF CL EB n t X D key) (k : WS w w' W R F L CF CL EB n t X' D' key') : LW w₀ w' W R F L CF CL EB n t X' D' key' :=
  ⟨h.c.trans' k.c (fun i e => .inr (by rcases e with rfl | rfl | rfl; exact h.b.2.2.2.1; exact h.b.2.2.2.2.2.1; exact h.b.2.2.2.2.2.2)), h.b, k.a⟩
theorem LW.nob (h : LW w₀ w W R F L CF CL EB n t X D key) (k : Chg Nobody w w') : LW w₀ w' W R F L CF CL EB n t X D key := ⟨h.c.trans k, h.b, h.a.nob k⟩
theorem LW.g (h : LW w₀ w W R F L CF CL EB n t X D key) (k : LaidG w₀) : LaidG w := k.chg h.c (fun h => h)
theorem WB.lts {h : Array Obj} (k : WB h W R F L CF CL EB n t X D key) : W < h.size ∧ R < h.size ∧ F < h.size ∧ L < h.size ∧ CF < h.size ∧ CL < h.size ∧ EB < h.size := by
  obtain ⟨v, f, _⟩ := k.f
  exact ⟨k.r.lt, k.a.r.lt, k.a.a.lt.1, k.a.a.lt.2, f.lt.1, f.lt.2, k.e.lt⟩
/-- The blocks that a web's calls write. -/
abbrev wbad (L CL EB : Nat) : Nat → Prop := fun k => k = L ∨ k = CL ∨ k = EB
theorem wbad_ge {h : Array Obj} (k : WB h W R F L CF CL EB n t X D key) : ∀ i, h.size ≤ i → ¬ wbad L CL EB i := by
  have := k.lts
  rintro i hi (rfl | rfl | rfl) <;> omega
end
end Web
end Go.Proofs.YtaoemljoiahapaaGreatDoor
/-
The web's laws' own helpers: an act done to both; all that is told of two items; a web by some acts; what must come.
Conditions: those that each theorem states.
-/
namespace Go.Proofs.YtaoemljoiahapaaGreatDoor
open Go Go.RowKit
set_option linter.unusedVariables false
set_option linter.unusedSimpArgs false
namespace Web
open Go.Proofs.YtaoemljoiahapaaGreatDoor.Seq Go.Proofs.YtaoemljoiahapaaGreatDoor.Cut
section
variable {lc : Nat → Prop} {w₀ w w' : World} {W R F L CF CL EB n t x y e : Nat} {X X' : List (List Nat)} {D D' : Nat → Option (Nat × Nat)} {key key' : Nat → Int} {T T' : List Ti} {er : Int} {k i j fl fc tl tc : Nat} {fb tb : Option Addr}
/-- A law's web, and the reference's, as they stand. -/
abbrev bd (L CL EB : Nat) (lc : Nat → Prop) : Nat → Prop := fun k => wbad L CL EB k ∨ lc k
/-- (lc: the law's own records, which neither lies in.) -/
def ST (lc : Nat → Prop) (w₀ w : World) (W R F L CF CL EB n t : Nat) (fb : Option Addr) (fl : Nat) (tb : Option Addr) (tl tc : Nat) : Prop :=
  ∃ X D key T, LW w₀ w W R F L CF CL EB n t X D key ∧ RW w (bd L CL EB lc) n t D key X T fb fl tb tl tc
theorem ST.nob (h : ST lc w₀ w W R F L CF CL EB n t fb fl tb tl tc) (k : Chg Nobody w w') : ST lc w₀ w' W R F L CF CL EB n t fb fl tb tl tc := by
  obtain ⟨X, D, key, T, h1, h2⟩ := h
  exact ⟨X, D, key, T, h1.nob k, h2.nob k⟩
theorem ST.g (h : ST lc w₀ w W R F L CF CL EB n t fb fl tb tl tc) (k : LaidG w₀) : LaidG w := by
  obtain ⟨X, D, key, T, h1, h2⟩ := h
  exact h1.g k
theorem ST.c (h : ST lc w₀ w W R F L CF CL EB n t fb fl tb tl tc) : Chg Nobody w₀ w := by
  obtain ⟨X, D, key, T, h1, h2⟩ := h
  exact h1.c
/-- What the reference hands back is laid in a record. -/
theorem pre_tail {ty : TypeId} {n0 n1 : Int} {b2 b3 : Option Addr} {l2 c2 l3 c3 : Nat} {K : Addr → Int → Int → Option Addr → Nat → Nat → Option Addr → Nat → Nat → World → Prop}
    (k : ∀ B w', w.heap.size ≤ B → Chg Nobody w (World.drew w') → Row (World.drew w').heap B ty [.int .i64 n0, .int .i64 n1, .slice b2 l2 c2, .slice b3 l3 c3] → K ⟨B, 0, none⟩ n0 n1 b2 l2 c2 b3 l3 c3 w') :
    alo #[(Value.int .i64 (0 : Int)), (Value.int .i64 (0 : Int)), (Value.slice none 0 0), (Value.slice none 0 0)] ty w fun a w0 => sto a (.int .i64 n0) w0 fun w1 => sto (a.add 1) (.int .i64 n1) w1 fun w2 => sto (a.add 2) (.slice b2 l2 c2) w2 fun w3 => sto (a.add 3) (.slice b3 l3 c3) w3 fun w4 =>
      ldI .i64 a (World.drew w4) fun y0 => ldI .i64 (a.add 1) (World.drew w4) fun y1 => ldS (a.add 2) (World.drew w4) fun y2b y2l y2c => ldS (a.add 3) (World.drew w4) fun y3b y3l y3c => K a y0 y1 y2b y2l y2c y3b y3l y3c w4 := by
  refine alo1 fun B w1 hB hc r => st4 r rfl rfl rfl rfl rfl fun w' hc' r' => ?_
  have r2 : Row (World.drew w').heap B ty [.int .i64 n0, .int .i64 n1, .slice b2 l2 c2, .slice b3 l3 c3] := r'
  exact ld4 r2 (k B _ hB ((hc.trans' hc' (fun i e => .inr (by omega))).drew) r2)
/-- The numbers of the two errors compared, and the record handed back. -/
theorem post_tail {B C : Nat} {ty ty' : TypeId} {cs : List Value} {n0 n1 : Int} {b2 b3 : Option Addr} {l2 c2 l3 c3 : Nat} (hg : LaidG w) (rB : Row w.heap B ty [.int .i64 n0, .int .i64 n1, .slice b2 l2 c2, .slice b3 l3 c3]) (rC : Row w.heap C ty' cs) (hl : cs.length = 4)
    {K : Int → Int → Int → Option Addr → Nat → Nat → Option Addr → Nat → Nat → World → Prop} (k : ∀ w', Chg (· = C) w w' → K er n0 n1 b2 l2 c2 b3 l3 c3 w') :
    w.cell? ⟨B, 0, none⟩ = some (.int .i64 n0) ∧ w.cell? (Addr.add ⟨B, 0, none⟩ 1) = some (.int .i64 n1) ∧ w.cell? (Addr.add ⟨B, 0, none⟩ 2) = some (.slice b2 l2 c2) ∧ w.cell? (Addr.add ⟨B, 0, none⟩ 3) = some (.slice b3 l3 c3) ∧
      Calls Pg fn_plaitlaw14_num #[errV er] w fun e w50 => ∃ q : Int, e = .returned (.int .i64 q) ∧
      w50.cell? ⟨B, 0, none⟩ = some (.int .i64 n0) ∧ w50.cell? (Addr.add ⟨B, 0, none⟩ 1) = some (.int .i64 n1) ∧ w50.cell? (Addr.add ⟨B, 0, none⟩ 2) = some (.slice b2 l2 c2) ∧ w50.cell? (Addr.add ⟨B, 0, none⟩ 3) = some (.slice b3 l3 c3) ∧
      sto ⟨C, 0, none⟩ (.int .i64 n0) w50 fun w1 => sto (Addr.add ⟨C, 0, none⟩ 1) (.int .i64 n1) w1 fun w2 => sto (Addr.add ⟨C, 0, none⟩ 2) (.slice b2 l2 c2) w2 fun w3 => sto (Addr.add ⟨C, 0, none⟩ 3) (.slice b3 l3 c3) w3 fun w4 =>
      ldI .i64 ⟨C, 0, none⟩ w4 fun y0 => ldI .i64 (Addr.add ⟨C, 0, none⟩ 1) w4 fun y1 => ldS (Addr.add ⟨C, 0, none⟩ 2) w4 fun y2b y2l y2c => ldS (Addr.add ⟨C, 0, none⟩ 3) w4 fun y3b y3l y3c => K q y0 y1 y2b y2l y2c y3b y3l y3c w4 := by
  refine ⟨rB.cell 0, rB.cellA 1, rB.cellA 2, rB.cellA 3, (c_num14 hg).mono ?_⟩
  rintro e w50 ⟨rfl, hc⟩
  have rB5 := hc.row (fun h => h) rB
  have rC5 := hc.row (fun h => h) rC
  exact ⟨_, rfl, rB5.cell 0, rB5.cellA 1, rB5.cellA 2, rB5.cellA 3, st4 rC5 hl rfl rfl rfl rfl fun w' hc' r' => ld4 r' (k w' (hc.weak.trans hc'))⟩
theorem c_do {a5 a6 a7 a8 a9 : Int} (hg : LaidG w₀) (hs : ST lc w₀ w W R F L CF CL EB n t fb fl tb tl tc) (hlc : ∀ k, lc k → k < w.heap.size) (h9 : -9223372036854775808 ≤ a9 ∧ a9 ≤ 9223372036854775807) :
    Calls Pg fn_plaitlaw14_do #[.pointer (some ⟨W, 0, none⟩), .agg #[.int .i64 (n : Nat), .int .i64 (t : Nat), .slice fb fl fc, .slice tb tl tc], .agg #[.int .i64 a5, .int .i64 a6, .int .i64 a7, .int .i64 a8, .int .i64 a9]] w fun e w' =>
      ∃ fb' fl' fc' tb' tl' tc', e = .returned (.tuple #[.agg #[.int .i64 (n : Nat), .int .i64 (t : Nat), .slice fb' fl' fc', .slice tb' tl' tc'], .bool true]) ∧ ST lc w₀ w' W R F L CF CL EB n t fb' fl' tb' tl' tc' ∧ Chg (wbad L CL EB) w w' := by
  refine (calls_plaitlaw14_do _ _ _ _ _ _ _ _ _ _ _ _ _ _ _ (fun v' w' => ∃ fb' fl' fc' tb' tl' tc', v' = .tuple #[.agg #[.int .i64 (n : Nat), .int .i64 (t : Nat), .slice fb' fl' fc', .slice tb' tl' tc'], .bool true] ∧ ST lc w₀ w' W R F L CF CL EB n t fb' fl' tb' tl' tc' ∧ Chg (wbad L CL EB) w w') ?_).mono
    (by rintro e w' ⟨v, rfl, p1, p2, p3, p4, p5, p6, rfl, k⟩; exact ⟨p1, p2, p3, p4, p5, p6, rfl, k⟩)
  unfold sh_plaitlaw14_do
  obtain ⟨X, D, key, T, hL, hR⟩ := hs
  have hn1 : 0 < n := hL.a.sz.2.2
  have hlts := hL.a.lts
  have hwb := wbad_ge hL.a
  refine alo3 fun A B C w15 hAB hAC hBC hA hB hC hc15 rA rB rC => ?_
  have rA : Row w15.heap A T_plaitref14_Web [.int .i64 (n : Int), .int .i64 (t : Int), .slice fb fl fc, .slice tb tl tc] := rA
  have rB : Row w15.heap B T_plaitlaw14_Act [.int .i64 a5, .int .i64 a6, .int .i64 a7, .int .i64 a8, .int .i64 a9] := rB
  have hL15 := hL.nob hc15
  have hCl := rC.lt
  have hR15 := (hR.grow (bad' := fun k => bd L CL EB lc k ∨ k = C) hn1 (fun k hk hb => hb.elim id fun e => by omega)).nob hc15
  have hs15 := hc15.size
  have hbad15 : ∀ k, w15.heap.size ≤ k → ¬ (bd L CL EB lc k ∨ k = C) := fun k hk hb => hb.elim (fun h => h.elim (hwb k (by omega)) (fun h => by have := hlc k h; omega)) (fun e => by omega)
  have fin : ∀ {X' : List (List Nat)} {D' : Nat → Option (Nat × Nat)} {key' : Nat → Int} {T' : List Ti} {er : Int} {rb qb : Option Addr} {rl rc ql qc : Nat} {w32 w39 w47 : World} {Q : Nat}, Chg Nobody w15 w32 → RF w32 (fun k => bd L CL EB lc k ∨ k = C) rb rl X' → TT w32 (fun k => bd L CL EB lc k ∨ k = C) qb ql T' → ql ≤ qc → REL D' key' T' →
      (∀ e a b, D' e = some (a, b) → e < t ∧ a < n ∧ b < n) → w32.heap.size ≤ Q → Chg Nobody w32 w39 → Row w39.heap Q T_plaitref14_Web [.int .i64 (n : Int), .int .i64 (t : Int), .slice rb rl rc, .slice qb ql qc] → WS w39 w47 W R F L CF CL EB n t X' D' key' →
      LaidG w47 ∧ Row w47.heap Q T_plaitref14_Web [.int .i64 (n : Int), .int .i64 (t : Int), .slice rb rl rc, .slice qb ql qc] ∧ Row w47.heap C T_plaitref14_Web [.int .i64 0, .int .i64 0, .slice none 0 0, .slice none 0 0] ∧
        ∀ w', Chg (· = C) w47 w' → ∃ fb' fl' fc' tb' tl' tc', Value.tuple #[.agg #[.int .i64 (n : Int), .int .i64 (t : Int), .slice rb rl rc, .slice qb ql qc], .bool (er == er)] = .tuple #[.agg #[.int .i64 (n : Int), .int .i64 (t : Int), .slice fb' fl' fc', .slice tb' tl' tc'], .bool true] ∧ ST lc w₀ w' W R F L CF CL EB n t fb' fl' tb' tl' tc' ∧ Chg (wbad L CL EB) w w' := by
    intro X' D' key' T' er rb qb rl rc ql qc w32 w39 w47 Q h1 hf ht hq hrel hd hQ h3 rQ hws
    have s1 := h1.size
    have s3 := h3.size
    have s0 := hL.c.size
    have hL39 := hL15.nob (h1.trans h3)
    have hL47 := hL39.step hws
    have rC47 := hws.c.row (by rintro (h | h | h) <;> omega) ((h1.trans h3).row (fun h => h) rC)
    refine ⟨hL47.g hg, hws.c.row (by rintro (h | h | h) <;> omega) rQ, rC47, fun w' hc' => ⟨rb, rl, rc, qb, ql, qc, by simp, ⟨X', D', key', T', ⟨hL47.c.trans' hc' (fun i e => .inr (by omega)), hL47.b, hL47.a.keep hc' (fun k e => by omega)⟩, ?_⟩, ?_⟩⟩
    · exact ⟨RF.weak (((hf.nob h3).keep hws.c (fun i e => .inl (.inl e))).keep hc' (fun i e => .inr e)) (fun k h => .inl h), (((ht.nob h3).keep hws.c (fun i e => .inl (.inl e))).keep hc' (fun i e => .inr e)).weak (fun k h => .inl h), hq, FX.of_wb hws.a, hrel, hd, hR.m⟩
    · exact (((hc15.trans (h1.trans h3)).weak).trans hws.c).trans' hc' (fun i e => .inr (by omega))
  refine ⟨fun _ w' => w' = w15, ldI_r rB rfl ⟨by decide, fun _ w' => w' = w15, ?_, ?_⟩, ?_⟩
  · exact bif_i (fun _ => rfl) (fun _ => rfl)
  · rintro _ b19 w20 rfl
    refine bif_i (fun _ => ?_) (fun _ => bif_i (fun _ => ?_) (fun _ => ⟨fun _ w' => w' = w20, bif_i (fun _ => rfl) (fun _ => rfl), ?_⟩))
    · -- a face split
      refine ld4 rA (ldI_r rB rfl (ldI_r rB rfl ?_))
      refine (c_Split14 hR15 hn1 hbad15).mono ?_
      rintro e w32 ⟨rb, rl, rc, X', er, rfl, ho, hf, hc⟩
      refine ⟨_, _, _, _, _, _, _, _, _, rfl, pre_tail fun Q w39 hQ h39 rQ => ?_⟩
      have rB39 := (hc.trans h39).row (fun h => h) rB
      refine ldI_r rB39 rfl (ldI_r rB39 rfl ?_)
      refine (w_SplitO (hL15.nob (hc.trans h39)).a ho).mono ?_
      rintro e w47 ⟨rfl, hws⟩
      obtain ⟨g1, r1, r2, k⟩ := fin (er := er) hc hf (hR15.t.nob hc) hR.c hR.r hR.d hQ h39 rQ hws
      exact ⟨_, rfl, post_tail g1 r1 r2 rfl k⟩
    · -- an item taken out
      refine ld4 rA (ldI_r rB rfl ?_)
      refine (c_Apart14 hR15 hn1 hbad15).mono ?_
      rintro e w32 ⟨rb, rl, rc, X', er, rfl, ho, hf, hc⟩
      refine ⟨_, _, _, _, _, _, _, _, _, rfl, pre_tail fun Q w39 hQ h39 rQ => ?_⟩
      have rB39 := (hc.trans h39).row (fun h => h) rB
      refine ldI_r rB39 rfl ?_
      refine (w_ApartO (hL15.nob (hc.trans h39)).a ho).mono ?_
      rintro e w47 ⟨rfl, hws⟩
      obtain ⟨g1, r1, r2, k⟩ := fin (er := er) hc hf (hR15.t.nob hc) hR.c hR.r hR.d hQ h39 rQ hws
      exact ⟨_, rfl, post_tail g1 r1 r2 rfl k⟩
    rintro _ b98 w99 rfl
    refine bif_i (fun _ => ?_) (fun _ => bif_i (fun _ => ?_) (fun _ => rfl))
    · -- a tie
      refine ld4 rA (ldI_r rB rfl (ldI_r rB rfl (ldI_r rB rfl (ldI_r rB rfl ?_))))
      refine (c_Add14 hR15 hn1 hbad15).mono ?_
      rintro e w32 ⟨rb, rl, rc, T', er, rfl, ho, ht, hle, hc⟩
      refine ⟨_, _, _, _, _, _, _, _, _, rfl, pre_tail fun Q w39 hQ h39 rQ => ?_⟩
      have rB39 := (hc.trans h39).row (fun h => h) rB
      refine ldI_r rB39 rfl (ldI_r rB39 rfl (ldI_r rB39 rfl (ldI_r rB39 rfl ?_)))
      refine (w_TieO (hL15.nob (hc.trans h39)).a hR.r hR.d h9 ho).mono ?_
      rintro e w47 ⟨rfl, D', key', hws, hrel, hd⟩
      obtain ⟨g1, r1, r2, k⟩ := fin (er := er) hc (hR15.f.nob hc) ht hle hrel hd hQ h39 rQ hws
      exact ⟨_, rfl, post_tail g1 r1 r2 rfl k⟩
    · -- a tie less
      refine ld4 rA (ldI_r rB rfl ?_)
      refine (c_Drop14 hR15 hbad15).mono ?_
      rintro e w32 ⟨rb, rl, rc, T', er, rfl, ho, ht, hle, hc⟩
      refine ⟨_, _, _, _, _, _, _, _, _, rfl, pre_tail fun Q w39 hQ h39 rQ => ?_⟩
      have rB39 := (hc.trans h39).row (fun h => h) rB
      refine ldI_r rB39 rfl ?_
      refine (w_UntieO (hL15.nob (hc.trans h39)).a hR.r hR.d ho).mono ?_
      rintro e w47 ⟨rfl, D', key', hws, hrel, hd⟩
      obtain ⟨g1, r1, r2, k⟩ := fin (er := er) hc (hR15.f.nob hc) ht hle hrel hd hQ h39 rQ hws
      exact ⟨_, rfl, post_tail g1 r1 r2 rfl k⟩
  · -- two faces merged
    rintro _ w180 rfl
    refine ld4 rA (ldI_r rB rfl (ldI_r rB rfl ?_))
    refine (c_Merge14 hR15 hn1 hbad15).mono ?_
    rintro e w32 ⟨rb, rl, rc, X', er, rfl, ho, hf, hc⟩
    refine ⟨_, _, _, _, _, _, _, _, _, rfl, pre_tail fun Q w39 hQ h39 rQ => ?_⟩
    have rB39 := (hc.trans h39).row (fun h => h) rB
    refine ldI_r rB39 rfl (ldI_r rB39 rfl ?_)
    refine (w_MergeO (hL15.nob (hc.trans h39)).a ho).mono ?_
    rintro e w47 ⟨rfl, hws⟩
    obtain ⟨g1, r1, r2, k⟩ := fin (er := er) hc hf (hR15.t.nob hc) hR.c hR.r hR.d hQ h39 rQ hws
    exact ⟨_, rfl, post_tail g1 r1 r2 rfl k⟩
theorem ST.put (h : ST lc w₀ w W R F L CF CL EB n t fb fl tb tl tc) (c : Chg lc w w') (hl : ∀ k, lc k → w₀.heap.size ≤ k ∧ k ≠ W ∧ k ≠ R ∧ k ≠ F ∧ k ≠ L ∧ k ≠ CF ∧ k ≠ CL ∧ k ≠ EB) : ST lc w₀ w' W R F L CF CL EB n t fb fl tb tl tc := by
  obtain ⟨X, D, key, T, h1, h2⟩ := h
  exact ⟨X, D, key, T, ⟨h1.c.trans' c (fun i hi => .inr (hl i hi).1), h1.b, h1.a.keep c (fun i hi => (hl i hi).2)⟩, h2.keep c (fun i e => .inr e)⟩
theorem ST.wb (h : ST lc w₀ w W R F L CF CL EB n t fb fl tb tl tc) : ∀ i, w.heap.size ≤ i → ¬ wbad L CL EB i := by
  obtain ⟨X, D, key, T, h1, h2⟩ := h
  exact wbad_ge h1.a
/-- All that is told of two items. -/
theorem c_told14 {a b : Int} (hg : LaidG w₀) (hs : ST lc w₀ w W R F L CF CL EB n t fb fl tb tl tc) (hlc : ∀ k, lc k → k < w.heap.size) :
    Calls Pg fn_plaitlaw14_told #[.pointer (some ⟨W, 0, none⟩), .agg #[.int .i64 (n : Nat), .int .i64 (t : Nat), .slice fb fl fc, .slice tb tl tc], .int .i64 a, .int .i64 b] w fun e w' => e = .returned (.bool true) ∧ ST lc w₀ w' W R F L CF CL EB n t fb fl tb tl tc ∧ Chg (wbad L CL EB) w w' := by
  refine (calls_plaitlaw14_told _ _ _ _ _ _ _ _ _ _ _ _ (fun v' w' => v' = .bool true ∧ ST lc w₀ w' W R F L CF CL EB n t fb fl tb tl tc ∧ Chg (wbad L CL EB) w w') ?_).mono (by rintro e w' ⟨v, rfl, rfl, k⟩; exact ⟨rfl, k⟩)
  unfold sh_plaitlaw14_told
  obtain ⟨X, D, key, T, hL, hR⟩ := hs
  have hlts := hL.a.lts
  refine alo1 fun A w8 hA hc8 rA => ?_
  have rA : Row w8.heap A T_plaitref14_Web [.int .i64 (n : Int), .int .i64 (t : Int), .slice fb fl fc, .slice tb tl tc] := rA
  -- what holds all the way
  have keepA : ∀ {w1 w2 : World}, Chg (wbad L CL EB) w1 w2 → Row w1.heap A T_plaitref14_Web [.int .i64 (n : Int), .int .i64 (t : Int), .slice fb fl fc, .slice tb tl tc] → Row w2.heap A T_plaitref14_Web [.int .i64 (n : Int), .int .i64 (t : Int), .slice fb fl fc, .slice tb tl tc] := fun c r => c.row (by rintro (h | h | h) <;> omega) r
  have hall : LW w₀ w8 W R F L CF CL EB n t X D key ∧ RW w8 (bd L CL EB lc) n t D key X T fb fl tb tl tc ∧ Row w8.heap A T_plaitref14_Web [.int .i64 (n : Int), .int .i64 (t : Int), .slice fb fl fc, .slice tb tl tc] ∧ Chg (wbad L CL EB) w w8 := ⟨hL.nob hc8, hR.nob hc8, rA, hc8.weak⟩
  have stepW : ∀ {w1 w2 : World}, WS w1 w2 W R F L CF CL EB n t X D key → (LW w₀ w1 W R F L CF CL EB n t X D key ∧ RW w1 (bd L CL EB lc) n t D key X T fb fl tb tl tc ∧ Row w1.heap A T_plaitref14_Web [.int .i64 (n : Int), .int .i64 (t : Int), .slice fb fl fc, .slice tb tl tc] ∧ Chg (wbad L CL EB) w w1) →
      (LW w₀ w2 W R F L CF CL EB n t X D key ∧ RW w2 (bd L CL EB lc) n t D key X T fb fl tb tl tc ∧ Row w2.heap A T_plaitref14_Web [.int .i64 (n : Int), .int .i64 (t : Int), .slice fb fl fc, .slice tb tl tc] ∧ Chg (wbad L CL EB) w w2) :=
    fun k h => ⟨h.1.step k, h.2.1.keep k.c (fun i e => .inl e), keepA k.c h.2.2.1, h.2.2.2.trans k.c⟩
  have stepN : ∀ {w1 w2 : World}, Chg Nobody w1 w2 → (LW w₀ w1 W R F L CF CL EB n t X D key ∧ RW w1 (bd L CL EB lc) n t D key X T fb fl tb tl tc ∧ Row w1.heap A T_plaitref14_Web [.int .i64 (n : Int), .int .i64 (t : Int), .slice fb fl fc, .slice tb tl tc] ∧ Chg (wbad L CL EB) w w1) →
      (LW w₀ w2 W R F L CF CL EB n t X D key ∧ RW w2 (bd L CL EB lc) n t D key X T fb fl tb tl tc ∧ Row w2.heap A T_plaitref14_Web [.int .i64 (n : Int), .int .i64 (t : Int), .slice fb fl fc, .slice tb tl tc] ∧ Chg (wbad L CL EB) w w2) :=
    fun k h => ⟨h.1.nob k, h.2.1.nob k, k.row (fun h => h) h.2.2.1, h.2.2.2.trans k.weak⟩
  clear hL hR rA hc8
  have hbd : ∀ {w1 : World}, (LW w₀ w1 W R F L CF CL EB n t X D key ∧ RW w1 (bd L CL EB lc) n t D key X T fb fl tb tl tc ∧ Row w1.heap A T_plaitref14_Web [.int .i64 (n : Int), .int .i64 (t : Int), .slice fb fl fc, .slice tb tl tc] ∧ Chg (wbad L CL EB) w w1) → ∀ i, w1.heap.size ≤ i → ¬ bd L CL EB lc i :=
    fun h i hi hb => hb.elim (wbad_ge h.1.a i hi) (fun hb => by have := hlc i hb; have := h.2.2.2.size; omega)
  by_cases hin : (0 ≤ a ∧ a < n) ∧ 0 ≤ b ∧ b < n
  case neg =>
    refine (w_Linked_bad hall.1.a hin).mono ?_
    rintro e w11 ⟨rfl, rfl⟩
    refine ⟨_, _, rfl, (w_Weakest_bad hall.1.a hin).mono ?_⟩
    rintro e w15 ⟨rfl, rfl⟩
    refine ⟨_, _, rfl, ld4 hall.2.2.1 ?_⟩
    refine (c_Weakest14 hall.2.1 (hbd hall)).mono ?_
    rintro e w23 ⟨z, er, rfl, ho, hc⟩
    replace hall := stepN hc hall
    rcases ho with ⟨_, rfl, rfl⟩ | ⟨x, y, rfl, rfl, hx, hy, _⟩
    case inr => exact absurd ⟨⟨by omega, by omega⟩, by omega, by omega⟩ hin
    refine ⟨_, _, rfl, fun _ w' => LW w₀ w' W R F L CF CL EB n t X D key ∧ RW w' (bd L CL EB lc) n t D key X T fb fl tb tl tc ∧ Row w'.heap A T_plaitref14_Web [.int .i64 (n : Int), .int .i64 (t : Int), .slice fb fl fc, .slice tb tl tc] ∧ Chg (wbad L CL EB) w w', ?_, ?_⟩
    · refine (c_num14 (hall.1.g hg)).mono ?_
      rintro e w27 ⟨rfl, hc⟩
      exact ⟨_, rfl, bif_i (fun h => by simp at h) (fun _ => bif_i (fun h => by simp at h) (fun _ => stepN hc hall))⟩
    · rintro _ w29 hall
      refine bif_i (fun _ => ?_) (fun h => by simp at h)
      refine (c_num14 (hall.1.g hg)).mono ?_
      rintro e w31 ⟨rfl, hc⟩
      replace hall := stepN hc hall
      exact ⟨_, rfl, by simp, ⟨X, D, key, T, hall.1, hall.2.1⟩, hall.2.2.2⟩
  obtain ⟨⟨ha0, han⟩, hb0, hbn⟩ := hin
  obtain ⟨x, rfl⟩ := Int.eq_ofNat_of_zero_le ha0
  obtain ⟨y, rfl⟩ := Int.eq_ofNat_of_zero_le hb0
  have hx : x < n := by omega
  have hy : y < n := by omega
  have hFX := hall.2.1.x
  obtain ⟨i, Ax, kx, hx1, hx2⟩ := hFX.at hx
  obtain ⟨j, Ay, ky, hy1, hy2⟩ := hFX.at hy
  obtain ⟨hXb, hAb⟩ := hFX.big
  have hfl : fl = X.length := hall.2.1.f.1.symm
  have hp := perm_one hx1
  obtain ⟨hsplit, hdrop⟩ := split_at hx2
  have hxl : kx < Ax.length := (List.getElem?_eq_some_iff.1 hx2).1
  -- behind the weakest tie all is as one
  have rest : ∀ {w23 : World} {ok : Bool} {er : Int}, (LW w₀ w23 W R F L CF CL EB n t X D key ∧ RW w23 (bd L CL EB lc) n t D key X T fb fl tb tl tc ∧ Row w23.heap A T_plaitref14_Web [.int .i64 (n : Int), .int .i64 (t : Int), .slice fb fl fc, .slice tb tl tc] ∧ Chg (wbad L CL EB) w w23) → er ≠ 12 → ok = (er == 0) →
      bif (er == (12 : Int)) then (Calls Pg fn_plaitlaw14_num #[errV 0] w23 fun e32 w31 => ∃ n58_30 : Int, e32 = .returned (Value.int .i64 n58_30) ∧ (Value.bool (n58_30 == (12 : Int)) = .bool true ∧ ST lc w₀ w31 W R F L CF CL EB n t fb fl tb tl tc ∧ Chg (wbad L CL EB) w w31)) else (
      Calls Pg fn_web_Web_Walk #[(Value.pointer (some ⟨W, 0, none⟩)), (Value.int .i64 (x : Int))] w23 fun e36 w35 => ∃ s63_33b : Option Addr, ∃ s63_33l : Nat, ∃ s63_33c : Nat, ∃ v63_34 : Value, e36 = .returned (Value.tuple #[(Value.slice s63_33b s63_33l s63_33c), v63_34]) ∧
      Calls Pg fn_web_Web_Len #[(Value.pointer (some ⟨W, 0, none⟩)), (Value.int .i64 (x : Int))] w35 fun e40 w39 => ∃ n69_37 : Int, ∃ v69_38 : Value, e40 = .returned (Value.tuple #[(Value.int .i64 n69_37), v69_38]) ∧
      Calls Pg fn_web_Web_Same #[(Value.pointer (some ⟨W, 0, none⟩)), (Value.int .i64 (x : Int)), (Value.int .i64 (y : Int))] w39 fun e44 w43 => ∃ b76_41 : Bool, ∃ v76_42 : Value, e44 = .returned (Value.tuple #[(Value.bool b76_41), v76_42]) ∧
      ldS (Addr.add ⟨A, 0, none⟩ 2) w43 fun s81_45b s81_45l s81_45c =>
      Calls Pg fn_plaitref04_Find #[(Value.slice s81_45b s81_45l s81_45c), (Value.int .i64 (x : Int))] w43 fun e49 w48 => ∃ n83_46 : Int, ∃ n83_47 : Int, e49 = .returned (Value.tuple #[(Value.int .i64 n83_46), (Value.int .i64 n83_47)]) ∧
      ldS (Addr.add ⟨A, 0, none⟩ 2) w48 fun s88_50b s88_50l s88_50c =>
      Calls Pg fn_plaitref04_Find #[(Value.slice s88_50b s88_50l s88_50c), (Value.int .i64 (y : Int))] w48 fun e54 w53 => ∃ n90_51 : Int, ∃ n90_52 : Int, e54 = .returned (Value.tuple #[(Value.int .i64 n90_51), (Value.int .i64 n90_52)]) ∧
      isI (errV 0) ∧ bif (nilI (errV 0)) then (
      isI v63_34 ∧ bif (nilI v63_34) then (
      isI v69_38 ∧ bif (nilI v69_38) then (
      isI v76_42 ∧ bif (nilI v76_42) then (
      bif (ok == (er == (0 : Int))) then (
      ldS (Addr.add ⟨A, 0, none⟩ 2) w53 fun s116_55b s116_55l s116_55c =>
      Calls Pg fn_plaitref05_Walk #[(Value.slice s116_55b s116_55l s116_55c), (Value.int .i64 (x : Int))] w53 fun e58 w57 => ∃ s118_56b : Option Addr, ∃ s118_56l : Nat, ∃ s118_56c : Nat, e58 = .returned (Value.slice s118_56b s118_56l s118_56c) ∧
      Calls Pg fn_plaitlaw14_ints #[(Value.slice s63_33b s63_33l s63_33c), (Value.slice s118_56b s118_56l s118_56c)] w57 fun e61 w60 => ∃ b119_59 : Bool, e61 = .returned (Value.bool b119_59) ∧
      bif b119_59 then (
      ldS (Addr.add ⟨A, 0, none⟩ 2) w60 fun s124_62b s124_62l s124_62c =>
      ixS s124_62b s124_62l n83_46 1 fun a126_63 =>
      ldS a126_63 w60 fun s127_64b s127_64l s127_64c =>
      bif (n69_37 == (s127_64l : Int)) then (
      (Value.bool (b76_41 == (n83_46 == n90_51)) = .bool true ∧ ST lc w₀ w60 W R F L CF CL EB n t fb fl tb tl tc ∧ Chg (wbad L CL EB) w w60)) else (
      (Value.bool false = .bool true ∧ ST lc w₀ w60 W R F L CF CL EB n t fb fl tb tl tc ∧ Chg (wbad L CL EB) w w60))) else (
      (Value.bool false = .bool true ∧ ST lc w₀ w60 W R F L CF CL EB n t fb fl tb tl tc ∧ Chg (wbad L CL EB) w w60))) else (
      (Value.bool false = .bool true ∧ ST lc w₀ w53 W R F L CF CL EB n t fb fl tb tl tc ∧ Chg (wbad L CL EB) w w53))) else (
      (Value.bool false = .bool true ∧ ST lc w₀ w53 W R F L CF CL EB n t fb fl tb tl tc ∧ Chg (wbad L CL EB) w w53))) else (
      (Value.bool false = .bool true ∧ ST lc w₀ w53 W R F L CF CL EB n t fb fl tb tl tc ∧ Chg (wbad L CL EB) w w53))) else (
      (Value.bool false = .bool true ∧ ST lc w₀ w53 W R F L CF CL EB n t fb fl tb tl tc ∧ Chg (wbad L CL EB) w w53))) else (
      (Value.bool false = .bool true ∧ ST lc w₀ w53 W R F L CF CL EB n t fb fl tb tl tc ∧ Chg (wbad L CL EB) w w53))) := by
    intro w23 ok er hall her hok
    refine bif_i (fun h => ?_) (fun _ => ?_)
    · simp only [b1s] at h; exact absurd h her
    have hwalk := w_Walk (x := x) (pre := Ax.take kx) (post := Ax.drop (kx + 1)) (q' := wo X i i X.length) (by rw [← hsplit]; exact hall.1.a.perm hp)
    rw [← hsplit, ← hdrop] at hwalk
    refine hwalk.mono ?_
    rintro e w35 ⟨ob, oc, rfl, hown, hws⟩
    have hs23 := wbad_ge hall.1.a
    replace hall := stepW (hws.perm hp.symm) hall
    refine ⟨_, _, _, _, rfl, ?_⟩
    refine (w_Len (x := x) (hall.1.a.perm hp) (List.mem_of_getElem? hx2)).mono ?_
    rintro e w39 ⟨rfl, hws⟩
    have hok2 : ∀ {w1 w2 : World}, Chg (wbad L CL EB) w1 w2 → Own w1 w23.heap.size T_int 1 ob Ax.length oc (ivs (Ax.drop kx ++ Ax.take kx)) → Own w2 w23.heap.size T_int 1 ob Ax.length oc (ivs (Ax.drop kx ++ Ax.take kx)) := fun c h => h.keep c fun k hk e => hs23 k (h.bk_lt hk).1 e
    replace hown := hok2 hws.c hown
    replace hall := stepW (hws.perm hp.symm) hall
    refine ⟨_, _, rfl, ?_⟩
    have hsame : Calls Pg fn_web_Web_Same #[(Value.pointer (some ⟨W, 0, none⟩)), (Value.int .i64 (x : Int)), (Value.int .i64 (y : Int))] w39 fun r w' => r = .returned (.tuple #[.bool (decide (i = j)), errV 0]) ∧ WS w39 w' W R F L CF CL EB n t X D key := by
      by_cases hij : i = j
      · subst hij
        rw [hx1] at hy1; cases hy1
        refine (w_Same_yes (hall.1.a.perm hp) (List.mem_of_getElem? hx2) (List.mem_of_getElem? hy2)).mono fun e w' ⟨h1, h2⟩ => ⟨by rw [h1]; simp, h2.perm hp.symm⟩
      · have hp2 := wo_perm2 hx1 hy1 hij
        refine (w_Same_no (hall.1.a.perm hp2) (List.mem_of_getElem? hx2) (List.mem_of_getElem? hy2)).mono fun e w' ⟨h1, h2⟩ => ⟨by rw [h1]; simp [hij], h2.perm hp2.symm⟩
    refine hsame.mono ?_
    rintro e w43 ⟨rfl, hws⟩
    replace hown := hok2 hws.c hown
    replace hall := stepW hws hall
    refine ⟨_, _, rfl, ldS_r hall.2.2.1 rfl ?_⟩
    refine (c_rFind hall.2.1.f hFX.nd hx1 hx2 (by omega) (fun B hB => by have := hAb B hB; omega)).mono ?_
    rintro e w48 ⟨rfl, hc⟩
    replace hown := hok2 hc.weak hown
    replace hall := stepN hc hall
    refine ⟨_, _, rfl, ldS_r hall.2.2.1 rfl ?_⟩
    refine (c_rFind hall.2.1.f hFX.nd hy1 hy2 (by omega) (fun B hB => by have := hAb B hB; omega)).mono ?_
    rintro e w53 ⟨rfl, hc⟩
    replace hown := hok2 hc.weak hown
    replace hall := stepN hc hall
    refine ⟨_, _, rfl, errV_isI _, bif_i (fun _ => ⟨errV_isI _, bif_i (fun _ => ⟨errV_isI _, bif_i (fun _ => ⟨errV_isI _, bif_i (fun _ => ?_) (fun h => absurd h (by decide))⟩) (fun h => absurd h (by decide))⟩) (fun h => absurd h (by decide))⟩) (fun h => absurd h (by decide))⟩
    subst hok
    refine bif_i (fun _ => ldS_r hall.2.2.1 rfl ?_) (fun h => by simp at h)
    refine (c_rWalk05 hall.2.1.f hFX.nd hx1 hx2 (by omega) hAb).mono ?_
    rintro e w57 ⟨rb, rc, rfl, hia, hrb, hc⟩
    replace hown := hok2 hc.weak hown
    replace hall := stepN hc hall
    refine ⟨_, _, _, rfl, ?_⟩
    refine (c_ints14 (IA.of_own (A := Seq.ints (Ax.drop kx ++ Ax.take kx)) hown (by simp [ivs, Function.comp_def])) hia (by have := hFX.each (List.mem_of_getElem? hx1); have := hFX.n; omega)).mono ?_
    rintro e w60 ⟨rfl, hc⟩
    replace hall := stepN hc hall
    refine ⟨_, rfl, bif_i (fun _ => ldS_r hall.2.2.1 rfl ?_) (fun h => by simp at h)⟩
    refine hall.2.1.f.rd hx1 fun eb ec _ _ _ => bif_i (fun _ => ⟨?_, ⟨X, D, key, T, hall.1, hall.2.1⟩, hall.2.2.2⟩) (fun h => by simp at h)
    congr 1
    rw [beq_iff_eq]
    by_cases hij : i = j
    · simp [hij]
    · rw [decide_eq_false hij]
      symm
      rw [beq_eq_false_iff_ne]
      omega
  refine (w_Linked hall.1.a hx hy).mono ?_
  rintro e w11 ⟨ok, rfl, hok, hws⟩
  replace hall := stepW hws hall
  refine ⟨_, _, rfl, ?_⟩
  by_cases hrt : RT (EW X D n) x y
  · obtain ⟨l, hl⟩ := hrt.way
    refine (w_Weakest hall.1.a hx hy hl).mono ?_
    rintro e w15 ⟨v, z, hv, hk, hfst, rfl, hws⟩
    replace hall := stepW hws hall
    refine ⟨_, _, rfl, ld4 hall.2.2.1 ?_⟩
    refine (c_Weakest14 hall.2.1 (hbd hall)).mono ?_
    rintro e w23 ⟨z', er, rfl, ho, hc⟩
    replace hall := stepN hc hall
    have hout : er = 0 ∧ (if z < n then (-1 : Int) else ((z - n : Nat) : Int)) = z' := by
      rcases ho with ⟨hn, _⟩ | ⟨x', y', ex, ey, _, _, ho⟩
      · exact absurd ⟨⟨by omega, by omega⟩, by omega, by omega⟩ hn
      · obtain rfl : x = x' := by omega
        obtain rfl : y = y' := by omega
        rcases ho with ⟨hn, _⟩ | ⟨rfl, l', ts, hl', hfil, hts, hw⟩
        · exact absurd hrt hn
        · obtain ⟨v2, f2, _⟩ := hall.1.a.f
          have : l = l' := f2.uniq (by omega) hl hl'
          subst this
          refine ⟨rfl, wk_eq hv (fun s hs => ?_) hfil hfst hw⟩
          have h1 := hall.2.1.r.to s (hts s hs)
          exact ⟨by rw [hk _ _ _ h1.1, h1.2], by rw [← h1.2]; exact (hall.1.a.d _ _ _ h1.1).2.2.2.2⟩
    obtain ⟨rfl, hz⟩ := hout
    refine ⟨_, _, rfl, fun _ w' => LW w₀ w' W R F L CF CL EB n t X D key ∧ RW w' (bd L CL EB lc) n t D key X T fb fl tb tl tc ∧ Row w'.heap A T_plaitref14_Web [.int .i64 (n : Int), .int .i64 (t : Int), .slice fb fl fc, .slice tb tl tc] ∧ Chg (wbad L CL EB) w w', ?_, ?_⟩
    · refine (c_num14 (hall.1.g hg)).mono ?_
      rintro e w27 ⟨rfl, hc⟩
      exact ⟨_, rfl, bif_i (fun h => by simp at h) (fun _ => bif_i (fun h => by simp [hz] at h) (fun _ => stepN hc hall))⟩
    · rintro _ w29 hall
      exact rest hall (by omega) (by simp [hok, hrt])
  · refine (w_Weakest_no hall.1.a hx hy hrt).mono ?_
    rintro e w15 ⟨rfl, hws⟩
    replace hall := stepW hws hall
    refine ⟨_, _, rfl, ld4 hall.2.2.1 ?_⟩
    refine (c_Weakest14 hall.2.1 (hbd hall)).mono ?_
    rintro e w23 ⟨z', er, rfl, ho, hc⟩
    replace hall := stepN hc hall
    have hout : er = 21 ∧ z' = 0 := by
      rcases ho with ⟨hn, _⟩ | ⟨x', y', ex, ey, _, _, ho⟩
      · exact absurd ⟨⟨by omega, by omega⟩, by omega, by omega⟩ hn
      · obtain rfl : x = x' := by omega
        obtain rfl : y = y' := by omega
        rcases ho with ⟨_, h1, h2⟩ | ⟨rfl, l', ts, hl', _⟩
        · exact ⟨h2, h1⟩
        · exact absurd (way_rt hl') hrt
    obtain ⟨rfl, rfl⟩ := hout
    refine ⟨_, _, rfl, fun _ w' => LW w₀ w' W R F L CF CL EB n t X D key ∧ RW w' (bd L CL EB lc) n t D key X T fb fl tb tl tc ∧ Row w'.heap A T_plaitref14_Web [.int .i64 (n : Int), .int .i64 (t : Int), .slice fb fl fc, .slice tb tl tc] ∧ Chg (wbad L CL EB) w w', ?_, ?_⟩
    · refine (c_num14 (hall.1.g hg)).mono ?_
      rintro e w27 ⟨rfl, hc⟩
      exact ⟨_, rfl, bif_i (fun h => by simp at h) (fun _ => bif_i (fun h => by simp at h) (fun _ => stepN hc hall))⟩
    · rintro _ w29 hall
      refine rest hall (by omega) ?_
      cases ok with
      | false => rfl
      | true => exact absurd (hok.1 rfl) hrt
theorem rt_closed {E : Nat → Nat → Prop} {P : Nat → Prop} {a b : Nat} (hc : ∀ x y, P x → E x y → P y) (h0 : P a) (h : RT E a b) : P b := by
  induction h with
  | refl => exact h0
  | step _ e ih => exact hc _ _ ih e
theorem c_sure14 {w : World} (hg : LaidG w) : Calls Pg fn_plaitlaw14_sure #[] w fun e w' => e = .returned (.bool true) ∧ Chg Nobody w w' := by
  refine (calls_plaitlaw14_sure _ (fun v' w' => v' = .bool true ∧ Chg Nobody w w') ?_).mono (by rintro e w' ⟨v, rfl, rfl, k⟩; exact ⟨rfl, k⟩)
  unfold sh_plaitlaw14_sure
  refine (w_New (n := 3) (t := 2) (by omega) (by omega) (by omega) (by omega)).mono ?_
  rintro e w2 ⟨W, R, F, L, CF, CL, EB, rfl, hc, hb, hw⟩
  have hs : LW w w2 W R F L CF CL EB 3 2 (([] ++ 0 :: []) :: ([] ++ 1 :: []) :: [[2]]) (fun _ => none) (fun _ => 0) := ⟨hc, hb, hw⟩
  clear hw hc hb
  refine ⟨_, _, rfl, fun _ w' => LW w w' W R F L CF CL EB 3 2 [[0, 1], [2]] (upd (fun _ => none) 0 (some (1, 2))) (upd (fun _ => 0) 0 7), err_i (fun e => absurd rfl e) (fun _ => bif_i (fun h => by cases h) (fun _ => ?_)), ?_⟩
  · refine (w_Merge hs.a ?_).mono ?_
    · intro hr
      exact absurd (rt_closed (P := fun x => x = 0) (fun x y _ h => absurd h (ew_ones (n := 3))) rfl hr) (by omega)
    rintro e w6 ⟨rfl, hws⟩
    have hs := hs.step hws
    refine ⟨_, rfl, err_i (fun e => absurd rfl e) (fun _ => ?_)⟩
    refine (w_Tie (e := 0) (a := 1) (b := 2) (k := 7) hs.a (by omega) (by omega) (by omega) (by omega) ?_ rfl).mono ?_
    · intro hr
      have : 2 ≤ 1 := rt_closed (P := fun x => x ≤ 1) (fun x y hx h => ?_) (Nat.le_refl 1) hr
      · omega
      · rcases h with ⟨A, hA, h⟩ | ⟨_, _, _, h, _⟩
        · simp at hA
          rcases hA with rfl | rfl
          · rcases h with h | h <;> simp [Nx] at h <;> omega
          · rcases h with h | h <;> simp [Nx] at h
        · cases h
    rintro e w9 ⟨rfl, hws⟩
    have hs := hs.step hws
    exact ⟨_, rfl, err_i (fun e => absurd rfl e) (fun _ => hs)⟩
  · rintro _ w11 hs
    have hw4 : Cut.Way (EW [[0, 1], [2]] (upd (fun _ => none) 0 (some (1, 2))) 3) 0 2 [0, 1, 3, 2] := by
      refine ⟨rfl, rfl, by decide, ⟨fun y hy => ?_, ⟨fun y hy => ?_, ⟨fun y hy => ?_, ⟨fun y hy => by simp at hy, trivial⟩⟩⟩⟩⟩
      · simp at hy; subst hy; exact .inl ⟨[0, 1], by simp, .inl (.inl ⟨rfl, rfl⟩)⟩
      · simp at hy; subst hy; exact .inr ⟨0, 1, 2, rfl, .inl ⟨rfl, .inl rfl⟩⟩
      · simp at hy; subst hy; exact .inr ⟨0, 1, 2, rfl, .inr ⟨rfl, .inr rfl⟩⟩
    refine (w_Weakest (a := 0) (b := 2) hs.a (by omega) (by omega) hw4).mono ?_
    rintro e w14 ⟨v, z, hv, hk, ⟨pre, post, e1, h1, h2⟩, rfl, hws⟩
    have hs := hs.step hws
    have hv3 : v 3 = 7 := hk 0 1 2 rfl
    have hz : z = 3 := by
      have h3 := h1 3 (by simp)
      have hm : z ∈ [0, 1, 3, 2] := by rw [e1]; simp
      have hv0 := hv 0 (by omega)
      have hv1 := hv 1 (by omega)
      have hv2 := hv 2 (by omega)
      simp at hm
      rcases hm with rfl | rfl | rfl | rfl <;> omega
    subst hz
    refine ⟨_, _, rfl, errV_isI _, bif_i (fun _ => bif_i (fun _ => ?_) (fun h => by simp at h)) (fun h => absurd h (by decide))⟩
    refine (w_Merge_same (a := 0) (b := 2) hs.a (by omega) (by omega) (way_rt hw4)).mono ?_
    rintro e w17 ⟨rfl, hws⟩
    have hs := hs.step hws
    refine ⟨_, rfl, (c_num14 (hs.g hg)).mono ?_⟩
    rintro e w20 ⟨rfl, hc⟩
    have hs := hs.nob hc
    refine ⟨_, rfl, bif_i (fun _ => ?_) (fun h => by simp at h)⟩
    refine (w_Tied (e := 0) hs.a (by omega)).mono ?_
    rintro e w23 ⟨rfl, rfl⟩
    exact ⟨_, rfl, rfl, hs.c⟩
end
end Web
end Go.Proofs.YtaoemljoiahapaaGreatDoor
/-
A law's web: made, and grown by some acts.
Conditions: those that each theorem states.
-/
namespace Go.Proofs.YtaoemljoiahapaaGreatDoor
open Go Go.RowKit
set_option linter.unusedVariables false
set_option linter.unusedSimpArgs false
/-- An act's record. -/
theorem CA.ix {w : World} {b : Option Addr} {l sz i : Nat} {f : Nat → Nat → Int} (h : CA w b l sz f) (hi : i < l) {K : Addr → Prop} (kk : ∀ a, a.block < w.heap.size → (∀ k, k < sz → w.cell? (a.add k) = some (.int .i64 (f i k))) → K a) : ixS b l (i : Int) sz K := by
  rcases h with h0 | ⟨a, rfl, ha, hc⟩
  · omega
  · refine ⟨a, rfl, by omega, by omega, kk _ ?_ ?_⟩
    · rw [add_block]; exact ha
    · intro k hk
      have : (i : Int).toNat = i := by omega
      rw [this]; exact hc i k hi hk
namespace Web
open Go.Proofs.YtaoemljoiahapaaGreatDoor.Seq Go.Proofs.YtaoemljoiahapaaGreatDoor.Cut
section
variable {lc : Nat → Prop} {w₀ w w' : World} {W R F L CF CL EB n t x y e : Nat} {k i j fl fc tl tc : Nat} {fb tb : Option Addr}
theorem REL.start : REL (fun _ => none) (fun _ => 0) [] := ⟨fun t h => (by cases h), fun e a b h => (by cases h), by simp⟩
theorem ST.weak {lc' : Nat → Prop} (h : ST lc w₀ w W R F L CF CL EB n t fb fl tb tl tc) (hl : ∀ k, lc' k → lc k) : ST lc' w₀ w W R F L CF CL EB n t fb fl tb tl tc := by
  obtain ⟨X, D, key, T, h1, h2⟩ := h
  exact ⟨X, D, key, T, h1, h2.weak fun k hk => hk.imp id (hl k)⟩
theorem ST.grow {lc' : Nat → Prop} (h : ST lc w₀ w W R F L CF CL EB n t fb fl tb tl tc) (hl : ∀ k, lc' k → lc k ∨ w.heap.size ≤ k) : ST lc' w₀ w W R F L CF CL EB n t fb fl tb tl tc := by
  obtain ⟨X, D, key, T, h1, h2⟩ := h
  refine ⟨X, D, key, T, h1, h2.grow h1.a.sz.2.2 fun k hk hb => ?_⟩
  rcases hb with hb | hb
  · exact .inl hb
  · rcases hl k hb with h | h
    · exact .inr h
    · omega
/-- Both webs, made. -/
theorem st_new (hL : LW w₀ w W R F L CF CL EB n t (ones n) (fun _ => none) (fun _ => 0)) (hf : RF w (bd L CL EB lc) fb fl (ones n)) (ht : t ≤ 1048576) : ST lc w₀ w W R F L CF CL EB n t fb fl none 0 0 :=
  ⟨_, _, _, [], hL, hf, TT.nil, Nat.le_refl _, FX.of_wb hL.a, REL.start, fun e a b h => (by cases h), ht⟩
/-- What the acts have made of the two. -/
theorem c_grown14 {m : Nat} {sb : Option Addr} {sl sc : Nat} {f : Nat → Nat → Int} (hg : LaidG w) (h0 : 1 ≤ m) (hm : m ≤ 100000) (hf : CA w sb sl 5 f) (hfw : ∀ i, i < sl → -9223372036854775808 ≤ f i 4 ∧ f i 4 ≤ 9223372036854775807) :
    Calls Pg fn_plaitlaw14_grown #[.int .i64 (m : Nat), .slice sb sl sc] w fun e w' => ∃ W R F L CF CL EB fb fl fc tb tl tc, e = .returned (.tuple #[.pointer (some ⟨W, 0, none⟩), .agg #[.int .i64 (m : Nat), .int .i64 8, .slice fb fl fc, .slice tb tl tc]]) ∧ ST Nobody w w' W R F L CF CL EB m 8 fb fl tb tl tc := by
  refine (calls_plaitlaw14_grown _ _ _ _ _ (fun v' w' => ∃ W R F L CF CL EB fb fl fc tb tl tc, v' = .tuple #[.pointer (some ⟨W, 0, none⟩), .agg #[.int .i64 (m : Nat), .int .i64 8, .slice fb fl fc, .slice tb tl tc]] ∧ ST Nobody w w' W R F L CF CL EB m 8 fb fl tb tl tc) ?_).mono
    (by rintro e w' ⟨v, rfl, p1, p2, p3, p4, p5, p6, p7, p8, p9, p10, p11, p12, p13, rfl, k⟩; exact ⟨p1, p2, p3, p4, p5, p6, p7, p8, p9, p10, p11, p12, p13, rfl, k⟩)
  unfold sh_plaitlaw14_grown
  refine alo1 fun A w3 hA hc3 rA => ?_
  refine (w_New (n := m) (t := 8) h0 (by omega) (by omega) (by omega)).mono ?_
  rintro e w6 ⟨W, R, F, L, CF, CL, EB, rfl, hc, hb, hw⟩
  have s3 := hc3.size
  have hAl := rA.lt
  have hL : LW w w6 W R F L CF CL EB m 8 (ones m) (fun _ => none) (fun _ => 0) := ⟨hc3.trans hc, by omega, hw⟩
  have rA := hc.row (fun h => h) rA
  refine ⟨_, _, rfl, ?_⟩
  have hwb := wbad_ge hL.a
  have rAl := rA.lt
  refine (c_New14 (n := m) (m := 8) (bad := bd L CL EB (· = A)) (by omega) (fun k hk hb => hb.elim (hwb k hk) (fun e => by omega))).mono ?_
  rintro e w12 ⟨fb, fc, rfl, hfr, hc12⟩
  replace hL := hL.nob hc12
  have rA := hc12.row (fun h => h) rA
  have s12 := hc12.size
  refine ⟨_, _, _, _, _, _, _, _, rfl, ?_⟩
  refine alo1 fun B w15 hB hc15 rB => st4 rB rfl rfl rfl rfl rfl fun w19 hc19 rB => ?_
  have hBw : w.heap.size ≤ B := Nat.le_trans (hL.c.size) hB
  have hc1519 : Chg Nobody w12 w19 := hc15.trans' hc19 (fun i e => .inr (by omega))
  have hAB : A ≠ B := by have := rA.lt; omega
  have rA := hc1519.row (fun h => h) rA
  have hlts := hL.a.lts
  have hfr2 : RF w12 (bd L CL EB fun k => k = A ∨ k = B) fb m (ones m) := RF.grow hfr (FX.of_wb hL.a).ne (by omega) (fun k hk hb => by
    rcases hb with hb | rfl | rfl
    · exact .inl hb
    · exact .inr rfl
    · omega)
  have hst : ST (fun k => k = A ∨ k = B) w w19 W R F L CF CL EB m 8 fb m none 0 0 := st_new (hL.nob hc1519) (hfr2.nob hc1519) (by omega)
  have hBl := rB.lt
  have hAl2 := rA.lt
  have hne : ∀ k, wbad L CL EB k → k ≠ A ∧ k ≠ B := by
    rintro k (h | h | h) <;> omega
  have hlc : ∀ k, (k = A ∨ k = B) → w.heap.size ≤ k ∧ k ≠ W ∧ k ≠ R ∧ k ≠ F ∧ k ≠ L ∧ k ≠ CF ∧ k ≠ CL ∧ k ≠ EB := by
    rintro k (h | h) <;> omega
  have hsz19 : ∀ k, (k = A ∨ k = B) → k < w19.heap.size := by
    rintro k (h | h) <;> omega
  clear hL hfr hfr2 hc19 hc15 hc1519
  refine ⟨fun _ w' => w' = w19, err_i (fun e => absurd rfl e) (fun _ => bif_i (fun h => by cases h) (fun _ => rfl)), ?_⟩
  rintro _ w45 rfl
  let J : Nat → List Value → World → Prop := fun j vs w' => ∃ (i : Nat) (fb : Option Addr) (fl fc : Nat) (tb : Option Addr) (tl tc : Nat), vs = [.int .i64 i] ∧ i ≤ 50 ∧ ST (fun k => k = A ∨ k = B) w w' W R F L CF CL EB m 8 fb fl tb tl tc ∧ Row w'.heap B T_plaitref14_Web [.int .i64 (m : Int), .int .i64 8, .slice fb fl fc, .slice tb tl tc] ∧
    Row w'.heap A T_plaitref14_Web [.int .i64 0, .int .i64 0, .slice none 0 0, .slice none 0 0] ∧ j = 50 - i
  refine ⟨LI J, LM J, ⟨_, 0, fb, m, fc, none, 0, 0, rfl, by omega, hst, rB, rA, rfl⟩, ?_⟩
  clear hst rA rB
  intro _ i w49 hJ
  obtain ⟨i, fb, fl, fc, tb, tl, tc, hvs, hi, hst, rB, rA, hj⟩ := hJ.at
  simp only [List.cons.injEq, Value.int.injEq, and_true, true_and] at hvs
  subst hvs
  have rBd : Row (World.drew w49).heap B T_plaitref14_Web [.int .i64 (m : Int), .int .i64 8, .slice fb fl fc, .slice tb tl tc] := rB
  have rAd : Row (World.drew w49).heap A T_plaitref14_Web [.int .i64 0, .int .i64 0, .slice none 0 0, .slice none 0 0] := rA
  have hsd := hst.nob ((Chg.refl _ _).drew)
  have stop : ∀ w', Chg (· = A) (World.drew w49) w' → ∃ W' R' F' L' CF' CL' EB' fb' fl' fc' tb' tl' tc', Value.tuple #[.pointer (some ⟨W, 0, none⟩), .agg #[.int .i64 (m : Int), .int .i64 8, .slice fb fl fc, .slice tb tl tc]] = .tuple #[.pointer (some ⟨W', 0, none⟩), .agg #[.int .i64 (m : Int), .int .i64 8, .slice fb' fl' fc', .slice tb' tl' tc']] ∧ ST Nobody w w' W' R' F' L' CF' CL' EB' m 8 fb' fl' tb' tl' tc' := by
    intro w' hc'
    exact ⟨W, R, F, L, CF, CL, EB, fb, fl, fc, tb, tl, tc, rfl, (hsd.put (hc'.mono fun k _ e => .inl e) hlc).weak fun k h => h.elim⟩
  refine bif_i (fun h1 => bif_i (fun h2 => ?_) (fun h2 => cpR rBd rAd rfl stop)) (fun h1 => cpR rBd rAd rfl stop)
  simp only [b1s] at h1 h2
  refine ld4 rBd ?_
  refine ((hf.nob hst.c).drew).ix (by omega) fun a ha hcell => ?_
  refine ⟨_, hcell 0 (by omega), ⟨_, hcell 1 (by omega), ⟨_, hcell 2 (by omega), ⟨_, hcell 3 (by omega), ⟨_, hcell 4 (by omega), ?_⟩⟩⟩⟩⟩
  have hsz49 : ∀ k, (k = A ∨ k = B) → k < (World.drew w49).heap.size := by
    have h1 := rAd.lt
    have h2 := rBd.lt
    rintro k (h | h) <;> omega
  refine (c_do (fc := fc) hg hsd hsz49 (hfw i (by omega))).mono ?_
  rintro e w65 ⟨fb', fl', fc', tb', tl', tc', rfl, hst', hcd⟩
  have rB' := hcd.row (fun h => (hne B h).2 rfl) rBd
  have rA' := hcd.row (fun h => (hne A h).1 rfl) rAd
  refine ⟨_, _, _, _, _, _, _, _, _, rfl, st4 rB' rfl rfl rfl rfl rfl fun w70 hc70 rB'' => ?_⟩
  rw [wrap64_in (by omega) (by omega)]
  exact LI.again (k := 50 - (i + 1)) ⟨i + 1, fb', fl', fc', tb', tl', tc', rfl, by omega, hst'.put (hc70.mono fun k _ e => .inr e) hlc, rB'', hc70.row (fun e => hAB e) rA', rfl⟩ (by rw [hj]; omega)
theorem sure_fin {w w' : World} (hg : LaidG w) (hc : Chg Nobody w w') : Calls Pg fn_plaitlaw14_sure #[] w' fun e w'' => ∃ b : Bool, e = .returned (.bool b) ∧ (Value.bool b = .bool true ∧ Chg Nobody w w'') :=
  (c_sure14 (hg.chg hc (fun h => h))).mono fun e w'' ⟨he, hc'⟩ => ⟨true, he, rfl, hc.trans hc'⟩
end
end Web
end Go.Proofs.YtaoemljoiahapaaGreatDoor
