/-
The law SeqRuns' own helper: all that is told of an item's sequence.
Conditions: those that each theorem states.
-/
import Derived.Test.YtledchlbmilneaaDoorGRef
namespace Go.Proofs.YtledchlbmilneaaDoor
open Go Go.RowKit
set_option linter.unusedVariables false
set_option linter.unusedSimpArgs false
namespace Seq
theorem len_flat {X : List (List Nat)} (h : ∀ A ∈ X, A ≠ []) : X.length ≤ X.flatten.length := by
  induction X with
  | nil => simp
  | cons A X ih =>
    have h1 := List.length_pos_iff.2 (h A (by simp))
    have h2 := ih (fun B hB => h B (by simp [hB]))
    simp only [List.length_cons, List.flatten_cons, List.length_append]
    omega
theorem mem_len {X : List (List Nat)} {A : List Nat} (h : A ∈ X) : A.length ≤ X.flatten.length := by
  induction X with
  | nil => cases h
  | cons B X ih =>
    simp only [List.flatten_cons, List.length_append]
    rcases List.mem_cons.1 h with rfl | h
    · omega
    · have := ih h; omega
structure Small (m : Nat) (X : List (List Nat)) : Prop where
  nd : X.flatten.Nodup
  lt : ∀ A ∈ X, ∀ x ∈ A, x < m
  ne : ∀ A ∈ X, A ≠ []
  len : X.length ≤ m
  each : ∀ A ∈ X, A.length ≤ m
  all : ∀ x, x < m → ∃ A ∈ X, x ∈ A
  m : m ≤ 8388608
theorem LS.small {w₀ w : World} {F L n : Nat} {v : Nat → Int} {X : List (List Nat)} (h : LS w₀ w F L n v X) : Small n X := by
  obtain ⟨h1, h2, h3, _, h5, h6⟩ := h.a.nodup
  have hl : X.flatten.length ≤ n := nodup_len h1 (fun y hy => by obtain ⟨A, hA, hy⟩ := List.mem_flatten.1 hy; exact h2 A hA y hy)
  exact ⟨h1, h2, h3, Nat.le_trans (len_flat h3) hl, fun A hA => Nat.le_trans (mem_len hA) hl, h6, h5⟩
theorem perm_idx {X : List (List Nat)} {A : List Nat} {i : Nat} (h : X[i]? = some A) : ∃ Y, X.Perm (A :: Y) := ⟨_, List.perm_cons_erase (List.mem_of_getElem? h)⟩
theorem c_told {w₀ w : World} {F L m l c vc x : Nat} {v : Nat → Int} {X : List (List Nat)} {bad : Nat → Prop} {b vb : Option Addr} {k : Int} (hg : LaidG w₀) (hs : LS w₀ w F L m v X) (h : RF w bad b l X) (hbL : bad L)
    (hv : IA w vb m (vals m v)) (hvb : ∀ g, bk vb = some g → g ≠ L) (hx : x < m) (hk : -9223372036854775808 ≤ k ∧ k ≤ 9223372036854775807) :
    Calls Pg fn_plaitlaw04_told #[.pointer (some ⟨F, 0, none⟩), .slice b l c, .slice vb m vc, .int .i64 x, .int .i64 k] w fun e w' => e = .returned (.bool true) ∧ LS w₀ w' F L m v X ∧ Chg (· = L) w w' := by
  refine (calls_plaitlaw04_told _ _ _ _ _ _ _ _ _ _ (fun v' w' => v' = .bool true ∧ LS w₀ w' F L m v X ∧ Chg (· = L) w w') ?_).mono (by rintro e w' ⟨v, rfl, rfl, k⟩; exact ⟨rfl, k⟩)
  unfold sh_plaitlaw04_told
  have hS := hs.small
  have hm := hS.m
  have hl : l ≤ m := by rw [← h.1]; exact hS.len
  obtain ⟨A, hAX, hxA⟩ := hS.all x hx
  obtain ⟨i, hA⟩ := List.getElem?_of_mem hAX
  obtain ⟨k0, hx0⟩ := List.getElem?_of_mem hxA
  have hAm := hS.each A hAX
  have hk0 : k0 < A.length := (List.getElem?_eq_some_iff.1 hx0).1
  obtain ⟨Y, hp⟩ := perm_idx hA
  refine (c_rFind h hS.nd hA hx0 (by omega) (fun B hB => by have := hS.each B hB; omega)).mono ?_
  rintro e w7 ⟨rfl, hc⟩
  refine ⟨_, _, rfl, ?_⟩
  replace h := h.nob hc
  replace hv := hv.nob hc
  replace hs := (hs.nob hc).perm hp
  have hch : Chg (· = L) w w7 := hc.weak
  clear hc
  refine h.rd hA fun eb ec hia hok hle => ?_
  have hsplit : A = A.take k0 ++ x :: A.drop (k0 + 1) := by
    conv => lhs; rw [← List.take_append_drop k0 A]
    congr 1
    rw [List.drop_eq_getElem_cons hk0]
    congr 1
    exact (List.getElem?_eq_some_iff.1 hx0).2
  have kia : ∀ {w' w'' : World} {q}, IA w' eb A.length (ints A) → AS w' w'' F L m v q → IA w'' eb A.length (ints A) := fun h k => h.keep k.chg (fun g hg (e : g = L) => hok g hg (e ▸ hbL))
  have kv : ∀ {w' w'' : World} {q}, IA w' vb m (vals m v) → AS w' w'' F L m v q → IA w'' vb m (vals m v) := fun h k => h.keep k.chg (fun g hg (e : g = L) => hvb g hg e)
  have hrank := c_Rank (w := w7) (F := F) (L := L) (n := m) (v := v) (x := x) (pre := A.take k0) (post := A.drop (k0 + 1)) (q := Y) (by rw [← hsplit]; exact hs.a)
  rw [← hsplit] at hrank
  refine hrank.mono ?_
  rintro e w13 ⟨rfl, has⟩
  replace hs := hs.step has
  replace hch := hch.trans has.chg
  replace hia := kia hia has
  replace hv := kv hv has
  refine ⟨_, _, rfl, ?_⟩
  refine (c_Size hs.a hxA).mono ?_
  rintro e w17 ⟨rfl, has⟩
  replace hs := hs.step has
  replace hch := hch.trans has.chg
  replace hia := kia hia has
  replace hv := kv hv has
  refine ⟨_, _, rfl, ?_⟩
  refine (c_Sum hs.a hxA).mono ?_
  rintro e w21 ⟨rfl, has⟩
  replace hs := hs.step has
  replace hch := hch.trans has.chg
  replace hia := kia hia has
  replace hv := kv hv has
  refine ⟨_, _, rfl, ?_⟩
  refine (c_Least hs.a hxA).mono ?_
  rintro e w25 ⟨⟨z1, hz1, rfl⟩, has⟩
  replace hs := hs.step has
  replace hch := hch.trans has.chg
  replace hia := kia hia has
  replace hv := kv hv has
  refine ⟨_, _, rfl, ?_⟩
  refine (c_Most hs.a hxA).mono ?_
  rintro e w29 ⟨⟨z2, hz2, rfl⟩, has⟩
  replace hs := hs.step has
  replace hch := hch.trans has.chg
  replace hia := kia hia has
  replace hv := kv hv has
  refine ⟨_, _, rfl, ?_⟩
  refine (c_At hs.a hxA hk).mono ?_
  rintro e w33 ⟨⟨z3, hz3⟩, has⟩
  replace hs := hs.step has
  replace hch := hch.trans has.chg
  replace hia := kia hia has
  replace hv := kv hv has
  -- what is told of a place, whatever it is
  obtain ⟨y, c3, hat, hat2⟩ : ∃ (y : Int) (c3 : Int), e = .returned (.tuple #[.int .i64 y, errV c3]) ∧ ((0 ≤ k ∧ k < A.length ∧ A[k.toNat]? = some z3 ∧ y = z3 ∧ c3 = 0) ∨ (¬ (0 ≤ k ∧ k < A.length) ∧ y = 0 ∧ c3 = 1)) := by
    rcases hz3 with ⟨h1, h2, rfl⟩ | ⟨h1, rfl⟩
    · have := (List.getElem?_eq_some_iff.1 h2).1
      exact ⟨_, _, rfl, .inl ⟨h1, by omega, h2, rfl, rfl⟩⟩
    · exact ⟨_, _, rfl, .inr ⟨h1, rfl, rfl⟩⟩
  subst hat
  refine ⟨_, _, rfl, ?_⟩
  refine (op_List2 hs hxA).mono ?_
  rintro e w37 ⟨lb, lc, rfl, hli, hlB, hs, has⟩
  replace hch := hch.trans has.chg
  replace hia := kia hia has
  replace hv := kv hv has
  refine ⟨_, _, _, _, rfl, ?_⟩
  refine err_i (fun e => absurd rfl e) (fun _ => err_i (fun e => absurd rfl e) (fun _ => err_i (fun e => absurd rfl e) (fun _ => err_i (fun e => absurd rfl e) (fun _ => err_i (fun e => absurd rfl e) (fun _ => err_i (fun e => absurd rfl e) (fun _ => ?_))))))
  refine bif_i (fun h => ?_) (fun _ => bif_i (fun h => ?_) (fun _ => ?_))
  · simp only [b1s] at h
    exact absurd (by rw [List.length_take]; omega) h
  · simp only [b1s] at h; exact absurd trivial h
  have hlt := hS.lt A hAX
  have fin : ∀ {w' : World}, Chg Nobody w37 w' → LS w₀ w' F L m v X ∧ Chg (· = L) w w' := fun hc => ⟨(hs.nob hc).perm hp.symm, hch.trans hc.weak⟩
  refine (c_rSum hia hv hlt (by omega)).mono ?_
  rintro e w40 ⟨rfl, hc1⟩
  refine ⟨_, rfl, bif_i (fun h => ?_) (fun _ => ?_)⟩
  · simp only [b1s] at h; exact absurd trivial h
  refine (c_rLeast (hia.nob hc1) (hv.nob hc1) hlt (by omega) (by omega)).mono ?_
  rintro e w43 ⟨⟨u1, hu1, rfl⟩, hc2⟩
  obtain rfl := hz1.uniq hu1
  replace hc2 := hc1.trans hc2
  refine ⟨_, rfl, bif_i (fun h => ?_) (fun _ => ?_)⟩
  · simp only [b1s] at h; exact absurd trivial h
  refine (c_rMost (hia.nob hc2) (hv.nob hc2) hlt (by omega) (by omega)).mono ?_
  rintro e w46 ⟨⟨u2, hu2, rfl⟩, hc3⟩
  obtain rfl := hz2.uniq hu2
  replace hc3 := hc2.trans hc3
  refine ⟨_, rfl, bif_i (fun h => ?_) (fun _ => ?_)⟩
  · simp only [b1s] at h; exact absurd trivial h
  refine (c_ints (hli.nob hc3) (hia.nob hc3) (by omega)).mono ?_
  rintro e w49 ⟨rfl, hc4⟩
  replace hc4 := hc3.trans hc4
  refine ⟨_, rfl, ?_⟩
  rw [decide_eq_true rfl]
  refine bif_i (fun h => by cases h) (fun _ => ?_)
  have hs4 := hs.nob hc4
  refine bif_i (fun h1 => ?_) (fun h1 => ?_) <;> simp only [b1s] at h1
  · rcases hat2 with ⟨a1, _⟩ | ⟨_, rfl, rfl⟩
    · omega
    refine (c_num (hs4.g hg)).mono ?_
    rintro e w52 ⟨rfl, hc5⟩
    refine ⟨_, rfl, bif_i (fun _ => ?_) (fun h => absurd h (by decide))⟩
    exact ⟨by simp, fin (hc4.trans hc5)⟩
  refine bif_i (fun h2 => ?_) (fun h2 => ?_) <;> simp only [b1s] at h2
  · rcases hat2 with ⟨a1, a2, _⟩ | ⟨_, rfl, rfl⟩
    · omega
    refine (c_num (hs4.g hg)).mono ?_
    rintro e w52 ⟨rfl, hc5⟩
    refine ⟨_, rfl, bif_i (fun _ => ?_) (fun h => absurd h (by decide))⟩
    exact ⟨by simp, fin (hc4.trans hc5)⟩
  · rcases hat2 with ⟨a1, a2, a3, rfl, rfl⟩ | ⟨a1, _⟩
    case inr => omega
    refine ⟨errV_isI _, bif_i (fun _ => ?_) (fun h => absurd h (by decide))⟩
    have e1 : k = ((k.toNat : Nat) : Int) := by omega
    rw [e1]
    refine (hia.nob hc4).rd (x := (z3 : Int)) (by rw [List.getElem?_map, a3]; rfl) ?_
    exact ⟨by simp, fin hc4⟩
end Seq
end Go.Proofs.YtledchlbmilneaaDoor
/-
The law SeqRuns: whatever is joined, cut, turned and set, all that is told of each sequence is what lists tell.
Conditions: the package variable of errors is laid out; the acts can be read.
-/
namespace Go.Proofs.YtledchlbmilneaaDoor
open Go Go.RowKit
set_option linter.unusedVariables false
set_option linter.unusedSimpArgs false
namespace Seq
/-- What stands between two steps: the forest, the lists, the values. -/
structure RP (w₀ w : World) (F L m B : Nat) (bad : Nat → Prop) (v : Nat → Int) (X : List (List Nat)) (b : Option Addr) (l : Nat) : Prop where
  s : LS w₀ w F L m v X
  r : RF w bad b l X
  v : Row w.heap B T_int64 (nums m v)
  bL : bad L
  bB : bad B
  hbad : ∀ k, w.heap.size ≤ k → ¬ bad k
  nL : B ≠ L
  new : w₀.heap.size ≤ B
  nF : F ≠ B
section
variable {w₀ w w' : World} {F L m B : Nat} {bad bad' : Nat → Prop} {v v' : Nat → Int} {X X' : List (List Nat)} {b b' : Option Addr} {l l' c : Nat}
theorem RP.nob (h : RP w₀ w F L m B bad v X b l) (k : Chg Nobody w w') : RP w₀ w' F L m B bad v X b l :=
  ⟨h.s.nob k, h.r.nob k, k.row (fun h => h) h.v, h.bL, h.bB, fun i hi => h.hbad i (Nat.le_trans k.size hi), h.nL, h.new, h.nF⟩
/-- A call of the forest's. -/
theorem RP.as (h : RP w₀ w F L m B bad v X b l) (p : X.Perm X') (k : AS w w' F L m v X') : RP w₀ w' F L m B bad v X b l :=
  ⟨(h.s.step k).perm p.symm, h.r.keep k.chg (fun i e => by rw [e]; exact h.bL), k.chg.row h.nL h.v, h.bL, h.bB, fun i hi => h.hbad i (Nat.le_trans k.chg.size hi), h.nL, h.new, h.nF⟩
theorem RF.rebad (h : RF w bad b l X) (hne : ∀ A ∈ X, A ≠ []) (hl : 0 < l) (hb : ∀ k, bad' k → bad k ∨ w.heap.size ≤ k) : RF w bad' b l X := by
  obtain ⟨h1, h2, h3⟩ := h
  rcases h3 with h3 | ⟨g, o, e, cs, rfl, hr, hc⟩
  · omega
  · refine ⟨h1, fun k hk hb' => ?_, .inr ⟨g, o, e, cs, rfl, hr, fun i A hA => ?_⟩⟩
    · cases hk
      rcases hb g hb' with h | h
      · exact h2 g rfl h
      · have := hr.lt; omega
    · obtain ⟨eb, ec, h4, h5, h6, h7⟩ := hc i A hA
      refine ⟨eb, ec, h4, h5, fun k hk hb' => ?_, h7⟩
      obtain ⟨g', hg', hlt⟩ := h5.blk (List.length_pos_iff.2 (hne A (List.mem_of_getElem? hA)))
      rw [hk] at hg'; cases hg'
      rcases hb k hb' with h | h
      · exact h6 k hk h
      · omega
theorem split_at {A : List Nat} {k x : Nat} (h : A[k]? = some x) : A = A.take k ++ x :: A.drop (k + 1) ∧ A.drop k = x :: A.drop (k + 1) := by
  have hk := (List.getElem?_eq_some_iff.1 h)
  have e : A.drop k = x :: A.drop (k + 1) := by rw [List.drop_eq_getElem_cons hk.1, hk.2]
  exact ⟨by rw [← e, List.take_append_drop], e⟩
theorem ia_nums (h : Row w.heap B T_int64 (nums m v)) : IA w (some ⟨B, 0, none⟩) m (vals m v) := by
  have : nums m v = (vals m v).map (Value.int .i64) := by simp [nums, vals]
  have k := IA.of_row (A := vals m v) (g := B) (e := T_int64) (w := w) (by rw [← this]; exact h)
  simpa [vals] using k
end
theorem Small.at {m : Nat} {X : List (List Nat)} (h : Small m X) {x : Nat} (hx : x < m) : ∃ (i : Nat) (A : List Nat) (k : Nat), X[i]? = some A ∧ A[k]? = some x := by
  obtain ⟨A, hA, hxA⟩ := h.all x hx
  obtain ⟨i, hi⟩ := List.getElem?_of_mem hA
  obtain ⟨k, hk⟩ := List.getElem?_of_mem hxA
  exact ⟨i, A, k, hi, hk⟩
theorem c_SeqRuns {w : World} {n : Int} {sb : Option Addr} {sl sc : Nat} {f : Nat → Nat → Int} (hg : LaidG w) (hf : CA w sb sl 4 f) (hfw : ∀ i, i < sl → -9223372036854775808 ≤ f i 3 ∧ f i 3 ≤ 9223372036854775807) :
    Calls Pg fn_plaitlaw04_SeqRuns #[.int .i64 n, .slice sb sl sc] w fun e w' => e = .returned (.bool true) ∧ Chg Nobody w w' := by
  refine (calls_plaitlaw04_SeqRuns _ _ _ _ _ (fun v' w' => v' = .bool true ∧ Chg Nobody w w') ?_).mono (by rintro e w' ⟨v, rfl, rfl, k⟩; exact ⟨rfl, k⟩)
  unfold sh_plaitlaw04_SeqRuns
  refine ⟨by decide, ?_⟩
  obtain ⟨m, hm0, hm1, he⟩ := size_ex n 1 24 (by omega) (by omega) (by omega)
  rw [he]
  refine (c_New (n := m) (by omega) (by omega)).mono ?_
  rintro e w4 ⟨F, L, rfl, hc, hF, hL, ha⟩
  have hs : LS w w4 F L m (fun _ => 0) (ones m) := ⟨hc, hF, hL, ha⟩
  refine ⟨_, _, rfl, fun _ w' => w' = w4, err_i (fun e => absurd rfl e) (fun _ => bif_i (fun h => by cases h) (fun _ => rfl)), ?_⟩
  rintro _ w7 rfl
  have hlt4 := hs.a.lt
  refine (c_rNew (bad := fun k => k = L) (m := m) (by omega) (fun k hk e => by omega)).mono ?_
  rintro e w9 ⟨b0, c0, rfl, hrf, hc9⟩
  replace hs := hs.nob hc9
  have hsz9 := hc9.size
  refine ⟨_, _, _, rfl, by omega, by omega, by omega, ?_⟩
  rw [show Int.toNat (m : Int) = m by omega]
  refine alo_r fun hrow => ?_
  rw [zerosOf_recs] at hrow
  have hS0 := hs.small
  have hrp : RP w (w9.alloc (.cells (zerosOf #[.int .i64 0] m) T_int64)) F L m w9.heap.size (fun k => k = L ∨ k = w9.heap.size) (fun _ => 0) (ones m) b0 m := by
    have hca : Chg Nobody w9 (w9.alloc (.cells (zerosOf #[.int .i64 0] m) T_int64)) := (Chg.refl _ _).alloc _
    have hszA : (w9.alloc (.cells (zerosOf #[.int .i64 0] m) T_int64)).heap.size = w9.heap.size + 1 := by show (w9.heap.push _).size = _; simp
    refine ⟨hs.nob hca, (hrf.rebad (bad' := fun k => k = L ∨ k = w9.heap.size) hS0.ne (by omega) (fun k hk => hk.imp id (fun e => by omega))).nob hca, ?_, .inl rfl, .inr rfl, fun k hk => ?_, by omega, ?_, by omega⟩
    · have : recs (fun _ => [Value.int .i64 0]) m = nums m (fun _ => 0) := by
        unfold nums recs
        induction List.range m with
        | nil => rfl
        | cons a l ih => rw [List.flatMap_cons, List.map_cons, ih]; rfl
      rw [← this]; exact hrow
    · rw [hszA] at hk; omega
    · have := hs.c.size; omega
  clear hrow hrf hs hc ha hc9
  generalize w9.heap.size = B at *
  generalize w9.alloc (.cells (zerosOf #[.int .i64 0] m) T_int64) = w12 at *
  let J : Nat → List Value → World → Prop := fun j vs w' => ∃ (i : Nat) (v : Nat → Int) (X : List (List Nat)) (b : Option Addr) (l c : Nat), vs = [.slice b l c, .int .i64 i] ∧ i ≤ 80 ∧ RP w w' F L m B (fun k => k = L ∨ k = B) v X b l ∧ j = 80 - i
  refine ⟨LI J, LM J, ⟨_, 0, _, _, _, _, _, rfl, by omega, hrp, rfl⟩, ?_⟩
  clear hrp hS0
  intro _ s15b s15l s15c n16 w17 hJ
  obtain ⟨i, v, X, b, l, c, hvs, hi, hrp, hj⟩ := hJ.at
  simp only [List.cons.injEq, Value.slice.injEq, Value.int.injEq, and_true, true_and] at hvs
  obtain ⟨⟨rfl, rfl, rfl⟩, rfl⟩ := hvs
  refine ⟨fun _ w' => w' = w17 ∧ i < sl ∧ i < 80, ?_, ?_⟩
  · have fin : Calls Pg fn_plaitlaw04_sure #[] w17 fun e w20 => ∃ b233_19 : Bool, e = .returned (.bool b233_19) ∧ ((Value.bool b233_19) = .bool true ∧ Chg Nobody w w20) := by
      refine (c_sure (hrp.s.g hg)).mono ?_
      rintro e w20 ⟨rfl, hc⟩
      exact ⟨_, rfl, rfl, hrp.s.c.trans hc⟩
    refine bif_i (fun h1 => bif_i (fun h2 => ?_) (fun _ => fin)) (fun _ => fin)
    simp only [b1s] at h1 h2
    exact ⟨rfl, by omega, by omega⟩
  rintro _ w25 ⟨rfl, hil, hi80⟩
  have hf25 := hf.nob hrp.s.c
  have hrd : ∀ (K : Int → Int → Int → Int → Prop), K (f i 0) (f i 1) (f i 2) (f i 3) → ixS sb sl (i : Int) 4 fun a59_26 => ldI .i64 a59_26 w25 fun n60_27 => ldI .i64 (a59_26.add 1) w25 fun n60_28 => ldI .i64 (a59_26.add 2) w25 fun n60_29 => ldI .i64 (a59_26.add 3) w25 fun n60_30 => K n60_27 n60_28 n60_29 n60_30 := by
    intro K hK
    rcases hf25 with h0 | ⟨a, rfl, ha, hc⟩
    · omega
    · have ei : (i : Int).toNat = i := by omega
      refine ⟨a, rfl, by omega, by omega, f i 0, ?_, f i 1, ?_, f i 2, ?_, f i 3, ?_, hK⟩
      · rw [ei]; exact hc i 0 hil (by omega)
      · rw [ei]; exact hc i 1 hil (by omega)
      · rw [ei]; exact hc i 2 hil (by omega)
      · rw [ei]; exact hc i 3 hil (by omega)
  refine hrd _ ?_
  clear hrd
  have hV := hfw i hil
  generalize f i 0 = k0 at *
  generalize f i 1 = av at *
  generalize f i 2 = bv at *
  generalize f i 3 = vv at *
  have hLt := hrp.s.a.lt
  have hBt := hrp.v.lt
  have hwt := hrp.s.c.size
  refine alo_r fun hr0 => ?_
  have hc0 : Chg Nobody w25 (w25.alloc (.cells #[.int .i64 0, .int .i64 0, .int .i64 0, .int .i64 0] T_plaitlaw04_Act)) := (Chg.refl _ _).alloc _
  refine sto_r hr0 (by simp) rfl fun hr1 => ?_
  have hc1 := hc0.setCell ⟨w25.heap.size, 0, none⟩ (.int .i64 k0) (.inr (Nat.le_refl _))
  rw [show (Addr.mk w25.heap.size 0 none).add 1 = Addr.mk w25.heap.size 1 none from rfl, show (Addr.mk w25.heap.size 0 none).add 2 = Addr.mk w25.heap.size 2 none from rfl, show (Addr.mk w25.heap.size 0 none).add 3 = Addr.mk w25.heap.size 3 none from rfl]
  refine sto_r hr1 (by simp) rfl fun hr2 => ?_
  have hc2 := hc1.setCell ⟨w25.heap.size, 1, none⟩ (.int .i64 av) (.inr (Nat.le_refl _))
  refine sto_r hr2 (by simp) rfl fun hr3 => ?_
  have hc3 := hc2.setCell ⟨w25.heap.size, 2, none⟩ (.int .i64 bv) (.inr (Nat.le_refl _))
  refine sto_r hr3 (by simp) rfl fun hr4 => ?_
  have hc4 := hc3.setCell ⟨w25.heap.size, 3, none⟩ (.int .i64 vv) (.inr (Nat.le_refl _))
  replace hrp := hrp.nob hc4
  have hr : Row (World.setCell (World.setCell (World.setCell (World.setCell (w25.alloc (.cells #[.int .i64 0, .int .i64 0, .int .i64 0, .int .i64 0] T_plaitlaw04_Act)) ⟨w25.heap.size, 0, none⟩ (.int .i64 k0)) ⟨w25.heap.size, 1, none⟩ (.int .i64 av)) ⟨w25.heap.size, 2, none⟩ (.int .i64 bv)) ⟨w25.heap.size, 3, none⟩ (.int .i64 vv)).heap w25.heap.size T_plaitlaw04_Act [.int .i64 k0, .int .i64 av, .int .i64 bv, .int .i64 vv] := hr4
  clear hc0 hc1 hc2 hc3 hc4 hr0 hr1 hr2 hr3 hr4
  generalize World.setCell (World.setCell (World.setCell (World.setCell (w25.alloc (.cells #[.int .i64 0, .int .i64 0, .int .i64 0, .int .i64 0] T_plaitlaw04_Act)) ⟨w25.heap.size, 0, none⟩ (.int .i64 k0)) ⟨w25.heap.size, 1, none⟩ (.int .i64 av)) ⟨w25.heap.size, 2, none⟩ (.int .i64 bv)) ⟨w25.heap.size, 3, none⟩ (.int .i64 vv) = w36 at *
  have hCL : ¬ w25.heap.size = L := by omega
  have hCB : ¬ w25.heap.size = B := by omega
  generalize hCe : w25.heap.size = C at *
  have again : ∀ (w' : World) (v' : Nat → Int) (X' : List (List Nat)) (b' : Option Addr) (l' c' : Nat), RP w w' F L m B (fun k => k = L ∨ k = B) v' X' b' l' →
      LI J [.slice b' l' c', .int .i64 (IntKind.wrap .i64 ((i : Int) + 1))] w' ∧ LM J [.slice b' l' c', .int .i64 (IntKind.wrap .i64 ((i : Int) + 1))] w' < LM J [.slice s15b s15l s15c, .int .i64 (i : Int)] w25 := by
    intro w' v' X' b' l' c' h
    rw [wrap64_in (x := (i : Int) + 1) (by omega) (by omega)]
    exact LI.again (k := 80 - (i + 1)) ⟨i + 1, v', X', b', l', c', rfl, by omega, h, rfl⟩ (by rw [hj]; omega)
  let PR : World → Prop := fun w' => RP w w' F L m B (fun k => k = L ∨ k = B) v X s15b s15l ∧ Row w'.heap C T_plaitlaw04_Act [.int .i64 k0, .int .i64 av, .int .i64 bv, .int .i64 vv]
  refine ⟨fun _ w' => ((0 ≤ av ∧ av < m) ∧ (0 ≤ bv ∧ bv < m)) ∧ PR w', ?_, ?_⟩
  · refine ⟨fun vs w' => ∃ t, vs = [.bool t] ∧ (t = true ↔ ¬ ((0 ≤ av ∧ av < m) ∧ (0 ≤ bv ∧ bv < m))) ∧ PR w', ?_, ?_⟩
    · refine ldI_r hr rfl ?_
      refine bif_i (fun h => ?_) (fun h => ?_) <;> simp only [b1s] at h
      · exact ⟨true, rfl, by simp; omega, hrp, hr⟩
      refine ldI_r hr rfl ?_
      refine bif_i (fun h2 => ?_) (fun h2 => ?_) <;> simp only [b1s] at h2
      · exact ⟨true, rfl, by simp; omega, hrp, hr⟩
      refine ldI_r hr rfl ?_
      refine bif_i (fun h3 => ?_) (fun h3 => ?_) <;> simp only [b1s] at h3
      · exact ⟨true, rfl, by simp; omega, hrp, hr⟩
      refine ldI_r hr rfl ?_
      exact ⟨_, rfl, by simp; omega, hrp, hr⟩
    · clear hrp hr
      rintro _ b43 w44 ⟨t, ht, hin, hrp, hr⟩
      simp only [List.cons.injEq, Value.bool.injEq, and_true] at ht
      subst ht
      refine bif_i (fun h => ?_) (fun h => ⟨?_, hrp, hr⟩)
      · have hbad := hin.1 h
        refine ldI_r hr rfl (ldI_r hr rfl ?_)
        refine (c_Same_bad hrp.s.a hbad).mono ?_
        rintro e w49 ⟨rfl, has⟩
        replace hr := has.chg.row hCL hr
        replace hrp := hrp.as (List.Perm.refl _) has
        refine ⟨_, _, rfl, ldI_r hr rfl (ldI_r hr rfl ?_)⟩
        refine (c_Join_bad hrp.s.a hbad).mono ?_
        rintro e w54 ⟨rfl, has⟩
        replace hr := has.chg.row hCL hr
        replace hrp := hrp.as (List.Perm.refl _) has
        refine ⟨_, rfl, (c_num (hrp.s.g hg)).mono ?_⟩
        rintro e w57 ⟨rfl, hc⟩
        replace hrp := hrp.nob hc
        refine ⟨_, rfl, bif_i (fun h => absurd h (by decide)) (fun _ => ?_)⟩
        refine (c_num (hrp.s.g hg)).mono ?_
        rintro e w60 ⟨rfl, hc⟩
        exact ⟨_, rfl, bif_i (fun h => absurd h (by decide)) (fun _ => again _ _ _ _ _ _ (hrp.nob hc))⟩
      · by_cases hi : ((0 ≤ av ∧ av < m) ∧ (0 ≤ bv ∧ bv < m))
        · exact hi
        · rw [hin.2 hi] at h; cases h
  clear hrp hr
  rintro _ w62 ⟨⟨⟨ha0, ham⟩, hb0, hbm⟩, hrp, hr⟩
  obtain ⟨x, rfl⟩ : ∃ x : Nat, av = x := ⟨av.toNat, by omega⟩
  obtain ⟨y, rfl⟩ : ∃ y : Nat, bv = y := ⟨bv.toNat, by omega⟩
  refine ⟨fun vs w' => ∃ v' X' b' l' c', vs = [.slice b' l' c'] ∧ RP w w' F L m B (fun k => k = L ∨ k = B) v' X' b' l' ∧ Row w'.heap C T_plaitlaw04_Act [.int .i64 k0, .int .i64 x, .int .i64 y, .int .i64 vv], ?_, ?_⟩
  · -- the act itself
    refine ldI_r hr rfl ⟨by decide, ?_⟩
    have hS := hrp.s.small
    have hm := hS.m
    have hlX := hrp.r.1
    have hl : s15l ≤ m := by rw [← hlX]; exact hS.len
    have hAl : ∀ A ∈ X, A.length ≤ 100000000 := fun A hA => by have := hS.each A hA; omega
    obtain ⟨ia, A, ka, hA, hxa⟩ := hS.at (x := x) (by omega)
    obtain ⟨ib, A2, kb, hA2, hyb⟩ := hS.at (x := y) (by omega)
    have hka := (List.getElem?_eq_some_iff.1 hxa).1
    have hp := wo_perm1 hA
    rw [hlX] at hp
    obtain ⟨hsp, hdr⟩ := split_at hxa
    refine ⟨fun vs w' => ∃ t, vs = [.bool t] ∧ w' = w62, bif_i (fun _ => ⟨_, rfl, rfl⟩) (fun _ => ⟨_, rfl, rfl⟩), ?_⟩
    rintro _ b66 w67 ⟨t, ht, rfl⟩
    refine bif_i (fun _ => ?_) (fun _ => ?_)
    · -- cut
      refine ldI_r hr rfl ?_
      by_cases hk0 : ka = 0
      · subst hk0
        have hA' : A = x :: A.drop 1 := by simpa using hdr
        have hcut := c_Cut_no (w := w67) (F := F) (L := L) (n := m) (v := v) (x := x) (post := A.drop 1) (q := wo X ia ia s15l) (by rw [← hA']; exact hrp.s.a.perm hp)
        rw [← hA'] at hcut
        refine hcut.mono ?_
        rintro e w71 ⟨rfl, has⟩
        replace hr := has.chg.row hCL hr
        replace hrp := hrp.as hp has
        refine ⟨_, _, rfl, ldI_r hr rfl ?_⟩
        refine (c_rCut_no (c := s15c) hrp.r hS.nd hA hxa (by omega) hAl).mono ?_
        rintro e w76 ⟨rfl, hc⟩
        refine ⟨_, _, _, _, rfl, err_i (fun e => absurd rfl e) (fun _ => bif_i (fun h => absurd h (by decide)) (fun _ => ?_))⟩
        exact ⟨_, _, _, _, _, rfl, hrp.nob hc, hc.row (fun h => h) hr⟩
      · have hpre : A.take ka ≠ [] := List.ne_nil_of_length_pos (by rw [List.length_take]; omega)
        have hcut := c_Cut_yes (w := w67) (F := F) (L := L) (n := m) (v := v) (x := x) (pre := A.take ka) (post := A.drop (ka + 1)) (q := wo X ia ia s15l) (by rw [← hsp]; exact hrp.s.a.perm hp) hpre
        refine hcut.mono ?_
        rintro e w71 ⟨rfl, has⟩
        replace hr := has.chg.row hCL hr
        have hs' := hrp.s.step has
        have hr' := hrp.r.keep has.chg (fun i e => .inl e)
        have hv' := has.chg.row hrp.nL hrp.v
        have hsz := has.chg.size
        refine ⟨_, _, rfl, ldI_r hr rfl ?_⟩
        refine (c_rCut (c := s15c) hr' hS.nd hS.ne hA hxa (by omega) (by omega) hAl (fun k hk => hrp.hbad k (by omega))).mono ?_
        rintro e w76 ⟨rb, rl, rc, rfl, hrf, hc⟩
        refine ⟨_, _, _, _, rfl, err_i (fun e => absurd rfl e) (fun _ => bif_i (fun h => absurd h (by decide)) (fun _ => ?_))⟩
        refine ⟨_, _, _, _, _, rfl, ⟨(hs'.nob hc).perm ?_, hrf, hc.row (fun h => h) hv', .inl rfl, .inr rfl, fun k hk => hrp.hbad k (by have := hc.size; omega), hrp.nL, hrp.new, hrp.nF⟩, hc.row (fun h => h) hr⟩
        rw [← hdr]
        exact List.perm_append_comm (l₁ := [A.take ka, A.drop ka])
    refine ⟨fun vs w' => ∃ t, vs = [.bool t] ∧ w' = w67, bif_i (fun _ => ⟨_, rfl, rfl⟩) (fun _ => ⟨_, rfl, rfl⟩), ?_⟩
    rintro _ b79 w80 ⟨t, ht, rfl⟩
    refine bif_i (fun _ => ?_) (fun _ => ?_)
    · -- turned round
      refine ldI_r hr rfl ?_
      refine (c_rReverse (c := s15c) hrp.r hS.nd hS.ne hA hxa (by omega) hAl hrp.hbad).mono ?_
      rintro e w83 ⟨rb, rl, rc, rfl, hrf, hc⟩
      replace hr := hc.row (fun h => h) hr
      have hs' := (hrp.s.nob hc).perm hp
      have hv' := hc.row (fun h => h) hrp.v
      have hsz := hc.size
      refine ⟨_, _, _, rfl, ldI_r hr rfl ?_⟩
      refine (c_Reverse hs'.a (List.mem_of_getElem? hxa)).mono ?_
      rintro e w87 ⟨rfl, has⟩
      refine ⟨_, rfl, err_i (fun e => absurd rfl e) (fun _ => ?_)⟩
      refine ⟨_, _, _, _, _, rfl, ⟨(hs'.step has).perm ?_, hrf.keep has.chg (fun i e => .inl e), has.chg.row hrp.nL hv', .inl rfl, .inr rfl, fun k hk => hrp.hbad k (by have := has.chg.size; omega), hrp.nL, hrp.new, hrp.nF⟩, has.chg.row hCL hr⟩
      exact List.perm_append_comm (l₁ := [A.reverse])
    refine bif_i (fun _ => ?_) (fun _ => ?_)
    · -- a value set
      refine ldI_r hr rfl (ldI_r hr rfl ?_)
      refine ixS_i (by omega) ?_
      refine sto_r hrp.v (by simp; omega) rfl fun hv' => ?_
      rw [Nat.zero_add, Nat.mul_one, nums_set] at hv'
      rw [Nat.zero_add, Nat.mul_one]
      have hcB : Chg (· = B) w80 (w80.setCell ⟨B, x, none⟩ (.int .i64 vv)) := (Chg.refl _ _).setCell _ _ (.inl rfl)
      replace hr := hcB.row hCB hr
      have hs' := (hrp.s.put hcB hrp.new hrp.nF (fun e => hrp.nL e.symm)).perm hp
      have hr' := hrp.r.keep hcB (fun i e => .inr e)
      have hsz := hcB.size
      generalize w80.setCell ⟨B, x, none⟩ (.int .i64 vv) = w92 at *
      refine ldI_r hr rfl (ldI_r hr rfl ?_)
      refine (c_Set hs'.a (List.mem_of_getElem? hxa) (z := vv) hV).mono ?_
      rintro e w96 ⟨rfl, has⟩
      refine ⟨_, rfl, err_i (fun e => absurd rfl e) (fun _ => ?_)⟩
      exact ⟨_, _, _, _, _, rfl, ⟨(hs'.step has).perm hp.symm, hr'.keep has.chg (fun i e => .inl e), has.chg.row hrp.nL hv', .inl rfl, .inr rfl, fun k hk => hrp.hbad k (by have := has.chg.size; omega), hrp.nL, hrp.new, hrp.nF⟩, has.chg.row hCL hr⟩
    · -- two joined
      refine ldI_r hr rfl (ldI_r hr rfl ?_)
      by_cases hii : ia = ib
      · subst hii
        rw [hA] at hA2; injection hA2 with hA2; subst hA2
        refine (c_rJoin_no (c := s15c) hrp.r hS.nd hA hxa hyb (by omega) hAl).mono ?_
        rintro e w102 ⟨rfl, hc⟩
        replace hrp := hrp.nob hc
        replace hr := hc.row (fun h => h) hr
        refine ⟨_, _, _, _, rfl, ldI_r hr rfl (ldI_r hr rfl ?_)⟩
        refine (c_Join_no (hrp.s.a.perm hp) (List.mem_of_getElem? hxa) (List.mem_of_getElem? hyb)).mono ?_
        rintro e w107 ⟨rfl, has⟩
        replace hr := has.chg.row hCL hr
        replace hrp := hrp.as hp has
        refine ⟨_, rfl, errV_isI _, bif_i (fun h => absurd h (by decide)) (fun _ => bif_i (fun _ => ?_) (fun h => absurd h (by decide)))⟩
        refine (c_num (hrp.s.g hg)).mono ?_
        rintro e w110 ⟨rfl, hc⟩
        refine ⟨_, rfl, bif_i (fun h => absurd h (by decide)) (fun _ => ?_)⟩
        exact ⟨_, _, _, _, _, rfl, hrp.nob hc, hc.row (fun h => h) hr⟩
      · have hp2 := wo_perm2 hA hA2 hii
        rw [hlX] at hp2
        refine (c_rJoin (c := s15c) hrp.r hS.nd hS.ne hA hxa hA2 hyb hii (by omega) hAl hrp.hbad).mono ?_
        rintro e w102 ⟨rb, rl, rc, rfl, hrf, hc⟩
        have hs' := (hrp.s.nob hc).perm hp2
        have hv' := hc.row (fun h => h) hrp.v
        have hsz := hc.size
        replace hr := hc.row (fun h => h) hr
        refine ⟨_, _, _, _, rfl, ldI_r hr rfl (ldI_r hr rfl ?_)⟩
        refine (c_Join hs'.a (List.mem_of_getElem? hxa) (List.mem_of_getElem? hyb)).mono ?_
        rintro e w107 ⟨rfl, has⟩
        refine ⟨_, rfl, errV_isI _, bif_i (fun h => absurd h (by decide)) (fun _ => bif_i (fun h => absurd h (by decide)) (fun _ => ?_))⟩
        refine ⟨_, _, _, _, _, rfl, ⟨(hs'.step has).perm ?_, hrf.keep has.chg (fun i e => .inl e), has.chg.row hrp.nL hv', .inl rfl, .inr rfl, fun k hk => hrp.hbad k (by have := has.chg.size; omega), hrp.nL, hrp.new, hrp.nF⟩, has.chg.row hCL hr⟩
        exact List.perm_append_comm (l₁ := [A ++ A2])
  -- what is told
  clear hrp hr
  rintro _ s112b s112l s112c w113 ⟨v', X', b', l', c', hvs, hrp, hr⟩
  simp only [List.cons.injEq, Value.slice.injEq, and_true] at hvs
  obtain ⟨rfl, rfl, rfl⟩ := hvs
  have hS := hrp.s.small
  have hm := hS.m
  have hlX := hrp.r.1
  have hl : s112l ≤ m := by rw [← hlX]; exact hS.len
  have hAl : ∀ A ∈ X', A.length ≤ 100000000 := fun A hA => by have := hS.each A hA; omega
  obtain ⟨ia, A, ka, hA, hxa⟩ := hS.at (x := x) (by omega)
  obtain ⟨ib, A2, kb, hA2, hyb⟩ := hS.at (x := y) (by omega)
  refine ldI_r hr rfl ?_
  refine (c_rFind (c := s112c) hrp.r hS.nd hA hxa (by omega) (fun A hA => by have := hAl A hA; omega)).mono ?_
  rintro e w117 ⟨rfl, hc⟩
  replace hrp := hrp.nob hc
  replace hr := hc.row (fun h => h) hr
  refine ⟨_, _, rfl, ldI_r hr rfl ?_⟩
  refine (c_rFind (c := s112c) hrp.r hS.nd hA2 hyb (by omega) (fun A hA => by have := hAl A hA; omega)).mono ?_
  rintro e w122 ⟨rfl, hc⟩
  replace hrp := hrp.nob hc
  replace hr := hc.row (fun h => h) hr
  refine ⟨_, _, rfl, ldI_r hr rfl (ldI_r hr rfl ?_)⟩
  have hsame : Calls Pg fn_seq_Forest_Same #[.pointer (some ⟨F, 0, none⟩), .int .i64 x, .int .i64 y] w122 fun e w' => e = .returned (.tuple #[.bool (decide (ia = ib)), errV 0]) ∧ ∃ q, X'.Perm q ∧ AS w122 w' F L m v' q := by
    by_cases hii : ia = ib
    · subst hii
      rw [hA] at hA2; injection hA2 with hA2; subst hA2
      refine (c_Same_yes (hrp.s.a.perm (wo_perm1 hA)) (List.mem_of_getElem? hxa) (List.mem_of_getElem? hyb)).mono ?_
      rintro e w' ⟨rfl, has⟩
      exact ⟨by simp, _, wo_perm1 hA, has⟩
    · refine (c_Same_no (hrp.s.a.perm (wo_perm2 hA hA2 hii)) (List.mem_of_getElem? hxa) (List.mem_of_getElem? hyb)).mono ?_
      rintro e w' ⟨rfl, has⟩
      exact ⟨by simp [hii], _, wo_perm2 hA hA2 hii, has⟩
  refine hsame.mono ?_
  rintro e w128 ⟨rfl, q, hp, has⟩
  replace hr := has.chg.row hCL hr
  replace hrp := hrp.as hp has
  refine ⟨_, _, rfl, err_i (fun e => absurd rfl e) (fun _ => ?_)⟩
  refine bif_i (fun h => ?_) (fun _ => ?_)
  · exfalso
    by_cases hii : ia = ib
    · simp [hii] at h
    · have : ¬ (ia : Int) = ib := by omega
      simp [hii, this] at h
  refine ldI_r hr rfl (ldI_r hr rfl ⟨by decide, ?_⟩)
  have h1 := Int.tmod_lt_of_pos vv (show (0 : Int) < 30 by omega)
  have h2 := Int.lt_tmod_of_pos vv (show (0 : Int) < 30 by omega)
  refine (c_told (c := s112c) (vc := m) (k := Int.tmod vv 30) hg hrp.s hrp.r (.inl rfl) (ia_nums hrp.v) (fun g hg => by cases hg; exact hrp.nL) (by omega) (by omega)).mono ?_
  rintro e w133 ⟨rfl, hs', hc⟩
  refine ⟨_, rfl, bif_i (fun h => by cases h) (fun _ => ?_)⟩
  exact again _ _ _ _ _ _ ⟨hs', hrp.r.keep hc (fun i e => .inl e), hc.row hrp.nL hrp.v, .inl rfl, .inr rfl, fun k hk => hrp.hbad k (Nat.le_trans hc.size hk), hrp.nL, hrp.new, hrp.nF⟩
end Seq
end Go.Proofs.YtledchlbmilneaaDoor
