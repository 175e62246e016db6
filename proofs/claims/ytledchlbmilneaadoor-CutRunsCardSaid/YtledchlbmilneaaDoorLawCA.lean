/-
A law's trees: by some acts; what must come whatever the input is.
Conditions: those that each theorem states.
-/
import Derived.Test.YtledchlbmilneaaDoorGCutE
import Derived.Test.YtledchlbmilneaaDoorLawP06
import Derived.Test.YtledchlbmilneaaDoorGLaw
import Derived.Test.YtledchlbmilneaaDoorGRef
namespace Go.Proofs.YtledchlbmilneaaDoor
open Go Go.RowKit
set_option linter.unusedVariables false
set_option linter.unusedSimpArgs false
namespace Cut
open Go.Proofs.YtledchlbmilneaaDoor.Seq
/-- A law's trees: they stand, and of what stood before the law nothing was changed. -/
structure LC (w₀ w : World) (F L n : Nat) (v : Nat → Int) (E : Nat → Nat → Prop) : Prop where
  c : Chg Nobody w₀ w
  hF : w₀.heap.size ≤ F
  hL : w₀.heap.size ≤ L
  a : AE w.heap F L n v E
section
variable {w₀ w w' : World} {F L n a b x : Nat} {v v' : Nat → Int} {E E' : Nat → Nat → Prop} {l : List Nat}
theorem LC.step (h : LC w₀ w F L n v E) (k : CE w w' F L n v' E') : LC w₀ w' F L n v' E' := ⟨h.c.trans' k.c (fun i e => by subst e; exact .inr h.hL), h.hF, h.hL, k.a⟩
theorem LC.nob (h : LC w₀ w F L n v E) (k : Chg Nobody w w') : LC w₀ w' F L n v E := ⟨h.c.trans k, h.hF, h.hL, h.a.keep k (fun h => h) (fun h => h)⟩
theorem LC.alloc (h : LC w₀ w F L n v E) (o : Obj) : LC w₀ (w.alloc o) F L n v E := h.nob ((Chg.refl _ _).alloc o)
theorem LC.drew (h : LC w₀ w F L n v E) : LC w₀ w.drew F L n v E := h.nob (Chg.refl _ _).drew
theorem LC.g (h : LC w₀ w F L n v E) (k : LaidG w₀) : LaidG w := k.chg h.c (fun h => h)
/-- Something of the law's own is changed: neither the trees nor the records. -/
theorem LC.put (h : LC w₀ w F L n v E) {B : Nat} (k : Chg (· = B) w w') (hB : w₀.heap.size ≤ B) (hF : F ≠ B) (hL : L ≠ B) : LC w₀ w' F L n v E :=
  ⟨h.c.trans' k (fun i e => by subst e; exact .inr hB), h.hF, h.hL, h.a.keep k hF hL⟩
theorem ia_ce {bb : Option Addr} {l : Nat} {X : List Int} (h : IA w bb l X) (hb : ∀ k, bk bb = some k → k ≠ L) (k : CE w w' F L n v E) : IA w' bb l X := h.keep k.c (fun g hg (e : g = L) => hb g hg e)
theorem way_refl (a : Nat) : Way E a a [a] := ⟨rfl, rfl, by simp, fun y hy => by simp at hy, trivial⟩
theorem way_last {l : List Nat} (h : Way E a b l) (hab : a ≠ b) : ∃ z, E z b := by
  obtain ⟨k, rfl⟩ := last_of h.la
  rcases List.eq_nil_or_concat k with rfl | ⟨k', z, rfl⟩
  · have := h.hd; simp at this; exact absurd this.symm hab
  · have hl := h.lk
    rw [Lk.append] at hl
    exact ⟨z, hl.2.2 z b (by simp) rfl⟩
theorem lk_lt (hE : ∀ x y, E x y → x < n ∧ y < n) : ∀ (l : List Nat) (a : Nat), l.head? = some a → a < n → Lk E l → ∀ x ∈ l, x < n := by
  intro l
  induction l with
  | nil => intro a h; simp at h
  | cons y l ih =>
    intro a h ha hl x hx
    simp at h
    subst h
    rcases List.mem_cons.1 hx with rfl | hx
    · exact ha
    · cases l with
      | nil => cases hx
      | cons z l => exact ih z rfl (hE y z (hl.1 z rfl)).2 hl.2 x hx
theorem AE.way {h : Array Obj} (k : AE h F L n v E) (ha : a < n) (hw : Way E a b l) : (∀ x ∈ l, x < n) ∧ l.length ≤ n ∧ 0 < l.length ∧ b < n := by
  have h1 := lk_lt k.bd l a hw.hd ha hw.lk
  refine ⟨h1, nodup_len hw.nd h1, ?_, h1 b (List.mem_of_getLast? hw.la)⟩
  have := hw.hd
  cases l with
  | nil => simp at this
  | cons => simp
theorem op_Road (h : LC w₀ w F L n v E) (ha : a < n) (hb : b < n) (hw : Way E a b l) :
    Calls Pg fn_cut_Forest_Road #[.pointer (some ⟨F, 0, none⟩), .int .i64 a, .int .i64 b] w fun e w' => ∃ ob oc, e = .returned (.tuple #[.slice ob l.length oc, errV 0]) ∧ IA w' ob l.length (ints l) ∧ (∀ k, bk ob = some k → w.heap.size ≤ k) ∧ l.length ≤ oc ∧
      LC w₀ w' F L n v E ∧ CE w w' F L n v E := by
  refine (c_Road h.a ha hb hw).mono ?_
  rintro e w' ⟨ob, oc, rfl, hown, hce⟩
  exact ⟨ob, oc, rfl, IA.of_own hown (by simp [ivs, Function.comp_def]), fun k hk => (hown.bk_lt hk).1, hown.cap.1, h.step hce, hce⟩
theorem op_Link (h : LC w₀ w F L n v E) (ha : a < n) (hb : b < n) : Calls Pg fn_cut_Forest_Link #[.pointer (some ⟨F, 0, none⟩), .int .i64 a, .int .i64 b] w fun e w' => ∃ c E', e = .returned (errV c) ∧ LC w₀ w' F L n v E' ∧ CE w w' F L n v E' := by
  by_cases hw : ∃ l, Way E a b l
  · exact (c_Link_no h.a ha hb hw).mono fun e w' ⟨he, hc⟩ => ⟨_, _, he, h.step hc, hc⟩
  · exact (c_Link h.a ha hb hw).mono fun e w' ⟨he, hc⟩ => ⟨_, _, he, h.step hc, hc⟩
theorem op_Cut (h : LC w₀ w F L n v E) (ha : a < n) (hb : b < n) : Calls Pg fn_cut_Forest_Cut #[.pointer (some ⟨F, 0, none⟩), .int .i64 a, .int .i64 b] w fun e w' => ∃ c E', e = .returned (errV c) ∧ LC w₀ w' F L n v E' ∧ CE w w' F L n v E' := by
  by_cases hw : E a b
  · exact (c_Cut h.a ha hb hw).mono fun e w' ⟨he, hc⟩ => ⟨_, _, he, h.step hc, hc⟩
  · exact (c_Cut_no h.a ha hb hw).mono fun e w' ⟨he, hc⟩ => ⟨_, _, he, h.step hc, hc⟩
theorem AE.congr {h : Array Obj} (k : AE h F L n v E) (he : ∀ x y, E x y ↔ E' x y) : AE h F L n v E' := by
  obtain ⟨s, pa, ps, i, j, z, e⟩ := k
  exact ⟨s, pa, ps, i, j, z, fun x y => (e x y).trans (he x y)⟩
theorem LC.congr (h : LC w₀ w F L n v E) (he : ∀ x y, E x y ↔ E' x y) : LC w₀ w F L n v E' := ⟨h.c, h.hF, h.hL, h.a.congr he⟩
end
theorem c_sure06 {w : World} (hg : LaidG w) : Calls Pg fn_plaitlaw06_sure #[] w fun e w' => e = .returned (.bool true) ∧ Chg Nobody w w' := by
  refine (calls_plaitlaw06_sure _ (fun v' w' => v' = .bool true ∧ Chg Nobody w w') ?_).mono (by rintro e w' ⟨v, rfl, rfl, k⟩; exact ⟨rfl, k⟩)
  unfold sh_plaitlaw06_sure
  let E2 : Nat → Nat → Prop := fun x y => (False ∨ (x = 0 ∧ y = 1) ∨ (x = 1 ∧ y = 0)) ∨ (x = 1 ∧ y = 2) ∨ (x = 2 ∧ y = 1)
  refine (c_New (n := 3) (by omega) (by omega)).mono ?_
  rintro e w2 ⟨F, L, rfl, hc, hF, hL, ha⟩
  have hs : LC w w2 F L 3 (fun _ => 0) (fun _ _ => False) := ⟨hc, hF, hL, ha⟩
  refine ⟨_, _, rfl, fun _ w' => LC w w' F L 3 (upd (fun _ => 0) 1 (-5)) E2, ?_, ?_⟩
  · refine err_i (fun e => absurd rfl e) (fun _ => bif_i (fun h => by cases h) (fun _ => ?_))
    refine (c_Link (a := 0) (b := 1) hs.a (by omega) (by omega) (fun ⟨l, h⟩ => by obtain ⟨z, hz⟩ := way_last h (by omega); exact hz)).mono ?_
    rintro e w6 ⟨rfl, hce⟩
    have hs := hs.step hce
    refine ⟨_, rfl, err_i (fun e => absurd rfl e) (fun _ => ?_)⟩
    refine (c_Link (a := 1) (b := 2) hs.a (by omega) (by omega) (fun ⟨l, h⟩ => by obtain ⟨z, hz⟩ := way_last h (by omega); simp at hz)).mono ?_
    rintro e w9 ⟨rfl, hce⟩
    have hs := hs.step hce
    refine ⟨_, rfl, err_i (fun e => absurd rfl e) (fun _ => ?_)⟩
    refine (c_Set (a := 1) (z := -5) hs.a (by omega) (by omega)).mono ?_
    rintro e w12 ⟨rfl, hce⟩
    exact ⟨_, rfl, err_i (fun e => absurd rfl e) (fun _ => hs.step hce)⟩
  clear hs
  rintro _ w14 hs
  have hway : Way E2 0 2 [0, 1, 2] := ⟨rfl, rfl, by decide, by simp [Lk, E2]⟩
  refine (c_Least (a := 0) (b := 2) hs.a (by omega) (by omega) hway).mono ?_
  rintro e w17 ⟨⟨z, hz, rfl⟩, hce⟩
  have hs := hs.step hce
  have hz1 : z = 1 := by
    have hm := hz.mem
    obtain ⟨_, _, _, h2, _⟩ := hz
    have := h2 1 (by simp)
    simp only [List.mem_cons, List.not_mem_nil, or_false] at hm
    rcases hm with rfl | rfl | rfl
    · simp [upd] at this
    · rfl
    · simp [upd] at this
  subst hz1
  refine ⟨_, _, rfl, (c_Len (a := 0) (b := 2) hs.a (by omega) (by omega) hway).mono ?_⟩
  rintro e w21 ⟨rfl, hce⟩
  have hs := hs.step hce
  refine ⟨_, _, rfl, errV_isI _, bif_i (fun _ => ⟨errV_isI _, bif_i (fun _ => ?_) (fun h => absurd h (by decide))⟩) (fun h => absurd h (by decide))⟩
  refine bif_i (fun _ => bif_i (fun _ => ?_) (fun h => absurd h (by decide))) (fun h => absurd h (by decide))
  refine (c_Link_no (a := 0) (b := 2) hs.a (by omega) (by omega) ⟨_, hway⟩).mono ?_
  rintro e w24 ⟨rfl, hce⟩
  have hs := hs.step hce
  refine ⟨_, rfl, (c_num06 (hs.g hg)).mono ?_⟩
  rintro e w27 ⟨rfl, hc⟩
  exact ⟨_, rfl, rfl, hs.c.trans hc⟩
theorem zeros_nums (m : Nat) : recs (fun _ => [Value.int .i64 0]) m = nums m (fun _ => 0) := by
  unfold nums recs
  induction List.range m with
  | nil => rfl
  | cons a l ih => rw [List.flatMap_cons, List.map_cons, ih]; rfl
/-- Trees and values by some acts. -/
theorem c_grown {w : World} {m : Nat} {sb : Option Addr} {sl sc : Nat} {f : Nat → Nat → Int} (h0 : 1 ≤ m) (hm : m ≤ 8388608) (hf : CA w sb sl 4 f) (hfw : ∀ i, i < sl → -9223372036854775808 ≤ f i 3 ∧ f i 3 ≤ 9223372036854775807) :
    Calls Pg fn_plaitlaw06_grown #[.int .i64 m, .slice sb sl sc] w fun e w' => ∃ F L B v E, e = .returned (.tuple #[.pointer (some ⟨F, 0, none⟩), .slice (some ⟨B, 0, none⟩) m m]) ∧ LC w w' F L m v E ∧ Row w'.heap B T_int64 (nums m v) ∧ B ≠ L ∧ B ≠ F ∧ w.heap.size ≤ B := by
  refine (calls_plaitlaw06_grown _ _ _ _ _ (fun v' w' => ∃ F L B v E, v' = .tuple #[.pointer (some ⟨F, 0, none⟩), .slice (some ⟨B, 0, none⟩) m m] ∧ LC w w' F L m v E ∧ Row w'.heap B T_int64 (nums m v) ∧ B ≠ L ∧ B ≠ F ∧ w.heap.size ≤ B) ?_).mono (by rintro e w' ⟨v, rfl, F, L, B, v', E, rfl, k⟩; exact ⟨F, L, B, v', E, rfl, k⟩)
  unfold sh_plaitlaw06_grown
  refine (c_New h0 hm).mono ?_
  rintro e w4 ⟨F, L, rfl, hc, hF, hL, ha⟩
  have hs : LC w w4 F L m (fun _ => 0) (fun _ _ => False) := ⟨hc, hF, hL, ha⟩
  refine ⟨_, _, rfl, fun _ w' => w' = w4, err_i (fun e => absurd rfl e) (fun _ => bif_i (fun h => by cases h) (fun _ => rfl)), ?_⟩
  rintro _ w7 rfl
  refine ⟨by omega, by omega, by omega, ?_⟩
  rw [show Int.toNat (m : Int) = m by omega]
  refine alo_r fun hrow => ?_
  rw [zerosOf_recs, zeros_nums] at hrow
  have hlt := hs.a.lt
  have hsz := hs.c.size
  replace hs := hs.alloc (.cells (zerosOf #[.int .i64 0] m) T_int64)
  have hBF : w7.heap.size ≠ F := by omega
  have hBL : w7.heap.size ≠ L := by omega
  have hB0 : w.heap.size ≤ w7.heap.size := hsz
  generalize w7.heap.size = B at *
  generalize w7.alloc (.cells (zerosOf #[.int .i64 0] m) T_int64) = w9 at *
  let J : Nat → List Value → World → Prop := fun j vs w' => ∃ (i : Nat) (v : Nat → Int) (E : Nat → Nat → Prop), vs = [.int .i64 i] ∧ i ≤ 80 ∧ LC w w' F L m v E ∧ Row w'.heap B T_int64 (nums m v) ∧ j = 80 - i
  refine ⟨LI J, LM J, ⟨_, 0, _, _, rfl, by omega, hs, hrow, rfl⟩, ?_⟩
  clear hs hc ha hrow hlt hsz
  intro _ n12 w13 hJ
  obtain ⟨i, v, E, hvs, hi, hs, hrow, hj⟩ := hJ.at
  simp only [List.cons.injEq, Value.int.injEq, and_true, true_and] at hvs
  subst hvs
  refine ⟨fun _ w' => w' = w13 ∧ i < sl ∧ i < 80, ?_, ?_⟩
  · refine bif_i (fun h1 => bif_i (fun h2 => ?_) (fun _ => ⟨F, L, B, v, E, rfl, hs, hrow, hBL, hBF, hB0⟩)) (fun _ => ⟨F, L, B, v, E, rfl, hs, hrow, hBL, hBF, hB0⟩)
    simp only [b1s] at h1 h2
    exact ⟨rfl, by omega, by omega⟩
  rintro _ w15 ⟨rfl, hil, hi80⟩
  have hf1 := (hf.nob hs.c).drew
  replace hs := hs.drew
  replace hrow : Row w15.drew.heap B T_int64 (nums m v) := hrow
  refine hf1.rd (k := 1) hil (by omega) ?_
  obtain ⟨hz1, a, haM, hae⟩ := idx_ex (f i 1) (show 0 < m by omega) (by omega)
  refine ⟨hz1, hf1.rd (k := 2) hil (by omega) ?_⟩
  obtain ⟨hz2, b, hbM, hbe⟩ := idx_ex (f i 2) (show 0 < m by omega) (by omega)
  refine ⟨hz2, hf1.rd0 hil (by omega) ⟨by decide, ?_⟩⟩
  rw [hae, hbe, wrap64_in (x := (i : Int) + 1) (by omega) (by omega)]
  have again : ∀ w' v' E', LC w w' F L m v' E' → Row w'.heap B T_int64 (nums m v') → LI J [.int .i64 ((i : Int) + 1)] w' ∧ LM J [.int .i64 ((i : Int) + 1)] w' < LM J [.int .i64 (i : Int)] w15 := fun w' v' E' h1 h2 =>
    LI.again (k := 80 - (i + 1)) ⟨i + 1, v', E', rfl, by omega, h1, h2, rfl⟩ (by rw [hj]; omega)
  have hf2 : ∀ {w'}, LC w w' F L m (upd v a (f i 3)) E → CA w' sb sl 4 f := fun h => hf.nob h.c
  generalize w15.drew = w16 at *
  refine bif_i (fun _ => ?_) (fun _ => bif_i (fun _ => ?_) (fun _ => ?_))
  · refine (op_Cut hs haM hbM).mono ?_
    rintro e w' ⟨c, E', rfl, hs', hce⟩
    exact ⟨_, rfl, again _ _ _ hs' (hce.c.row hBL hrow)⟩
  · refine hf1.rd (k := 3) hil (by omega) ?_
    refine (c_Set (a := a) (z := f i 3) hs.a haM (hfw i hil)).mono ?_
    rintro e w28 ⟨rfl, hce⟩
    have hs' := hs.step hce
    refine ⟨_, rfl, (hf2 hs').rd (k := 3) hil (by omega) ?_⟩
    refine ixS_i (by omega) (sto_r (hce.c.row hBL hrow) (by simp; omega) rfl fun hrow' => ?_)
    rw [Nat.zero_add, Nat.mul_one, nums_set] at hrow'
    rw [Nat.zero_add, Nat.mul_one]
    exact again _ _ _ (hs'.put ((Chg.refl _ _).setCell ⟨B, a, none⟩ (.int .i64 (f i 3)) (.inl rfl)) hB0 hBF.symm hBL.symm) hrow'
  · refine (op_Link hs haM hbM).mono ?_
    rintro e w' ⟨c, E', rfl, hs', hce⟩
    exact ⟨_, rfl, again _ _ _ hs' (hce.c.row hBL hrow)⟩
end Cut
end Go.Proofs.YtledchlbmilneaaDoor
