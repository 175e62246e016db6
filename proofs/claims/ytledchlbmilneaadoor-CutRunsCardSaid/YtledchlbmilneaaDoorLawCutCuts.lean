/-
The law CutCuts: a tree cut between two nodes of a road falls apart there.
Conditions: the package variable of errors is laid out; the acts can be read.
-/
import Derived.Test.YtledchlbmilneaaDoorLawCutNew
namespace Go.Proofs.YtledchlbmilneaaDoor
open Go Go.RowKit
set_option linter.unusedVariables false
set_option linter.unusedSimpArgs false
namespace Cut
open Go.Proofs.YtledchlbmilneaaDoor.Seq
section
variable {E E' : Nat → Nat → Prop} {a b u i k : Nat} {l : List Nat}
theorem lk_at : ∀ {l : List Nat} {k x y : Nat}, Lk E l → l[k]? = some x → l[k + 1]? = some y → E x y := by
  intro l
  induction l with
  | nil => intro k x y _ h; simp at h
  | cons z l ih =>
    intro k x y h h1 h2
    cases k with
    | zero =>
      simp at h1; subst h1
      refine h.1 y ?_
      rw [List.head?_eq_getElem?]; simpa using h2
    | succ k => exact ih h.2 (by simpa using h1) (by simpa using h2)
theorem lk_of : ∀ {l : List Nat}, (∀ k x y, l[k]? = some x → l[k + 1]? = some y → E x y) → Lk E l := by
  intro l
  induction l with
  | nil => intro _; trivial
  | cons z l ih =>
    intro h
    refine ⟨fun y hy => h 0 z y rfl (by rw [List.head?_eq_getElem?] at hy; simpa using hy), ih fun k x y h1 h2 => h (k + 1) x y (by simpa using h1) (by simpa using h2)⟩
theorem way_take (h : Way E a b l) (hi : l[i]? = some u) : Way E a u (l.take (i + 1)) := by
  have hil := (List.getElem?_eq_some_iff.1 hi).1
  refine ⟨?_, ?_, h.nd.sublist (List.take_sublist _ _), lk_of fun k x y h1 h2 => ?_⟩
  · have := h.hd
    rw [List.head?_eq_getElem?] at this ⊢
    rw [List.getElem?_take, if_pos (by omega)]; exact this
  · rw [List.getLast?_eq_getElem?, List.length_take, show min (i + 1) l.length - 1 = i by omega, List.getElem?_take, if_pos (by omega)]; exact hi
  · have k1 := (List.getElem?_eq_some_iff.1 h2).1
    rw [List.length_take] at k1
    rw [List.getElem?_take, if_pos (by omega)] at h1 h2
    exact lk_at h.lk h1 h2
theorem way_drop (h : Way E a b l) (hi : l[i]? = some u) : Way E u b (l.drop i) := by
  have hil := (List.getElem?_eq_some_iff.1 hi).1
  refine ⟨?_, ?_, h.nd.sublist (List.drop_sublist _ _), lk_of fun k x y h1 h2 => ?_⟩
  · rw [List.head?_eq_getElem?, List.getElem?_drop]; simpa using hi
  · have := h.la
    rw [List.getLast?_eq_getElem?] at this ⊢
    rw [List.getElem?_drop, List.length_drop, show i + (l.length - i - 1) = l.length - 1 by omega]; exact this
  · rw [List.getElem?_drop] at h1 h2
    exact lk_at h.lk h1 (by rw [← h2]; congr 1)
theorem nd_inj {j x : Nat} (h : l.Nodup) (h1 : l[i]? = some x) (h2 : l[j]? = some x) : i = j :=
  (List.getElem?_inj (List.getElem?_eq_some_iff.1 h1).1 h).1 (h1.trans h2.symm)
/-- The links but one of a road. -/
abbrev Les (E : Nat → Nat → Prop) (p q : Nat) : Nat → Nat → Prop := fun x y => E x y ∧ ¬ ((x = p ∧ y = q) ∨ (x = q ∧ y = p))
theorem cut_way {n p q : Nat} {F L : Nat} {v : Nat → Int} {h : Array Obj} (ka : AE h F L n v E) (ha : a < n) (hw : Way E a b l) (hp : l[k]? = some p) (hq : l[k + 1]? = some q) (hi : l[i]? = some u) :
    ((∃ l', Way (Les E q p) a u l') ↔ i ≤ k) ∧ ((∃ l', Way (Les E q p) b u l') ↔ ¬ i ≤ k) := by
  have hlt := lk_lt ka.bd l a hw.hd ha hw.lk
  have hun := hlt u (List.mem_of_getElem? hi)
  have hsym : ∀ x y, Les E q p x y → Les E q p y x := fun x y h => ⟨ka.symm _ _ h.1, fun h2 => h.2 (by rcases h2 with ⟨h3, h4⟩ | ⟨h3, h4⟩; exact .inr ⟨h4, h3⟩; exact .inl ⟨h4, h3⟩)⟩
  have hil := (List.getElem?_eq_some_iff.1 hi).1
  have hkl := (List.getElem?_eq_some_iff.1 hq).1
  refine ⟨⟨fun ⟨l', hl'⟩ => ?_, fun hik => ⟨l.take (i + 1), ?_⟩⟩, ⟨fun ⟨l', hl'⟩ => ?_, fun hik => ⟨(l.drop i).reverse, ?_⟩⟩⟩
  · rcases Nat.lt_or_ge k i with hki | hki
    · exfalso
      have h1 : l' = l.take (i + 1) := ka.uniq ha (hl'.congr fun x y h => h.1) (way_take hw hi)
      subst h1
      have := lk_at (k := k) hl'.lk (by rw [List.getElem?_take, if_pos (by omega)]; exact hp) (by rw [List.getElem?_take, if_pos (by omega)]; exact hq)
      exact this.2 (.inr ⟨rfl, rfl⟩)
    · exact hki
  · have ht := way_take hw hi
    refine ⟨ht.hd, ht.la, ht.nd, lk_of fun j x y h1 h2 => ⟨lk_at ht.lk h1 h2, ?_⟩⟩
    have k1 := (List.getElem?_eq_some_iff.1 h2).1
    rw [List.length_take] at k1
    rw [List.getElem?_take, if_pos (by omega)] at h1 h2
    rintro (⟨rfl, rfl⟩ | ⟨rfl, rfl⟩)
    · have := nd_inj hw.nd h1 hq; omega
    · have := nd_inj hw.nd h1 hp; omega
  · intro hik
    have hr := hl'.reverse hsym
    have h1 : l'.reverse = l.drop i := ka.uniq hun (hr.congr fun x y h => h.1) (way_drop hw hi)
    rw [h1] at hr
    have := lk_at (k := k - i) hr.lk (by rw [List.getElem?_drop, show i + (k - i) = k by omega]; exact hp) (by rw [List.getElem?_drop, show i + (k - i + 1) = k + 1 by omega]; exact hq)
    exact this.2 (.inr ⟨rfl, rfl⟩)
  · have ht := way_drop hw hi
    have hd : Way (Les E q p) u b (l.drop i) := by
      refine ⟨ht.hd, ht.la, ht.nd, lk_of fun j x y h1 h2 => ⟨lk_at ht.lk h1 h2, ?_⟩⟩
      rw [List.getElem?_drop] at h1 h2
      rintro (⟨rfl, rfl⟩ | ⟨rfl, rfl⟩)
      · have := nd_inj hw.nd h2 hp; omega
      · have := nd_inj hw.nd h1 hp; omega
    exact hd.reverse hsym
end
theorem c_CutCuts {w : World} {n x y z : Int} {sb : Option Addr} {sl sc : Nat} {f : Nat → Nat → Int} (hg : LaidG w) (hf : CA w sb sl 4 f) (hfw : ∀ i, i < sl → -9223372036854775808 ≤ f i 3 ∧ f i 3 ≤ 9223372036854775807) :
    Calls Pg fn_plaitlaw06_CutCuts #[.int .i64 n, .slice sb sl sc, .agg #[.int .i64 x, .int .i64 y, .int .i64 z]] w fun e w' => e = .returned (.bool true) ∧ Chg Nobody w w' := by
  refine (calls_plaitlaw06_CutCuts _ _ _ _ _ _ _ _ (fun v' w' => v' = .bool true ∧ Chg Nobody w w') ?_).mono (by rintro e w' ⟨v, rfl, rfl, k⟩; exact ⟨rfl, k⟩)
  unfold sh_plaitlaw06_CutCuts
  refine alo_r fun hrow => ⟨by decide, ?_⟩
  have hch : Chg Nobody w (w.alloc (.cells #[.int .i64 x, .int .i64 y, .int .i64 z] T__3int)) := (Chg.refl _ _).alloc _
  have hf1 := hf.nob hch
  obtain ⟨m, hm0, hm1, he⟩ := size_ex n 1 30 (by omega) (by omega) (by omega)
  rw [he]
  have hg1 := hg.chg hch (fun h => h)
  generalize w.heap.size = C at *
  generalize w.alloc (.cells #[.int .i64 x, .int .i64 y, .int .i64 z] T__3int) = w5 at *
  have hClt : C < w5.heap.size := hrow.lt
  refine (c_grown (m := m) (sc := sc) (by omega) (by omega) hf1 hfw).mono ?_
  rintro e w8 ⟨F, L, B, v, E, rfl, hs, _, _, _, _⟩
  replace hrow := hs.c.row (fun h => h) hrow
  refine ⟨_, _, _, _, rfl, bif_i (fun h => by cases h) (fun _ => ?_)⟩
  refine ixA_i (by omega) (ldI_r hrow rfl ?_)
  obtain ⟨hz1, a, ha, hae⟩ := idx_ex x (show 0 < m by omega) (by omega)
  refine ⟨hz1, ixA_i (by omega) (ldI_r hrow rfl ?_)⟩
  obtain ⟨hz2, b, hb, hbe⟩ := idx_ex y (show 0 < m by omega) (by omega)
  refine ⟨hz2, ?_⟩
  rw [hae, hbe]
  replace hs := hs.drew
  replace hrow : Row w8.drew.heap C T__3int [.int .i64 x, .int .i64 y, .int .i64 z] := hrow
  generalize w8.drew = w9 at *
  have fin : ∀ {w' : World}, Chg Nobody w5 w' → Calls Pg fn_plaitlaw06_sure #[] w' fun e w'' => e = .returned (.bool true) ∧ Chg Nobody w w'' := fun hc => n_sure06 hg (hch.trans hc)
  have hm := hs.a.small
  by_cases hw : ∃ l, Way E a b l
  · obtain ⟨l, hw⟩ := hw
    obtain ⟨hlt, hll, hl0, _⟩ := hs.a.way ha hw
    have hLt := hs.a.lt
    have hCL : ¬ C = L := by have h1 := hs.hL; omega
    refine (op_Road hs ha hb hw).mono ?_
    rintro e w17 ⟨ob, oc, rfl, hia, hoB, hoc, hs, hce⟩
    have hoL : ∀ k, bk ob = some k → k ≠ L := fun k hk => by have := hoB k hk; omega
    replace hrow := hce.c.row hCL hrow
    by_cases h2 : l.length < 2
    · refine ⟨_, _, _, _, rfl, fun _ _ => False, err_i (fun e => absurd rfl e) (fun _ => bif_i (fun _ => ⟨errV_isI _, bif_i (fun _ => ?_) (fun h => absurd h (by decide))⟩) (fun h => ?_)), fun _ _ h => h.elim⟩
      · refine (fin hs.c).mono ?_
        rintro e w30 ⟨rfl, hc⟩
        exact ⟨_, rfl, rfl, hc⟩
      · simp only [b1s] at h; omega
    refine ⟨_, _, _, _, rfl, fun _ w' => w' = w17, err_i (fun e => absurd rfl e) (fun _ => bif_i (fun h => ?_) (fun _ => rfl)), ?_⟩
    · simp only [b1s] at h; omega
    rintro _ w38 rfl
    refine ixA_i (by omega) (ldI_r hrow rfl ?_)
    rw [wrap64_in (x := (l.length : Int) - 1) (by omega) (by omega), show (l.length : Int) - 1 = ((l.length - 1 : Nat) : Int) by omega]
    obtain ⟨hz3, k, hk, hke⟩ := idx_ex z (show 0 < l.length - 1 by omega) (by omega)
    refine ⟨hz3, ?_⟩
    rw [hke, wrap64_in (x := (k : Int) + 1) (by omega) (by omega)]
    obtain ⟨p, hp⟩ : ∃ p, l[k]? = some p := ⟨_, List.getElem?_eq_getElem (by omega)⟩
    obtain ⟨q, hq⟩ : ∃ q, l[k + 1]? = some q := ⟨_, List.getElem?_eq_getElem (by omega)⟩
    have hpn := hlt p (List.mem_of_getElem? hp)
    have hqn := hlt q (List.mem_of_getElem? hq)
    have hEpq : E p q := lk_at hw.lk hp hq
    have hd : ∀ {w' : World} {bb : Option Addr} {A : List Int}, IA w' bb l.length A → IA w'.drew bb l.length A := fun h => h.nob (Chg.refl _ _).drew
    refine (hd hia).rd (i := k + 1) (x := (q : Int)) (by rw [List.getElem?_map, hq]; rfl) ?_
    refine (hd hia).rd (i := k) (x := (p : Int)) (by rw [List.getElem?_map, hp]; rfl) ?_
    have hway := fun {i u : Nat} (hi : l[i]? = some u) => cut_way (i := i) (u := u) hs.a ha hw hp hq hi
    have hs1 := hs.drew
    refine (c_Cut hs1.a hqn hpn (hs1.a.symm _ _ hEpq)).mono ?_
    rintro e w46 ⟨rfl, hce⟩
    have hs2 : LC w5 w46 F L m v (Les E q p) := hs1.step hce
    have hia2 := ia_ce (hd hia) hoL hce
    refine ⟨_, rfl, err_i (fun e => absurd rfl e) (fun _ => ?_)⟩
    let J : Nat → List Value → World → Prop := fun j vs w' => ∃ i : Nat, vs = [.int .i64 i] ∧ i ≤ l.length ∧ LC w5 w' F L m v (Les E q p) ∧ IA w' ob l.length (ints l) ∧ j = l.length - i
    refine ⟨LI J, LM J, ⟨_, 0, rfl, by omega, hs2, hia2, rfl⟩, ?_⟩
    clear hs hs1 hs2 hia hia2 hce
    intro _ n50 w51 hJ
    obtain ⟨i, hvs, hi, hs, hia, hj⟩ := hJ.at
    simp only [List.cons.injEq, Value.int.injEq, and_true, true_and] at hvs
    subst hvs
    refine bif_i (fun hc => ?_) (fun hc => ?_) <;> simp only [b1s] at hc
    · obtain ⟨u, hu⟩ : ∃ u, l[i]? = some u := ⟨_, List.getElem?_eq_getElem (by omega)⟩
      have hun := hlt u (List.mem_of_getElem? hu)
      obtain ⟨h1, h2⟩ := hway hu
      refine hia.rd (x := (u : Int)) (by rw [List.getElem?_map, hu]; rfl) ?_
      refine (c_Same hs.a ha hun).mono ?_
      rintro e w56 ⟨t, rfl, ht, hce⟩
      replace hs := hs.step hce
      replace hia := ia_ce hia hoL hce
      refine ⟨_, _, rfl, hia.rd (x := (u : Int)) (by rw [List.getElem?_map, hu]; rfl) ?_⟩
      refine (c_Same hs.a hb hun).mono ?_
      rintro e w62 ⟨t2, rfl, ht2, hce⟩
      replace hs := hs.step hce
      replace hia := ia_ce hia hoL hce
      have e1 : t = decide (i ≤ k) := by
        have := ht.trans h1
        cases t <;> simp_all
      have e2 : t2 = !decide (i ≤ k) := by
        have := ht2.trans h2
        cases t2 <;> simp_all
      subst e1
      subst e2
      refine ⟨_, _, rfl, err_i (fun e => absurd rfl e) (fun _ => err_i (fun e => absurd rfl e) (fun _ => ?_))⟩
      refine bif_i (fun h => ?_) (fun _ => bif_i (fun h => ?_) (fun _ => ?_))
      · have : decide ((i : Int) ≤ (k : Int)) = decide (i ≤ k) := by congr 1; simp
        rw [this] at h; simp at h
      · by_cases hik : i ≤ k <;> simp [hik] at h
      rw [wrap64_in (x := (i : Int) + 1) (by omega) (by omega)]
      exact LI.again (k := l.length - (i + 1)) ⟨i + 1, rfl, by omega, hs, hia, rfl⟩ (by rw [hj]; omega)
    · refine (hd hia).rd (i := k) (x := (p : Int)) (by rw [List.getElem?_map, hp]; rfl) ?_
      refine (hd hia).rd (i := k + 1) (x := (q : Int)) (by rw [List.getElem?_map, hq]; rfl) ?_
      replace hs := hs.drew
      refine (c_Cut_no hs.a hpn hqn (fun h => h.2 (.inr ⟨rfl, rfl⟩))).mono ?_
      rintro e w69 ⟨rfl, hce⟩
      replace hs := hs.step hce
      refine ⟨_, rfl, (c_num06 (hs.g hg1)).mono ?_⟩
      rintro e w72 ⟨rfl, hc⟩
      refine ⟨_, rfl, bif_i (fun _ => (fin (hs.c.trans hc)).mono ?_) (fun h => absurd h (by decide))⟩
      rintro e w75 ⟨rfl, hc⟩
      exact ⟨_, rfl, rfl, hc⟩
  · refine (c_Road_no hs.a ha hb hw).mono ?_
    rintro e w17 ⟨rfl, hce⟩
    replace hs := hs.step hce
    refine ⟨_, _, _, _, rfl, fun _ _ => False, err_i (fun _ => ⟨errV_isI _, bif_i (fun h => absurd h (by decide)) (fun _ => ?_)⟩) (fun e => by omega), fun _ _ h => h.elim⟩
    refine (c_num06 (hs.g hg1)).mono ?_
    rintro e w24 ⟨rfl, hc⟩
    refine ⟨_, rfl, bif_i (fun _ => (fin (hs.c.trans hc)).mono ?_) (fun h => absurd h (by decide))⟩
    rintro e w27 ⟨rfl, hc⟩
    exact ⟨_, rfl, rfl, hc⟩
end Cut
end Go.Proofs.YtledchlbmilneaaDoor
