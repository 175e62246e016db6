/-
The law CutTurned: a road is the same both ways, turned round; its sum and its length are the same; each node on it is linked with the next one.
Conditions: the package variable of errors is laid out; the acts can be read.
-/
import Derived.Test.YtledchlbmilneaaDoorLawCutNew
namespace Go.Proofs.YtledchlbmilneaaDoor
open Go Go.RowKit
set_option linter.unusedVariables false
set_option linter.unusedSimpArgs false
namespace Cut
open Go.Proofs.YtledchlbmilneaaDoor.Seq
theorem lk_get {E : Nat → Nat → Prop} : ∀ {l : List Nat} {k x y : Nat}, Lk E l → l[k]? = some x → l[k + 1]? = some y → E x y := by
  intro l
  induction l with
  | nil => intro k x y _ h; simp at h
  | cons z l ih =>
    intro k x y h h1 h2
    cases k with
    | zero =>
      simp at h1; subst h1
      refine h.1 y ?_
      rw [List.head?_eq_getElem?]; simpa using h2
    | succ k => exact ih h.2 (by simpa using h1) (by simpa using h2)
set_option maxRecDepth 4000 in
theorem c_CutTurned {w : World} {n x y : Int} {sb : Option Addr} {sl sc : Nat} {f : Nat → Nat → Int} (hg : LaidG w) (hf : CA w sb sl 4 f) (hfw : ∀ i, i < sl → -9223372036854775808 ≤ f i 3 ∧ f i 3 ≤ 9223372036854775807) :
    Calls Pg fn_plaitlaw06_CutTurned #[.int .i64 n, .slice sb sl sc, .agg #[.int .i64 x, .int .i64 y]] w fun e w' => e = .returned (.bool true) ∧ Chg Nobody w w' := by
  refine (calls_plaitlaw06_CutTurned _ _ _ _ _ _ _ (fun v' w' => v' = .bool true ∧ Chg Nobody w w') ?_).mono (by rintro e w' ⟨v, rfl, rfl, k⟩; exact ⟨rfl, k⟩)
  unfold sh_plaitlaw06_CutTurned
  refine alo_r fun hrow => ⟨by decide, ?_⟩
  have hch : Chg Nobody w (w.alloc (.cells #[.int .i64 x, .int .i64 y] T__2int)) := (Chg.refl _ _).alloc _
  have hf1 := hf.nob hch
  obtain ⟨m, hm0, hm1, he⟩ := size_ex n 1 40 (by omega) (by omega) (by omega)
  rw [he]
  have hg1 := hg.chg hch (fun h => h)
  generalize w.heap.size = C at *
  generalize w.alloc (.cells #[.int .i64 x, .int .i64 y] T__2int) = w5 at *
  refine (c_New (n := m) (by omega) (by omega)).mono ?_
  rintro e w8 ⟨F, L, rfl, hc, hF, hL, ha0⟩
  have hs : LC w5 w8 F L m (fun _ => 0) (fun _ _ => False) := ⟨hc, hF, hL, ha0⟩
  refine ⟨_, _, rfl, fun _ w' => w' = w8, err_i (fun e => absurd rfl e) (fun _ => bif_i (fun h => by cases h) (fun _ => rfl)), ?_⟩
  rintro _ w11 rfl
  refine ⟨fun _ w' => ∃ v E, LC w5 w' F L m v E, ?_, ?_⟩
  · let J : Nat → List Value → World → Prop := fun j vs w' => ∃ (i : Nat) (v : Nat → Int) (E : Nat → Nat → Prop), vs = [.int .i64 i] ∧ i ≤ 120 ∧ LC w5 w' F L m v E ∧ j = 120 - i
    refine ⟨LI J, LM J, ⟨120, 0, _, _, rfl, by omega, hs, by omega⟩, ?_⟩
    clear hs hc ha0
    intro _ n15 w16 hJ
    obtain ⟨i, v, E, hvs, hi, hs, hj⟩ := hJ.at
    simp only [List.cons.injEq, Value.int.injEq, and_true, true_and] at hvs
    subst hvs
    refine ⟨fun _ w' => w' = w16 ∧ i < sl ∧ i < 120, ?_, ?_⟩
    · refine bif_i (fun h1 => bif_i (fun h2 => ?_) (fun _ => ⟨v, E, hs⟩)) (fun _ => ⟨v, E, hs⟩)
      simp only [b1s] at h1 h2
      exact ⟨rfl, by omega, by omega⟩
    rintro _ w18 ⟨rfl, hil, hi80⟩
    have hf2 := (hf1.nob hs.c).drew
    replace hs := hs.drew
    refine hf2.rd (k := 1) hil (by omega) ?_
    obtain ⟨hz1, a, haM, hae⟩ := idx_ex (f i 1) (show 0 < m by omega) (by omega)
    refine ⟨hz1, hf2.rd (k := 2) hil (by omega) ?_⟩
    obtain ⟨hz2, b, hbM, hbe⟩ := idx_ex (f i 2) (show 0 < m by omega) (by omega)
    refine ⟨hz2, hf2.rd0 hil (by omega) ⟨by decide, ?_⟩⟩
    rw [hae, hbe, wrap64_in (x := (i : Int) + 1) (by omega) (by omega)]
    have again : ∀ w' v' E', LC w5 w' F L m v' E' → LI J [.int .i64 ((i : Int) + 1)] w' ∧ LM J [.int .i64 ((i : Int) + 1)] w' < LM J [.int .i64 (i : Int)] w18 := fun w' v' E' h1 =>
      LI.again (k := 120 - (i + 1)) ⟨i + 1, v', E', rfl, by omega, h1, rfl⟩ (by rw [hj]; omega)
    generalize w18.drew = w19 at *
    refine bif_i (fun _ => ?_) (fun _ => ?_)
    · refine (op_Cut hs haM hbM).mono ?_
      rintro e w' ⟨c, E', rfl, hs', hce⟩
      exact ⟨_, rfl, again _ _ _ hs'⟩
    · refine (op_Link hs haM hbM).mono ?_
      rintro e w29 ⟨c, E', rfl, hs', hce⟩
      refine ⟨_, rfl, (hf1.nob hs'.c).rd (k := 3) hil (by omega) ?_⟩
      refine (c_Set (a := a) (z := f i 3) hs'.a haM (hfw i hil)).mono ?_
      rintro e w34 ⟨rfl, hce⟩
      exact ⟨_, rfl, again _ _ _ (hs'.step hce)⟩
  clear hs hc ha0
  rintro _ w36 ⟨v, E, hs⟩
  replace hrow := hs.c.row (fun h => h) hrow
  refine ixA_i (by omega) (ldI_r hrow rfl ?_)
  obtain ⟨hz1, a, ha, hae⟩ := idx_ex x (show 0 < m by omega) (by omega)
  refine ⟨hz1, ixA_i (by omega) (ldI_r hrow rfl ?_)⟩
  obtain ⟨hz2, b, hb, hbe⟩ := idx_ex y (show 0 < m by omega) (by omega)
  refine ⟨hz2, ?_⟩
  rw [hae, hbe]
  replace hs := hs.drew
  clear hrow
  generalize w36.drew = w37 at *
  have fin : ∀ {w' : World}, Chg Nobody w5 w' → Calls Pg fn_plaitlaw06_sure #[] w' fun e w'' => e = .returned (.bool true) ∧ Chg Nobody w w'' := fun hc => n_sure06 hg (hch.trans hc)
  have hm := hs.a.small
  by_cases hw : ∃ l, Way E a b l
  · obtain ⟨l, hw⟩ := hw
    have hwr : Way E b a l.reverse := hw.reverse hs.a.symm
    obtain ⟨hlt, hll, hl0, _⟩ := hs.a.way ha hw
    have hLt := hs.a.lt
    refine (op_Road hs ha hb hw).mono ?_
    rintro e w43 ⟨ob, oc, rfl, hia, hoB, hoc, hs, hce⟩
    have hoL : ∀ k, bk ob = some k → k ≠ L := fun k hk => by have := hoB k hk; omega
    have hLt2 := hs.a.lt
    refine ⟨_, _, _, _, rfl, (op_Road hs hb ha hwr).mono ?_⟩
    rintro e w47 ⟨rb, rc, rfl, hir, hrB, hrc, hs, hce⟩
    have hrL : ∀ k, bk rb = some k → k ≠ L := fun k hk => by have := hrB k hk; omega
    replace hia := ia_ce hia hoL hce
    rw [List.length_reverse] at hir ⊢
    refine ⟨_, _, _, _, rfl, (c_Sum hs.a ha hb hw).mono ?_⟩
    rintro e w51 ⟨rfl, hce⟩
    replace hs := hs.step hce
    replace hia := ia_ce hia hoL hce
    replace hir := ia_ce hir hrL hce
    refine ⟨_, _, rfl, (c_Sum hs.a hb ha hwr).mono ?_⟩
    rintro e w55 ⟨rfl, hce⟩
    replace hs := hs.step hce
    replace hia := ia_ce hia hoL hce
    replace hir := ia_ce hir hrL hce
    refine ⟨_, _, rfl, err_i (fun e => absurd rfl e) (fun _ => ?_)⟩
    have hhd : (ints l)[0]? = some (a : Int) := by
      have := hw.hd
      rw [List.head?_eq_getElem?] at this
      rw [List.getElem?_map, this]; rfl
    have hla : (ints l)[l.length - 1]? = some (b : Int) := by
      have := hw.la
      rw [List.getLast?_eq_getElem?] at this
      rw [List.getElem?_map, this]; rfl
    refine ⟨fun _ w' => w' = w55, ?_, ?_⟩
    · refine err_i (fun e => absurd rfl e) (fun _ => err_i (fun e => absurd rfl e) (fun _ => err_i (fun e => absurd rfl e) (fun _ => ?_)))
      refine bif_i (fun h => ?_) (fun _ => ?_)
      · rw [vsum_perm v (List.reverse_perm l)] at h; simp at h
      refine bif_i (fun h => by simp at h) (fun _ => ?_)
      refine bif_i (fun h => ?_) (fun _ => ?_)
      · simp only [b1s] at h; omega
      refine hia.rd (i := 0) hhd ?_
      refine bif_i (fun h => by simp at h) (fun _ => ?_)
      rw [wrap64_in (x := (l.length : Int) - 1) (by omega) (by omega), show (l.length : Int) - 1 = ((l.length - 1 : Nat) : Int) by omega]
      refine hia.rd hla ?_
      exact bif_i (fun h => by simp at h) (fun _ => rfl)
    rintro _ w84 rfl
    let J : Nat → List Value → World → Prop := fun j vs w' => ∃ i : Nat, vs = [.int .i64 i] ∧ i ≤ l.length ∧ LC w5 w' F L m v E ∧ IA w' ob l.length (ints l) ∧ IA w' rb l.length (ints l.reverse) ∧ j = l.length - i
    refine ⟨LI J, LM J, ⟨_, 0, rfl, by omega, hs, hia, hir, rfl⟩, ?_⟩
    clear hs hia hir hce
    intro _ n87 w88 hJ
    obtain ⟨i, hvs, hi, hs, hia, hir, hj⟩ := hJ.at
    simp only [List.cons.injEq, Value.int.injEq, and_true, true_and] at hvs
    subst hvs
    refine bif_i (fun hc => ?_) (fun hc => ?_) <;> simp only [b1s] at hc
    · obtain ⟨u, hu⟩ : ∃ u, l[i]? = some u := ⟨_, List.getElem?_eq_getElem (by omega)⟩
      have hum := hlt u (List.mem_of_getElem? hu)
      have hur : l.reverse[l.length - 1 - i]? = some u := by
        rw [List.getElem?_reverse (by omega)]
        rw [show l.length - 1 - (l.length - 1 - i) = i by omega]; exact hu
      have hd : ∀ {bb : Option Addr} {A : List Int}, IA w88 bb l.length A → IA w88.drew bb l.length A := fun h => h.nob (Chg.refl _ _).drew
      refine (hd hia).rd (x := (u : Int)) (by rw [List.getElem?_map, hu]; rfl) ?_
      rw [wrap64_in (x := (l.length : Int) - 1) (by omega) (by omega), wrap64_in (x := (l.length : Int) - 1 - i) (by omega) (by omega), show (l.length : Int) - 1 - i = ((l.length - 1 - i : Nat) : Int) by omega]
      refine (hd hir).rd (x := (u : Int)) (by rw [List.getElem?_map, hur]; rfl) ?_
      refine bif_i (fun h => by simp at h) (fun _ => ?_)
      rw [wrap64_in (x := (i : Int) + 1) (by omega) (by omega)]
      have again : ∀ w', LC w5 w' F L m v E → IA w' ob l.length (ints l) → IA w' rb l.length (ints l.reverse) → LI J [.int .i64 ((i : Int) + 1)] w' ∧ LM J [.int .i64 ((i : Int) + 1)] w' < LM J [.int .i64 (i : Int)] w88 := fun w' h1 h2 h3 =>
        LI.again (k := l.length - (i + 1)) ⟨i + 1, rfl, by omega, h1, h2, h3, rfl⟩ (by rw [hj]; omega)
      refine bif_i (fun hc0 => ?_) (fun _ => again _ hs.drew (hd hia) (hd hir)) <;> simp only [b1s] at hc0
      obtain ⟨i', rfl⟩ : ∃ i', i = i' + 1 := ⟨i - 1, by omega⟩
      obtain ⟨u', hu'⟩ : ∃ u', l[i']? = some u' := ⟨_, List.getElem?_eq_getElem (by omega)⟩
      have hum' := hlt u' (List.mem_of_getElem? hu')
      have hE : E u' u := lk_get hw.lk hu' hu
      have hd2 : ∀ {bb : Option Addr} {A : List Int}, IA w88 bb l.length A → IA w88.drew.drew bb l.length A := fun h => h.nob (Chg.refl _ _).drew.drew
      rw [wrap64_in (x := ((i' + 1 : Nat) : Int) - 1) (by omega) (by omega), show ((i' + 1 : Nat) : Int) - 1 = (i' : Int) by omega]
      refine (hd2 hia).rd (x := (u' : Int)) (by rw [List.getElem?_map, hu']; rfl) ?_
      refine (hd2 hia).rd (i := i' + 1) (x := (u : Int)) (by rw [List.getElem?_map, hu]; rfl) ?_
      have hs2 := hs.drew.drew
      refine (c_Near hs2.a hum' hum).mono ?_
      rintro e w99 ⟨t, rfl, ht, hce⟩
      obtain rfl := ht.2 hE
      refine ⟨_, _, rfl, err_i (fun e => absurd rfl e) (fun _ => bif_i (fun h => by cases h) (fun _ => ?_))⟩
      exact again _ (hs2.step hce) (ia_ce (hd2 hia) hoL hce) (ia_ce (hd2 hir) hrL hce)
    · refine (fin hs.c).mono ?_
      rintro e w102 ⟨rfl, hc⟩
      exact ⟨_, rfl, rfl, hc⟩
  · have hw' : ¬ ∃ l, Way E b a l := fun ⟨l, h⟩ => hw ⟨_, h.reverse hs.a.symm⟩
    refine (c_Road_no hs.a ha hb hw).mono ?_
    rintro e w43 ⟨rfl, hce⟩
    replace hs := hs.step hce
    refine ⟨_, _, _, _, rfl, (c_Road_no hs.a hb ha hw').mono ?_⟩
    rintro e w47 ⟨rfl, hce⟩
    replace hs := hs.step hce
    refine ⟨_, _, _, _, rfl, (c_Sum_no hs.a ha hb hw).mono ?_⟩
    rintro e w51 ⟨rfl, hce⟩
    replace hs := hs.step hce
    refine ⟨_, _, rfl, (c_Sum_no hs.a hb ha hw').mono ?_⟩
    rintro e w55 ⟨rfl, hce⟩
    replace hs := hs.step hce
    refine ⟨_, _, rfl, err_i (fun _ => ?_) (fun e => by omega)⟩
    refine (c_Same hs.a ha hb).mono ?_
    rintro e w59 ⟨t, rfl, ht, hce⟩
    replace hs := hs.step hce
    have htf : t = false := by cases t; rfl; exact absurd (ht.1 rfl) hw
    subst htf
    have num : ∀ {w' : World} {c : Int}, LC w5 w' F L m v E → Calls Pg fn_plaitlaw06_num #[errV c] w' fun e w'' => e = .returned (.int .i64 c) ∧ LC w5 w'' F L m v E := fun h =>
      (c_num06 (h.g hg1)).mono fun e w'' ⟨he, k⟩ => ⟨he, h.nob k⟩
    refine ⟨_, _, rfl, fun vs w' => vs = [.bool true] ∧ Chg Nobody w w', ?_, ?_⟩
    · refine (num hs).mono ?_
      rintro e w63 ⟨rfl, hs⟩
      refine ⟨_, rfl, bif_i (fun _ => (num hs).mono ?_) (fun h => absurd h (by decide))⟩
      rintro e w66 ⟨rfl, hs⟩
      refine ⟨_, rfl, bif_i (fun _ => (num hs).mono ?_) (fun h => absurd h (by decide))⟩
      rintro e w69 ⟨rfl, hs⟩
      refine ⟨_, rfl, bif_i (fun _ => (num hs).mono ?_) (fun h => absurd h (by decide))⟩
      rintro e w72 ⟨rfl, hs⟩
      refine ⟨_, rfl, bif_i (fun _ => ⟨errV_isI _, bif_i (fun _ => bif_i (fun _ => (fin hs.c).mono ?_) (fun h => by cases h)) (fun h => absurd h (by decide))⟩) (fun h => absurd h (by decide))⟩
      rintro e w75 ⟨rfl, hc⟩
      exact ⟨_, rfl, rfl, hc⟩
    · rintro _ b77 w78 ⟨ht, hc⟩
      simp only [List.cons.injEq, Value.bool.injEq, and_true] at ht
      subst ht
      exact ⟨rfl, hc⟩
end Cut
end Go.Proofs.YtledchlbmilneaaDoor
