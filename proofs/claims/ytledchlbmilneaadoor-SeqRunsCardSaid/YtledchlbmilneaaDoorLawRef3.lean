/-
The reference of layer 4: an item's place, all lists but two, a list turned round, two joined, one cut.
Conditions: those that each theorem states.
-/
import Derived.Test.YtledchlbmilneaaDoorLawRef2
namespace Go.Proofs.YtledchlbmilneaaDoor
open Go Go.RowKit
set_option linter.unusedVariables false
set_option linter.unusedSimpArgs false
namespace Seq
theorem idx_uniq {l : List Nat} (h : l.Nodup) {i k : Nat} {x : Nat} (h1 : l[i]? = some x) (h2 : l[k]? = some x) : i = k := by
  induction l generalizing i k with
  | nil => simp at h1
  | cons y l ih =>
    have hn := List.nodup_cons.1 h
    cases i with
    | zero =>
      cases k with
      | zero => rfl
      | succ k => simp at h1 h2; subst h1; exact absurd (List.mem_of_getElem? h2) hn.1
    | succ i =>
      cases k with
      | zero => simp at h1 h2; subst h2; exact absurd (List.mem_of_getElem? h1) hn.1
      | succ k => simp at h1 h2; rw [ih hn.2 h1 h2]
theorem flat_idx {X : List (List Nat)} (h : X.flatten.Nodup) {i i' k k' x : Nat} {A A' : List Nat} (h1 : X[i]? = some A) (h2 : X[i']? = some A') (h3 : A[k]? = some x) (h4 : A'[k']? = some x) : i = i' ∧ k = k' := by
  have hii : i = i' := by
    induction X generalizing i i' with
    | nil => simp at h1
    | cons B X ih =>
      simp only [List.flatten_cons, List.nodup_append] at h
      obtain ⟨_, hq, hd⟩ := h
      cases i with
      | zero =>
        cases i' with
        | zero => rfl
        | succ i' =>
          simp at h1 h2; subst h1
          exact absurd rfl (hd x (List.mem_of_getElem? h3) x (List.mem_flatten.2 ⟨A', List.mem_of_getElem? h2, List.mem_of_getElem? h4⟩))
      | succ i =>
        cases i' with
        | zero =>
          simp at h1 h2; subst h2
          exact absurd rfl (hd x (List.mem_of_getElem? h4) x (List.mem_flatten.2 ⟨A, List.mem_of_getElem? h1, List.mem_of_getElem? h3⟩))
        | succ i' => simp at h1 h2; rw [ih hq h1 h2]
  subst hii
  refine ⟨rfl, ?_⟩
  rw [h1] at h2; injection h2 with h2; subst h2
  have hn : A.Nodup := List.Sublist.nodup (List.sublist_flatten_of_mem (List.mem_of_getElem? h1)) h
  exact idx_uniq hn h3 h4
theorem c_rFind {w : World} {bad : Nat → Prop} {b : Option Addr} {l c i k x : Nat} {X : List (List Nat)} {A : List Nat} (h : RF w bad b l X) (hn : X.flatten.Nodup) (hA : X[i]? = some A) (hx : A[k]? = some x) (hl : l ≤ 1000000000) (hAl : ∀ A ∈ X, A.length ≤ 1000000000) :
    Calls Pg fn_plaitref04_Find #[.slice b l c, .int .i64 x] w fun e w' => e = .returned (.tuple #[.int .i64 i, .int .i64 k]) ∧ Chg Nobody w w' := by
  refine (calls_plaitref04_Find _ _ _ _ _ (fun v' w' => v' = .tuple #[.int .i64 i, .int .i64 k] ∧ Chg Nobody w w') ?_).mono (by rintro e w' ⟨v, rfl, rfl, k⟩; exact ⟨rfl, k⟩)
  unfold sh_plaitref04_Find
  have hil : i < l := by rw [← h.1]; exact (List.getElem?_eq_some_iff.1 hA).1
  let J : Nat → List Value → World → Prop := fun j vs w' => ∃ i' : Nat, vs = [.int .i64 i'] ∧ i' ≤ i ∧ Chg Nobody w w' ∧ j = l - i'
  refine ⟨LI J, LM J, ⟨_, 0, rfl, by omega, Chg.refl _ _, rfl⟩, ?_⟩
  intro _ n4 w5 hJ
  obtain ⟨i', hvs, hi', hch, hj⟩ := hJ.at
  simp only [List.cons.injEq, Value.int.injEq, and_true, true_and] at hvs
  subst hvs
  refine bif_i (fun hc => ?_) (fun hc => ?_) <;> simp only [bne_iff_ne, ne_eq, bne_eq_false_iff_eq, Bool.not_eq_true, beq_iff_eq, beq_eq_false_iff_ne, decide_eq_true_eq, decide_eq_false_iff_not, Bool.not_eq_true', Bool.not_eq_false'] at hc
  case refine_2 => omega
  obtain ⟨A', hA'⟩ : ∃ A', X[i']? = some A' := ⟨_, List.getElem?_eq_getElem (by rw [h.1]; omega)⟩
  have hlA' := hAl A' (List.mem_of_getElem? hA')
  let J2 : Nat → List Value → World → Prop := fun j vs w' => ∃ k' : Nat, vs = [.int .i64 k'] ∧ k' ≤ A'.length ∧ (i' = i → k' ≤ k) ∧ Chg Nobody w w' ∧ j = A'.length - k'
  refine ⟨LI J2, LM J2, ⟨_, 0, rfl, by omega, fun _ => by omega, hch, rfl⟩, ?_⟩
  clear hch
  intro _ n8 w9 hJ2
  obtain ⟨k', hvs, hk', hik, hch, hj2⟩ := hJ2.at
  simp only [List.cons.injEq, Value.int.injEq, and_true, true_and] at hvs
  subst hvs
  have h := h.nob hch
  refine h.rd hA' fun eb ec hia hok hle => ?_
  refine bif_i (fun hc2 => ?_) (fun hc2 => ?_) <;> simp only [bne_iff_ne, ne_eq, bne_eq_false_iff_eq, Bool.not_eq_true, beq_iff_eq, beq_eq_false_iff_ne, decide_eq_true_eq, decide_eq_false_iff_not, Bool.not_eq_true', Bool.not_eq_false'] at hc2
  · refine h.rd hA' fun eb ec hia hok hle => ?_
    obtain ⟨u, hu⟩ : ∃ u, A'[k']? = some u := ⟨_, List.getElem?_eq_getElem (by omega)⟩
    refine hia.rd (x := (u : Int)) (by rw [List.getElem?_map, hu]; rfl) ?_
    refine bif_i (fun hc3 => ?_) (fun hc3 => ?_) <;> simp only [bne_iff_ne, ne_eq, bne_eq_false_iff_eq, Bool.not_eq_true, beq_iff_eq, beq_eq_false_iff_ne, decide_eq_true_eq, decide_eq_false_iff_not, Bool.not_eq_true', Bool.not_eq_false'] at hc3
    · have hux : u = x := by omega
      subst hux
      obtain ⟨rfl, rfl⟩ := flat_idx hn hA hA' hx hu
      exact ⟨rfl, hch⟩
    · rw [wrap64_in (by omega) (by omega)]
      refine LI.again (k := A'.length - (k' + 1)) ⟨k' + 1, rfl, by omega, fun e => ?_, hch, rfl⟩ (by rw [hj2]; omega)
      have := hik e
      by_cases hkk : k' = k
      · subst e hkk
        rw [hA] at hA'; injection hA' with hA'; subst hA'
        rw [hx] at hu; injection hu with hu; subst hu
        exact absurd rfl hc3
      · omega
  · rw [wrap64_in (by omega) (by omega)]
    refine LI.again (k := l - (i' + 1)) ⟨i' + 1, rfl, ?_, hch, rfl⟩ (by rw [hj]; omega)
    by_cases hii : i' = i
    · have := hik hii
      subst hii
      rw [hA] at hA'; injection hA' with hA'; subst hA'
      have := (List.getElem?_eq_some_iff.1 hx).1
      omega
    · omega
theorem wo_sub {X : List (List Nat)} {a b : Int} {n : Nat} : (wo X a b n).length ≤ n := by
  unfold wo
  refine Nat.le_trans (List.length_filterMap_le _ _) ?_
  simp
theorem c_without {w : World} {bad : Nat → Prop} {b : Option Addr} {l c : Nat} {x y : Int} {X : List (List Nat)} (h : RF w bad b l X) (hne : ∀ A ∈ X, A ≠ []) (hl : l ≤ 100000000) (hbad : ∀ k, w.heap.size ≤ k → ¬ bad k) :
    Calls Pg fn_plaitref04_without #[.slice b l c, .int .i64 x, .int .i64 y] w fun e w' => ∃ ob ol oc xs, e = .returned (.slice ob ol oc) ∧ Own w' w.heap.size T_sl_int 1 ob ol oc xs ∧ OX w' (Bad bad ob) xs (wo X x y l) ∧ Chg Nobody w w' := by
  refine (calls_plaitref04_without _ _ _ _ _ _ (fun v' w' => ∃ ob ol oc xs, v' = .slice ob ol oc ∧ Own w' w.heap.size T_sl_int 1 ob ol oc xs ∧ OX w' (Bad bad ob) xs (wo X x y l) ∧ Chg Nobody w w') ?_).mono (by rintro e w' ⟨v, rfl, a, b, c, d, rfl, k⟩; exact ⟨a, b, c, d, rfl, k⟩)
  unfold sh_plaitref04_without
  let J : Nat → List Value → World → Prop := fun j vs w' => ∃ (i : Nat) (ob : Option Addr) (ol oc : Nat) (xs : List Value), vs = [.slice ob ol oc, .int .i64 i] ∧ i ≤ l ∧ Chg Nobody w w' ∧ Own w' w.heap.size T_sl_int 1 ob ol oc xs ∧ OX w' (Bad bad ob) xs (wo X x y i) ∧ j = l - i
  refine ⟨LI J, LM J, ⟨_, 0, none, 0, 0, [], rfl, by omega, Chg.refl _ _, Own.nil, OX.nil, rfl⟩, ?_⟩
  intro _ s5b s5l s5c n6 w7 hJ
  obtain ⟨i, ob, ol, oc, xs, hvs, hi, hch, ho, hx, hj⟩ := hJ.at
  simp only [List.cons.injEq, Value.slice.injEq, Value.int.injEq, and_true, true_and] at hvs
  obtain ⟨⟨rfl, rfl, rfl⟩, rfl⟩ := hvs
  have hsz := hch.size
  refine bif_i (fun hc => ?_) (fun hc => ?_) <;> simp only [bne_iff_ne, ne_eq, bne_eq_false_iff_eq, Bool.not_eq_true, beq_iff_eq, beq_eq_false_iff_ne, decide_eq_true_eq, decide_eq_false_iff_not, Bool.not_eq_true', Bool.not_eq_false'] at hc
  case refine_2 =>
    have : i = l := by omega
    subst this
    exact ⟨_, _, _, xs, rfl, ho, hx, hch⟩
  have hw1 : IntKind.i64.wrap ((i : Int) + 1) = (i : Int) + 1 := wrap64_in (by omega) (by omega)
  rw [hw1]
  have skip : ((i : Int) = x ∨ (i : Int) = y) → LI J [.slice s5b s5l s5c, .int .i64 ((i : Int) + 1)] w7 ∧ LM J [.slice s5b s5l s5c, .int .i64 ((i : Int) + 1)] w7 < LM J [.slice s5b s5l s5c, .int .i64 (i : Int)] w7 := by
    intro hor
    refine LI.again (k := l - (i + 1)) ⟨i + 1, _, _, _, xs, rfl, by omega, hch, ho, ?_, rfl⟩ (by rw [hj]; omega)
    rw [wo_succ, if_pos hor]
    simpa using hx
  refine bif_i (fun h1 => ?_) (fun h1 => ?_) <;> simp only [bne_iff_ne, ne_eq, bne_eq_false_iff_eq, Bool.not_eq_true, beq_iff_eq, beq_eq_false_iff_ne, decide_eq_true_eq, decide_eq_false_iff_not, Bool.not_eq_true', Bool.not_eq_false'] at h1
  case refine_2 => exact skip (.inl h1)
  refine bif_i (fun h2 => ?_) (fun h2 => ?_) <;> simp only [bne_iff_ne, ne_eq, bne_eq_false_iff_eq, Bool.not_eq_true, beq_iff_eq, beq_eq_false_iff_ne, decide_eq_true_eq, decide_eq_false_iff_not, Bool.not_eq_true', Bool.not_eq_false'] at h2
  case refine_2 => exact skip (.inr h2)
  obtain ⟨A, hA⟩ : ∃ A, X[i]? = some A := ⟨_, List.getElem?_eq_getElem (by rw [h.1]; omega)⟩
  have hAne := List.length_pos_iff.2 (hne A (List.mem_of_getElem? hA))
  obtain ⟨g, o, e, cs, eb, ec, rfl, hr, hil, hcs, hia, hok, hle⟩ := h.get hA
  refine ixS_i hil (ldS_r (hch.row (fun h => h) hr) (by rw [Nat.mul_one]; exact hcs) ?_)
  refine alo_r fun hr2 => ?_
  have hc2 : Chg Nobody w7 (w7.alloc (.cells #[.slice eb A.length ec] T_sl_int)) := (Chg.refl _ _).alloc _
  have hel : El w7 (Bad bad s5b) (.slice eb A.length ec) A := by
    refine ⟨eb, ec, rfl, hia.nob hch, fun k hk hb => ?_, hle, hAne⟩
    rcases hb with hb | hb
    · exact hok k hk hb
    · obtain ⟨g', hg', hlt⟩ := hia.blk hAne
      rw [hk] at hg'; cases hg'
      have := (ho.bk_lt hb).1
      omega
  have ho2 := ho.keep hc2 (fun _ _ h => h)
  have hx2 := hx.chg (bad' := Bad bad s5b) hc2 (fun _ _ h => h.elim) (fun _ _ h => h)
  have hel2 := hel.chg (bad' := Bad bad s5b) hc2 (fun _ _ h => h.elim) (fun _ _ h => h)
  have hol : s5l ≤ l := by
    have h1 := ho.len
    have h2 := hx.1
    have h3 := wo_sub (X := X) (a := x) (b := y) (n := i)
    omega
  obtain ⟨b', c', w11, hrun, ho', hx', hc3, _⟩ := ox_append ho2 hx2 hel2 hr2 (Nat.le_trans hsz hc2.size) (by omega) T_sl_sl_int
  refine ⟨_, _, _, w11, hrun, ?_⟩
  refine LI.again (k := l - (i + 1)) ⟨i + 1, _, _, _, _, rfl, by omega, (hch.trans hc2).trans' hc3 (fun k hk => .inr (ho.bk_lt hk).1), ho', ?_, rfl⟩ (by rw [hj]; omega)
  rw [wo_succ, if_neg (by rintro (h | h); exact h1 h; exact h2 h), hA]
  exact hx'
end Seq
end Go.Proofs.YtledchlbmilneaaDoor
