/-
The law RingSplits: a cycle split is, from the first item on, up to the second one, and from that on the rest.
Conditions: the package variable of errors is laid out; the acts can be read.
-/
import Derived.Test.YtledchlbmilneaaDoorGLawR
namespace Go.Proofs.YtledchlbmilneaaDoor
open Go Go.RowKit
set_option linter.unusedVariables false
set_option linter.unusedSimpArgs false
namespace Seq
/-- The last place ahead of k, but the first one, at which y stands; -1: none. -/
def lastAt (l : List Nat) (y : Nat) : Nat → Int
  | 0 => -1
  | k + 1 => if k ≠ 0 ∧ l[k]? = some y then (k : Int) else lastAt l y k
theorem lastAt_none {l : List Nat} {y : Nat} : ∀ {k : Nat}, (∀ j, j < k → j ≠ 0 → l[j]? ≠ some y) → lastAt l y k = -1 := by
  intro k
  induction k with
  | zero => intro _; rfl
  | succ k ih =>
    intro h
    unfold lastAt
    rw [if_neg (fun e => h k (by omega) e.1 e.2)]
    exact ih fun j hj => h j (by omega)
theorem lastAt_at {l : List Nat} {y i : Nat} (hn : l.Nodup) (hi : l[i]? = some y) (h0 : i ≠ 0) : ∀ {k : Nat}, i < k → lastAt l y k = i := by
  intro k
  induction k with
  | zero => intro h; omega
  | succ k ih =>
    intro h
    unfold lastAt
    by_cases e : k = i
    · subst e; rw [if_pos ⟨h0, hi⟩]
    · rw [if_neg (fun e' => e (idx_uniq hn e'.2 hi))]
      exact ih (by omega)
theorem c_RingSplits {w : World} {n x y : Int} {sb : Option Addr} {sl sc : Nat} {f : Nat → Nat → Int} (hg : LaidG w) (hf : CA w sb sl 3 f) :
    Calls Pg fn_plaitlaw05_RingSplits #[.int .i64 n, .slice sb sl sc, .agg #[.int .i64 x, .int .i64 y]] w fun e w' => e = .returned (.bool true) ∧ Chg Nobody w w' := by
  refine (calls_plaitlaw05_RingSplits _ _ _ _ _ _ _ (fun v' w' => v' = .bool true ∧ Chg Nobody w w') ?_).mono (by rintro e w' ⟨v, rfl, rfl, k⟩; exact ⟨rfl, k⟩)
  unfold sh_plaitlaw05_RingSplits
  refine alo_r fun hrow => ⟨by decide, ?_⟩
  have hch : Chg Nobody w (w.alloc (.cells #[.int .i64 x, .int .i64 y] T__2int)) := (Chg.refl _ _).alloc _
  have hf1 := hf.nob hch
  obtain ⟨m, hm0, hm1, he⟩ := size_ex n 2 20 (by omega) (by omega) (by omega)
  rw [he]
  have hg1 := hg.chg hch (fun h => h)
  generalize w.heap.size = B at *
  generalize w.alloc (.cells #[.int .i64 x, .int .i64 y] T__2int) = w5 at *
  refine (c_turned (m := m) (sc := sc) (by omega) (by omega) hf1).mono ?_
  rintro e w7 ⟨R, F, L, q, rfl, hs⟩
  replace hrow := hs.c.row (fun h => h) hrow
  refine ⟨_, rfl, bif_i (fun h => by cases h) (fun _ => ?_)⟩
  refine ixA_i (by omega) (ldI_r hrow rfl ?_)
  obtain ⟨hz1, a, haM, hae⟩ := idx_ex x (show 0 < m by omega) (by omega)
  refine ⟨hz1, ixA_i (by omega) (ldI_r hrow rfl ?_)⟩
  obtain ⟨hz2, b, hbM, hbe⟩ := idx_ex y (show 0 < m by omega) (by omega)
  refine ⟨hz2, ?_⟩
  rw [hae, hbe]
  have hs := hs.drew
  clear hrow
  generalize w7.drew = w8 at *
  have fin : ∀ {w' : World}, Chg Nobody w5 w' → Calls Pg fn_plaitlaw05_sure #[] w' fun e w'' => e = .returned (.bool true) ∧ Chg Nobody w w'' := fun hc => c_sure05.mono fun e w'' ⟨he, hc'⟩ => ⟨he, hch.trans (hc.trans hc')⟩
  have hLt := hs.a.a.lt
  obtain ⟨A, q', hp, hA⟩ := hs.a.a.find haM
  obtain ⟨pre, post, rfl⟩ := List.append_of_mem hA
  replace hs := hs.perm hp
  obtain ⟨b1, b2, b3, b4, _⟩ := hs.a.bds
  refine (op_Walk hs).mono ?_
  rintro e w15 ⟨xb, xc, rfl, hxi, hxB, hxc, hs, hrs⟩
  have hxL : ∀ k, bk xb = some k → k ≠ L := fun k hk e => by have := hxB k hk; omega
  refine ⟨_, _, _, _, rfl, err_i (fun e => absurd rfl e) (fun _ => ?_)⟩
  have hnd : (a :: post ++ pre).Nodup := by
    have : (pre ++ a :: post).Perm (a :: post ++ pre) := List.perm_append_comm
    exact this.nodup_iff.1 b1
  have hlen : (pre ++ a :: post).length = (a :: post ++ pre).length := by simp; omega
  rw [hlen] at hxi hxc b3 ⊢
  generalize hX : a :: post ++ pre = X at *
  have hX0 : X[0]? = some a := by rw [← hX]; rfl
  let J : Nat → List Value → World → Prop := fun j vs w' => ∃ i : Nat, vs = [.int .i64 (lastAt X b i), .int .i64 i] ∧ 1 ≤ i ∧ i ≤ X.length ∧ w' = w15 ∧ j = X.length - i
  have hXpos : 1 ≤ X.length := by rw [← hX]; simp
  refine ⟨LI J, LM J, ⟨_, 1, by simp [lastAt], by omega, hXpos, rfl, rfl⟩, ?_⟩
  intro _ n19 n20 w21 hJ
  obtain ⟨i, hvs, hi1, hi, rfl, hj⟩ := hJ.at
  simp only [List.cons.injEq, Value.int.injEq, and_true, true_and] at hvs
  obtain ⟨rfl, rfl⟩ := hvs
  refine bif_i (fun hc => ?_) (fun hc => ?_) <;> simp only [bne_iff_ne, ne_eq, bne_eq_false_iff_eq, Bool.not_eq_true, beq_iff_eq, beq_eq_false_iff_ne, decide_eq_true_eq, decide_eq_false_iff_not, Bool.not_eq_true', Bool.not_eq_false'] at hc
  · obtain ⟨u, hu⟩ : ∃ u, X[i]? = some u := ⟨_, List.getElem?_eq_getElem (by omega)⟩
    refine hxi.rd (x := (u : Int)) (by rw [List.getElem?_map, hu]; rfl) ?_
    rw [wrap64_in (x := (i : Int) + 1) (by omega) (by omega)]
    refine bif_i (fun h => ?_) (fun h => ?_) <;> simp only [bne_iff_ne, ne_eq, bne_eq_false_iff_eq, Bool.not_eq_true, beq_iff_eq, beq_eq_false_iff_ne, decide_eq_true_eq, decide_eq_false_iff_not, Bool.not_eq_true', Bool.not_eq_false'] at h
    · have hub : u = b := by omega
      subst hub
      refine LI.again (k := X.length - (i + 1)) ⟨i + 1, ?_, by omega, by omega, rfl, rfl⟩ (by rw [hj]; omega)
      have e : lastAt X u (i + 1) = i := by rw [lastAt, if_pos ⟨by omega, hu⟩]
      rw [e]; rfl
    · refine LI.again (k := X.length - (i + 1)) ⟨i + 1, ?_, by omega, by omega, rfl, rfl⟩ (by rw [hj]; omega)
      have e : lastAt X b (i + 1) = lastAt X b i := by rw [lastAt, if_neg (fun e => h (by rw [hu] at e; have := Option.some.inj e.2; omega))]
      rw [e]; rfl
  have hiX : i = X.length := by omega
  subst hiX
  clear hJ hj J
  have hpX : (pre ++ a :: post).Perm X := by rw [← hX]; exact List.perm_append_comm
  have hmemX : ∀ z, z ∈ X ↔ z ∈ pre ++ a :: post := fun z => hpX.mem_iff.symm
  by_cases hba : b ∈ X ∧ b ≠ a
  · -- split
    obtain ⟨hbX, hne⟩ := hba
    obtain ⟨k, hk⟩ := List.getElem?_of_mem hbX
    have hkl := (List.getElem?_eq_some_iff.1 hk).1
    have hk0 : k ≠ 0 := by rintro rfl; rw [hX0] at hk; exact hne (Option.some.inj hk).symm
    have hat : lastAt X b X.length = k := lastAt_at hnd hk hk0 hkl
    rw [hat]
    have hsp : X = X.take k ++ b :: X.drop (k + 1) := by
      conv => lhs; rw [← List.take_append_drop k X]
      congr 1
      rw [List.drop_eq_getElem_cons hkl]
      congr 1
      exact (List.getElem?_eq_some_iff.1 hk).2
    obtain ⟨mid, hmid⟩ : ∃ mid, X.take k = a :: mid := by
      rw [← hX]
      cases k with
      | zero => exact absurd rfl hk0
      | succ k => exact ⟨_, rfl⟩
    have hpp : post ++ pre = mid ++ b :: X.drop (k + 1) := by
      have : a :: (post ++ pre) = a :: (mid ++ b :: X.drop (k + 1)) := by
        rw [← List.cons_append, ← List.cons_append, hX, ← hmid]; exact hsp
      exact (List.cons.inj this).2
    refine (rg_Split hs.a hpp).mono ?_
    rintro e w25 ⟨rfl, hrs⟩
    replace hs := hs.step hrs
    replace hxi := hxi.rs hxL hrs
    refine ⟨_, rfl, bif_i (fun h => by simp only [bne_iff_ne, ne_eq, bne_eq_false_iff_eq, Bool.not_eq_true, beq_iff_eq, beq_eq_false_iff_ne, decide_eq_true_eq, decide_eq_false_iff_not, Bool.not_eq_true', Bool.not_eq_false'] at h; omega) (fun _ => ?_)⟩
    have hs1 : LR w5 w25 R F L m (fun _ => 0) (([] ++ a :: mid) :: (b :: X.drop (k + 1)) :: q') := hs
    refine (op_Walk hs1).mono ?_
    rintro e w50 ⟨yb, yc, rfl, hyi, hyB, hyc, hs1, hrs⟩
    replace hxi := hxi.rs hxL hrs
    have hyL : ∀ k, bk yb = some k → k ≠ L := fun k hk e => by have := hyB k hk; have := hs.a.a.lt; omega
    refine ⟨_, _, _, _, rfl, ?_⟩
    have hs2 : LR w5 w50 R F L m (fun _ => 0) (([] ++ b :: X.drop (k + 1)) :: ([] ++ a :: mid) :: q') := hs1.perm (List.Perm.swap _ _ _)
    refine (op_Walk hs2).mono ?_
    rintro e w54 ⟨zb, zc, rfl, hzi, hzB, hzc, hs2, hrs⟩
    replace hxi := hxi.rs hxL hrs
    replace hyi := hyi.rs hyL hrs
    refine ⟨_, _, _, _, rfl, errV_isI _, bif_i (fun _ => ?_) (fun h => absurd h (by decide))⟩
    refine ⟨errV_isI _, bif_i (fun _ => ?_) (fun h => absurd h (by decide))⟩
    refine ⟨errV_isI _, bif_i (fun _ => ?_) (fun h => absurd h (by decide))⟩
    refine ⟨by omega, by omega, ?_⟩
    have hpreX := hxi.pre (k := k) (by omega)
    have hpostX := hxi.post (k := k) (by omega)
    rw [show Int.toNat (k : Int) = k by omega, map_add0, ite_self, Nat.sub_zero]
    rw [if_neg (by omega)]
    have el : ([] ++ a :: mid).length ≤ 100000000 := by
      have := congrArg List.length hmid
      rw [List.length_take] at this
      simp at this ⊢; omega
    refine (c_ints05 hyi hpreX (by omega)).mono ?_
    rintro e w57 ⟨rfl, hc⟩
    refine ⟨_, rfl, bif_i (fun _ => ?_) (fun h => ?_)⟩
    · refine ⟨by omega, by omega, ?_⟩
      have el2 : ([] ++ b :: X.drop (k + 1)).length ≤ 100000000 := by
        have := congrArg List.length hsp
        rw [List.length_append] at this
        simp at this ⊢; omega
      refine (c_ints05 (hzi.nob hc) (hpostX.nob hc) (by omega)).mono ?_
      rintro e w60 ⟨rfl, hc2⟩
      refine ⟨_, rfl, bif_i (fun _ => ?_) (fun h => ?_)⟩
      · refine (fin ((hs2.c.trans hc).trans hc2)).mono ?_
        rintro e w63 ⟨rfl, hc⟩
        exact ⟨_, rfl, rfl, hc⟩
      · have e1 : X.drop k = b :: X.drop (k + 1) := by
          rw [List.drop_eq_getElem_cons hkl]; congr 1; exact (List.getElem?_eq_some_iff.1 hk).2
        rw [← List.map_drop, e1] at h
        simp [ints] at h
    · rw [← List.map_take, hmid] at h
      simp [ints] at h
  · -- an error
    have hat : lastAt X b X.length = -1 := lastAt_none fun j hj hj0 e => by
      have hbX := List.mem_of_getElem? e
      have : b ≠ a := by
        rintro rfl
        exact hj0 (idx_uniq hnd e hX0)
      exact hba ⟨hbX, this⟩
    rw [hat]
    have hsp : Calls Pg fn_ring_Rings_Split #[.pointer (some ⟨R, 0, none⟩), .int .i64 a, .int .i64 b] w21 fun e w' => e = .returned (errV (if a = b then 20 else 21)) ∧ Chg Nobody w5 w' := by
      by_cases e : a = b
      · subst e
        rw [if_pos rfl]
        exact (rg_Split_same hs.a (a := a) (by simp)).mono fun e w' ⟨he, hrs⟩ => ⟨he, (hs.step hrs).c⟩
      · rw [if_neg e]
        have hbn : b ∉ pre ++ a :: post := fun h => hba ⟨(hmemX b).2 h, Ne.symm e⟩
        rcases hs.a.a.find2 haM hbM with ⟨A, q2, hp2, hA2, hB2⟩ | ⟨A, A2, q2, hp2, hA2, hB2, _⟩
        · exfalso
          have hm : A ∈ (pre ++ a :: post) :: q' := hp2.mem_iff.2 (by simp)
          obtain ⟨hfl, _⟩ := hs.a.a.nodup
          have := flat_uniq hfl hm (List.mem_cons_self ..) hA2 (by simp)
          subst this
          exact hbn hB2
        · have hs' := hs.perm hp2
          exact (rg_Split_apart hs'.a hA2 hB2).mono fun e w' ⟨he, hrs⟩ => ⟨he, (hs'.step hrs).c⟩
    refine hsp.mono ?_
    rintro e w25 ⟨rfl, hc⟩
    refine ⟨_, rfl, bif_i (fun _ => ?_) (fun h => absurd h (by decide))⟩
    have hg2 : LaidG w25 := hg1.chg hc (fun h => h)
    refine ⟨fun vs w' => ∃ t, vs = [.bool t] ∧ t = true ∧ Chg Nobody w w', ?_, ?_⟩
    · refine bif_i (fun h => ?_) (fun h => ?_) <;> simp only [bne_iff_ne, ne_eq, bne_eq_false_iff_eq, Bool.not_eq_true, beq_iff_eq, beq_eq_false_iff_ne, decide_eq_true_eq, decide_eq_false_iff_not, Bool.not_eq_true', Bool.not_eq_false'] at h
      · have hab : a = b := by omega
        rw [if_pos hab]
        refine (c_num05 hg2).mono ?_
        rintro e w29 ⟨rfl, hcn⟩
        refine ⟨_, rfl, bif_i (fun _ => ?_) (fun h => absurd h (by decide))⟩
        refine (fin (hc.trans hcn)).mono ?_
        rintro e w32 ⟨rfl, hc⟩
        exact ⟨_, rfl, _, rfl, rfl, hc⟩
      · have hab : a ≠ b := by omega
        refine bif_i (fun _ => ?_) (fun h2 => ?_)
        · rw [if_neg hab]
          refine (c_num05 hg2).mono ?_
          rintro e w29 ⟨rfl, hcn⟩
          refine ⟨_, rfl, bif_i (fun _ => ?_) (fun h => absurd h (by decide))⟩
          refine (fin (hc.trans hcn)).mono ?_
          rintro e w32 ⟨rfl, hc⟩
          exact ⟨_, rfl, _, rfl, rfl, hc⟩
        · simp only [bne_iff_ne, ne_eq, bne_eq_false_iff_eq, Bool.not_eq_true, beq_iff_eq, beq_eq_false_iff_ne, decide_eq_true_eq, decide_eq_false_iff_not, Bool.not_eq_true', Bool.not_eq_false'] at h2; omega
    · rintro _ b33 w34 ⟨t, ht, rfl, hc⟩
      simp only [List.cons.injEq, Value.bool.injEq, and_true] at ht
      subst ht
      exact ⟨rfl, hc⟩
end Seq
end Go.Proofs.YtledchlbmilneaaDoor
