/-
The law RingAparts: an item taken out of its cycle is alone, the others go on round without it.
Conditions: the package variable of errors is laid out; the acts can be read.
-/
import Derived.Test.YtledchlbmilneaaDoorGLawR
namespace Go.Proofs.YtledchlbmilneaaDoor
open Go Go.RowKit
set_option linter.unusedVariables false
set_option linter.unusedSimpArgs false
namespace Seq
theorem c_RingAparts {w : World} {n x : Int} {sb : Option Addr} {sl sc : Nat} {f : Nat → Nat → Int} (hg : LaidG w) (hf : CA w sb sl 3 f) :
    Calls Pg fn_plaitlaw05_RingAparts #[.int .i64 n, .slice sb sl sc, .int .i64 x] w fun e w' => e = .returned (.bool true) ∧ Chg Nobody w w' := by
  refine (calls_plaitlaw05_RingAparts _ _ _ _ _ _ (fun v' w' => v' = .bool true ∧ Chg Nobody w w') ?_).mono (by rintro e w' ⟨v, rfl, rfl, k⟩; exact ⟨rfl, k⟩)
  unfold sh_plaitlaw05_RingAparts
  refine ⟨by decide, ?_⟩
  obtain ⟨m, hm0, hm1, he⟩ := size_ex n 1 20 (by omega) (by omega) (by omega)
  rw [he]
  refine (c_turned (m := m) (sc := sc) (by omega) (by omega) hf).mono ?_
  rintro e w4 ⟨R, F, L, q, rfl, hs⟩
  refine ⟨_, rfl, bif_i (fun h => by cases h) (fun _ => ?_)⟩
  obtain ⟨hz, y, hym, hye⟩ := idx_ex x (show 0 < m by omega) (by omega)
  refine ⟨hz, ?_⟩
  rw [hye]
  obtain ⟨A, q', hp, hA⟩ := hs.a.a.find hym
  obtain ⟨pre, post, rfl⟩ := List.append_of_mem hA
  replace hs := hs.perm hp
  have hl : (pre ++ y :: post).length ≤ m := hs.a.bds.2.2.1
  refine (op_Walk hs).mono ?_
  rintro e w8 ⟨ob, oc, rfl, hia, hbB, hoc, hs, hrs⟩
  have hb : ∀ k, bk ob = some k → k ≠ L := fun k hk e => by have := hbB k hk; have := hs.a.a.lt; have := hrs.s.chg.size; obtain ⟨s, ts, a, _⟩ := hrs.s; have := a.lt; omega
  refine ⟨_, _, _, _, rfl, fun _ w' => w' = w8, err_i (fun e => absurd rfl e) (fun _ => bif_i (fun h => ?_) (fun _ => rfl)), ?_⟩
  · simp only [bne_iff_ne, ne_eq, bne_eq_false_iff_eq, Bool.not_eq_true, beq_iff_eq, beq_eq_false_iff_ne, decide_eq_true_eq, decide_eq_false_iff_not, Bool.not_eq_true', Bool.not_eq_false'] at h; simp at h; omega
  rintro _ w11 rfl
  have fin : ∀ {w' : World}, Chg Nobody w w' → Calls Pg fn_plaitlaw05_sure #[] w' fun e w'' => e = .returned (.bool true) ∧ Chg Nobody w w'' := fun hc => c_sure05.mono fun e w'' ⟨he, hc'⟩ => ⟨he, hc.trans hc'⟩
  have hap : Calls Pg fn_ring_Rings_Apart #[.pointer (some ⟨R, 0, none⟩), .int .i64 y] w11 fun e w' => e = .returned (errV (if post ++ pre = [] then 20 else 0)) ∧ RS w11 w' R F L m (fun _ => 0) (([] ++ y :: []) :: (if post ++ pre = [] then q' else (post ++ pre) :: q')) := by
    by_cases h0 : post ++ pre = []
    · rw [if_pos h0, if_pos h0]
      obtain ⟨rfl, rfl⟩ := List.append_eq_nil_iff.1 h0
      exact rg_Apart_alone hs.a
    · rw [if_neg h0, if_neg h0]
      obtain ⟨z, rest, hzr⟩ := List.exists_cons_of_ne_nil h0
      rw [hzr]
      exact rg_Apart hs.a hzr
  refine hap.mono ?_
  rintro e w13 ⟨rfl, hrs13⟩
  replace hs := hs.step hrs13
  replace hia := hia.rs hb hrs13
  refine ⟨_, rfl, (op_Walk hs).mono ?_⟩
  rintro e w17 ⟨yb, yc, rfl, hy, hyB, _, hs, hrs17⟩
  replace hia := hia.rs hb hrs17
  refine ⟨_, _, _, _, rfl, fun _ w' => Chg Nobody w17 w', err_i (fun e => absurd rfl e) (fun _ => ?_), ?_⟩
  · refine alo_r fun hrow => ?_
    have hca : Chg Nobody w17 (w17.alloc (.cells #[.int .i64 y] T_int)) := (Chg.refl _ _).alloc _
    refine (c_ints05 (hy.nob hca) (IA.of_row (A := [(y : Int)]) hrow) (by simp)).mono ?_
    rintro e w23 ⟨rfl, hc⟩
    refine ⟨_, rfl, bif_i (fun h => ?_) (fun _ => hca.trans hc)⟩
    simp at h
  rintro _ w25 hc25
  replace hs := hs.nob hc25
  replace hia := hia.nob hc25
  refine bif_i (fun hc => ?_) (fun hc => ?_) <;> simp only [bne_iff_ne, ne_eq, bne_eq_false_iff_eq, Bool.not_eq_true, beq_iff_eq, beq_eq_false_iff_ne, decide_eq_true_eq, decide_eq_false_iff_not, Bool.not_eq_true', Bool.not_eq_false'] at hc
  · have h0 : post ++ pre = [] := by
      apply List.eq_nil_of_length_eq_zero
      have h1 : (pre ++ y :: post).length = 1 := by omega
      rw [List.length_append, List.length_cons] at h1
      rw [List.length_append]; omega
    rw [if_pos h0]
    refine ⟨fun vs w' => ∃ t, vs = [.bool t] ∧ t = true ∧ Chg Nobody w w', ?_, ?_⟩
    · refine (c_num05 (hs.g hg)).mono ?_
      rintro e w28 ⟨rfl, hcn⟩
      refine ⟨_, rfl, bif_i (fun _ => ?_) (fun h => absurd h (by decide))⟩
      refine (fin (hs.c.trans hcn)).mono ?_
      rintro e w31 ⟨rfl, hc⟩
      exact ⟨_, rfl, _, rfl, rfl, hc⟩
    · rintro _ b33 w34 ⟨t, ht, rfl, hc⟩
      simp only [List.cons.injEq, Value.bool.injEq, and_true] at ht
      subst ht
      exact ⟨rfl, hc⟩
  · have h0 : post ++ pre ≠ [] := by
      intro e
      obtain ⟨rfl, rfl⟩ := List.append_eq_nil_iff.1 e
      simp at hc
    obtain ⟨z, rest, hzr⟩ := List.exists_cons_of_ne_nil h0
    rw [if_neg h0]
    rw [if_neg h0, hzr] at hs
    have e1 : y :: post ++ pre = y :: z :: rest := by rw [List.cons_append, hzr]
    rw [e1] at hia
    have hlen : (pre ++ y :: post).length = (y :: z :: rest).length := by rw [← e1]; simp; omega
    rw [hlen] at hia hoc ⊢
    refine hia.rd (i := 1) (x := (z : Int)) rfl ?_
    have hs2 : LR w w25 R F L m (fun _ => 0) (([] ++ z :: rest) :: [y] :: q') := hs.perm (List.Perm.swap _ _ _)
    refine (op_Walk hs2).mono ?_
    rintro e w39 ⟨zb, zc, rfl, hz', hzB, _, hs3, hrs39⟩
    replace hia := hia.rs hb hrs39
    refine ⟨_, _, _, _, rfl, errV_isI _, bif_i (fun _ => ?_) (fun h => absurd h (by decide))⟩
    refine ⟨errV_isI _, bif_i (fun _ => ?_) (fun h => absurd h (by decide))⟩
    refine ⟨by omega, by simp; omega, ?_⟩
    have hpost := hia.post (k := 1) (by simp)
    rw [show Int.toNat (1 : Int) = 1 from rfl, if_neg (by simp at hoc; omega)]
    refine (c_ints05 hz' hpost (by simp at hlen hl ⊢; omega)).mono ?_
    rintro e w42 ⟨rfl, hc42⟩
    refine ⟨_, rfl, bif_i (fun _ => ?_) (fun h => ?_)⟩
    · refine (fin (hs3.c.trans hc42)).mono ?_
      rintro e w45 ⟨rfl, hc⟩
      exact ⟨_, rfl, rfl, hc⟩
    · simp [ints] at h
end Seq
end Go.Proofs.YtledchlbmilneaaDoor
