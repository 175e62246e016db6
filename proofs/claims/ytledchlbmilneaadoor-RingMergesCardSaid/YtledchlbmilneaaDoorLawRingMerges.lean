/-
The law RingMerges: two cycles merged are the one from its item on, and then the other one from its own.
Conditions: the package variable of errors is laid out; the acts can be read.
-/
import Derived.Test.YtledchlbmilneaaDoorGLawR
namespace Go.Proofs.YtledchlbmilneaaDoor
open Go Go.RowKit
set_option linter.unusedVariables false
set_option linter.unusedSimpArgs false
namespace Seq
theorem c_RingMerges {w : World} {n x y : Int} {sb : Option Addr} {sl sc : Nat} {f : Nat → Nat → Int} (hg : LaidG w) (hf : CA w sb sl 3 f) :
    Calls Pg fn_plaitlaw05_RingMerges #[.int .i64 n, .slice sb sl sc, .agg #[.int .i64 x, .int .i64 y]] w fun e w' => e = .returned (.bool true) ∧ Chg Nobody w w' := by
  refine (calls_plaitlaw05_RingMerges _ _ _ _ _ _ _ (fun v' w' => v' = .bool true ∧ Chg Nobody w w') ?_).mono (by rintro e w' ⟨v, rfl, rfl, k⟩; exact ⟨rfl, k⟩)
  unfold sh_plaitlaw05_RingMerges
  refine alo_r fun hrow => ⟨by decide, ?_⟩
  have hch : Chg Nobody w (w.alloc (.cells #[.int .i64 x, .int .i64 y] T__2int)) := (Chg.refl _ _).alloc _
  have hf1 := hf.nob hch
  obtain ⟨m, hm0, hm1, he⟩ := size_ex n 2 20 (by omega) (by omega) (by omega)
  rw [he]
  have hg1 := hg.chg hch (fun h => h)
  generalize w.heap.size = B at *
  generalize w.alloc (.cells #[.int .i64 x, .int .i64 y] T__2int) = w5 at *
  refine (c_turned (m := m) (sc := sc) (by omega) (by omega) hf1).mono ?_
  rintro e w7 ⟨R, F, L, q, rfl, hs⟩
  replace hrow := hs.c.row (fun h => h) hrow
  refine ⟨_, rfl, bif_i (fun h => by cases h) (fun _ => ?_)⟩
  refine ixA_i (by omega) (ldI_r hrow rfl ?_)
  obtain ⟨hz1, a, haM, hae⟩ := idx_ex x (show 0 < m by omega) (by omega)
  refine ⟨hz1, ixA_i (by omega) (ldI_r hrow rfl ?_)⟩
  obtain ⟨hz2, b, hbM, hbe⟩ := idx_ex y (show 0 < m by omega) (by omega)
  refine ⟨hz2, ?_⟩
  rw [hae, hbe]
  have hs := hs.drew
  clear hrow
  generalize w7.drew = w8 at *
  have fin : ∀ {w' : World}, Chg Nobody w5 w' → Calls Pg fn_plaitlaw05_sure #[] w' fun e w'' => e = .returned (.bool true) ∧ Chg Nobody w w'' := fun hc => c_sure05.mono fun e w'' ⟨he, hc'⟩ => ⟨he, hch.trans (hc.trans hc')⟩
  have hLt := hs.a.a.lt
  rcases hs.a.a.find2 haM hbM with ⟨A, q', hp, hA, hB⟩ | ⟨A, A2, q', hp, hA, hB, _⟩
  · -- of one cycle
    obtain ⟨pre, post, hA1⟩ := List.append_of_mem hA
    obtain ⟨pre2, post2, hA2⟩ := List.append_of_mem hB
    replace hs := hs.perm hp
    have hs1 := hs
    rw [hA1] at hs1
    refine (op_Walk hs1).mono ?_
    rintro e w15 ⟨xb, xc, rfl, hxi, hxB, hxc, hs1, _⟩
    have hs2 := hs1
    rw [← hA1, hA2] at hs2
    refine ⟨_, _, _, _, rfl, (op_Walk hs2).mono ?_⟩
    rintro e w19 ⟨yb, yc, rfl, hyi, hyB, hyc, hs2, _⟩
    rw [← hA2] at hs2
    refine ⟨_, _, _, _, rfl, (rg_Same_yes hs2.a hA hB).mono ?_⟩
    rintro e w23 ⟨rfl, hrs⟩
    replace hs2 := hs2.step hrs
    refine ⟨_, _, rfl, fun _ w' => w' = w23, err_i (fun e => absurd rfl e) (fun _ => err_i (fun e => absurd rfl e) (fun _ => err_i (fun e => absurd rfl e) (fun _ => rfl))), ?_⟩
    rintro _ w26 rfl
    refine bif_i (fun _ => ?_) (fun h => by cases h)
    refine ⟨fun vs w' => ∃ t, vs = [.bool t] ∧ t = true ∧ Chg Nobody w w', ?_, ?_⟩
    · refine (rg_Merge_same hs2.a hA hB).mono ?_
      rintro e w29 ⟨rfl, hrs⟩
      replace hs2 := hs2.step hrs
      refine ⟨_, rfl, (c_num05 (hs2.g hg1)).mono ?_⟩
      rintro e w32 ⟨rfl, hc⟩
      refine ⟨_, rfl, bif_i (fun _ => ?_) (fun h => absurd h (by decide))⟩
      refine bif_i (fun _ => ?_) (fun h => ?_)
      · refine (fin (hs2.c.trans hc)).mono ?_
        rintro e w35 ⟨rfl, hc⟩
        exact ⟨_, rfl, _, rfl, rfl, hc⟩
      · rw [← hA1, ← hA2] at h; simp at h
    · rintro _ b33 w34 ⟨t, ht, rfl, hc⟩
      simp only [List.cons.injEq, Value.bool.injEq, and_true] at ht
      subst ht
      exact ⟨rfl, hc⟩
  · -- of two
    obtain ⟨pre, post, rfl⟩ := List.append_of_mem hA
    obtain ⟨pre2, post2, rfl⟩ := List.append_of_mem hB
    replace hs := hs.perm hp
    have hl1 := hs.a.bds.2.2.1
    have hl2 := (hs.perm (List.Perm.swap _ _ _)).a.bds.2.2.1
    refine (op_Walk hs).mono ?_
    rintro e w15 ⟨xb, xc, rfl, hxi, hxB, hxc, hs, hrs15⟩
    have hsz15 := hrs15.chg.size
    have hxL : ∀ k, bk xb = some k → k ≠ L := fun k hk e => by have := hxB k hk; omega
    refine ⟨_, _, _, _, rfl, ?_⟩
    replace hs := hs.perm (List.Perm.swap _ _ _)
    refine (op_Walk hs).mono ?_
    rintro e w19 ⟨yb, yc, rfl, hyi, hyB, hyc, hs, hrs⟩
    replace hxi := hxi.rs hxL hrs
    have hyL : ∀ k, bk yb = some k → k ≠ L := fun k hk e => by have := hyB k hk; omega
    refine ⟨_, _, _, _, rfl, ?_⟩
    replace hs := hs.perm (List.Perm.swap _ _ _)
    refine (rg_Same_no hs.a (a := a) (b := b) (by simp) (by simp)).mono ?_
    rintro e w23 ⟨rfl, hrs⟩
    replace hs := hs.step hrs
    replace hxi := hxi.rs hxL hrs
    replace hyi := hyi.rs hyL hrs
    refine ⟨_, _, rfl, fun _ w' => w' = w23, err_i (fun e => absurd rfl e) (fun _ => err_i (fun e => absurd rfl e) (fun _ => err_i (fun e => absurd rfl e) (fun _ => rfl))), ?_⟩
    rintro _ w26 rfl
    refine bif_i (fun h => by cases h) (fun _ => ?_)
    refine (rg_Merge hs.a).mono ?_
    rintro e w40 ⟨rfl, hrs⟩
    replace hs := hs.step hrs
    replace hxi := hxi.rs hxL hrs
    replace hyi := hyi.rs hyL hrs
    refine ⟨_, rfl, err_i (fun e => absurd rfl e) (fun _ => ?_)⟩
    have e0 : (a :: post ++ pre) ++ (b :: post2 ++ pre2) = [] ++ a :: (post ++ pre ++ (b :: post2 ++ pre2)) := by simp
    rw [e0] at hs
    refine (op_Walk hs).mono ?_
    rintro e w44 ⟨zb, zc, rfl, hzi, hzB, hzc, hs, hrs⟩
    replace hxi := hxi.rs hxL hrs
    replace hyi := hyi.rs hyL hrs
    have hsz44 := hrs.chg.size
    have hzL : ∀ k, bk zb = some k → k ≠ L := fun k hk e => by have := hzB k hk; have := hs.a.a.lt; have := hs.hL; obtain ⟨s, ts, a, _⟩ := hrs.s; have := a.lt; omega
    refine ⟨_, _, _, _, rfl, ?_⟩
    refine (rg_Front (y := a) (A' := post ++ pre ++ (b :: post2 ++ pre2)) (x := b) hs.a (by simp)).mono ?_
    rintro e w48 ⟨rfl, hrs⟩
    replace hs := hs.step hrs
    replace hxi := hxi.rs hxL hrs
    replace hyi := hyi.rs hyL hrs
    replace hzi := hzi.rs hzL hrs
    refine ⟨_, _, rfl, ?_⟩
    obtain ⟨b1, c1, w51, hr1, ho1, hc1, hw1⟩ := own_appendN (sc := xc) (ty := T_sl_int) (base := w48.heap.size) ET_int Own.nil hxi (by simp; omega) (Nat.le_refl _) (by omega) (by omega)
    have hc1' : Chg Nobody w48 w51 := hc1.mono (fun k _ h => by simp [bk] at h)
    refine ⟨_, _, _, w51, hr1, ?_⟩
    obtain ⟨b2, c2, w53, hr2, ho2, hc2, hw2⟩ := own_appendN (sc := yc) (ty := T_sl_int) ET_int ho1 (hyi.nob hc1') (by simp; omega) hc1.size (by omega) (by omega)
    have hcc : Chg Nobody w48 w53 := hc1'.trans' hc2 (fun i hi => .inr (ho1.bk_lt hi).1)
    refine ⟨_, _, _, w53, hr2, ?_⟩
    have hia := IA.of_own ho2 (A := ints ((a :: post ++ pre) ++ (b :: post2 ++ pre2))) (by simp [ints])
    refine ⟨errV_isI _, bif_i (fun _ => ?_) (fun h => absurd h (by decide))⟩
    refine ⟨errV_isI _, bif_i (fun _ => ?_) (fun h => absurd h (by decide))⟩
    refine (c_ints05 (hzi.nob hcc) hia (by simp; simp at hl1 hl2; omega)).mono ?_
    rintro e w55 ⟨rfl, hc⟩
    refine ⟨_, rfl, bif_i (fun _ => bif_i (fun _ => ?_) (fun h => by simp at h)) (fun h => by simp [ints] at h)⟩
    refine (fin ((hs.c.trans hcc).trans hc)).mono ?_
    rintro e w58 ⟨rfl, hc⟩
    exact ⟨_, rfl, rfl, hc⟩
end Seq
end Go.Proofs.YtledchlbmilneaaDoor
