/-
The law RingBack: what was cut and merged again, or merged and cut again, is as it was.
Conditions: the acts can be read.
-/
import Derived.Test.YtledchlbmilneaaGLawR
namespace Go.Proofs.Ytledchlbmilneaa
open Go Go.RowKit
set_option linter.unusedVariables false
set_option linter.unusedSimpArgs false
set_option maxHeartbeats 1000000
namespace Seq
theorem walk_b {pre post mid rest : List Nat} {a b : Nat} (h : post ++ pre = mid ++ b :: rest) : ∃ pre2 post2, pre ++ a :: post = pre2 ++ b :: post2 ∧ b :: post2 ++ pre2 = b :: rest ++ a :: mid := by
  rcases List.append_eq_append_iff.1 h with ⟨c, rfl, rfl⟩ | ⟨c, rfl, hc⟩
  · exact ⟨c, rest ++ a :: post, by simp, by simp⟩
  · cases c with
    | nil =>
      simp only [List.nil_append] at hc
      subst hc
      exact ⟨[], rest ++ a :: mid, by simp, by simp⟩
    | cons z r =>
      simp only [List.cons_append, List.cons.injEq] at hc
      obtain ⟨rfl, rfl⟩ := hc
      exact ⟨pre ++ a :: mid, r, by simp, by simp⟩
theorem c_RingBack {w : World} {n x y : Int} {sb : Option Addr} {sl sc : Nat} {f : Nat → Nat → Int} (hf : CA w sb sl 3 f) :
    Calls Pg fn_plaitlaw05_RingBack #[.int .i64 n, .slice sb sl sc, .agg #[.int .i64 x, .int .i64 y]] w fun e w' => e = .returned (.bool true) ∧ Chg Nobody w w' := by
  refine (calls_plaitlaw05_RingBack _ _ _ _ _ _ _ (fun v' w' => v' = .bool true ∧ Chg Nobody w w') ?_).mono (by rintro e w' ⟨v, rfl, rfl, k⟩; exact ⟨rfl, k⟩)
  unfold sh_plaitlaw05_RingBack
  refine alo_r fun hrow => ⟨by decide, ?_⟩
  have hch : Chg Nobody w (w.alloc (.cells #[.int .i64 x, .int .i64 y] T__2int)) := (Chg.refl _ _).alloc _
  replace hf := hf.nob hch
  obtain ⟨m, hm0, hm1, he⟩ := size_ex n 2 20 (by omega) (by omega) (by omega)
  rw [he]
  generalize w.heap.size = B at *
  generalize w.alloc (.cells #[.int .i64 x, .int .i64 y] T__2int) = w5 at *
  refine (rg_New (n := m) (by omega) (by omega)).mono ?_
  rintro e w8 ⟨R, F, L, rfl, hc, hR, hF, hL, ha⟩
  have hs : LR w5 w8 R F L m (fun _ => 0) (ones m) := ⟨hc, hR, hF, hL, ha⟩
  refine ⟨_, _, rfl, fun _ w' => w' = w8, err_i (fun e => absurd rfl e) (fun _ => bif_i (fun h => by cases h) (fun _ => rfl)), ?_⟩
  rintro _ w11 rfl
  refine ⟨fun _ w' => ∃ q, LR w5 w' R F L m (fun _ => 0) q, ?_, ?_⟩
  · let J : Nat → List Value → World → Prop := fun j vs w' => ∃ (i : Nat) (q : List (List Nat)), vs = [.int .i64 i] ∧ i ≤ 40 ∧ LR w5 w' R F L m (fun _ => 0) q ∧ j = 40 - i
    refine ⟨LI J, LM J, ⟨_, 0, _, rfl, by omega, hs, rfl⟩, ?_⟩
    clear hs hc ha
    intro _ n15 w16 hJ
    obtain ⟨i, q, hvs, hi, hs, hj⟩ := hJ.at
    simp only [List.cons.injEq, Value.int.injEq, and_true, true_and] at hvs
    subst hvs
    refine ⟨fun _ w' => w' = w16 ∧ i < sl ∧ i < 40, ?_, ?_⟩
    · refine bif_i (fun h1 => bif_i (fun h2 => ?_) (fun _ => ⟨q, hs⟩)) (fun _ => ⟨q, hs⟩)
      simp only [b1s] at h1 h2
      exact ⟨rfl, by omega, by omega⟩
    rintro _ w18 ⟨rfl, hil, hi40⟩
    have hf := (hf.nob hs.c).drew
    have hs := hs.drew
    refine hf.rd (k := 1) hil (by omega) ?_
    obtain ⟨hz1, a, haM, hae⟩ := idx_ex (f i 1) (show 0 < m by omega) (by omega)
    refine ⟨hz1, hf.rd (k := 2) hil (by omega) ?_⟩
    obtain ⟨hz2, b, hbM, hbe⟩ := idx_ex (f i 2) (show 0 < m by omega) (by omega)
    refine ⟨hz2, hf.rd0 hil (by omega) ⟨by decide, ?_⟩⟩
    rw [hae, hbe, wrap64_in (x := (i : Int) + 1) (by omega) (by omega)]
    have again : ∀ w' q', LR w5 w' R F L m (fun _ => 0) q' → LI J [.int .i64 ((i : Int) + 1)] w' ∧ LM J [.int .i64 ((i : Int) + 1)] w' < LM J [.int .i64 (i : Int)] w18 := fun w' q' h1 =>
      LI.again (k := 40 - (i + 1)) ⟨i + 1, q', rfl, by omega, h1, rfl⟩ (by rw [hj]; omega)
    refine bif_i (fun _ => ?_) (fun _ => ?_)
    · refine (op_rSplit hs haM hbM).mono ?_
      rintro e w' ⟨⟨c, rfl⟩, q', hs'⟩
      exact ⟨_, rfl, again _ _ hs'⟩
    · refine (op_rMerge hs haM hbM).mono ?_
      rintro e w' ⟨⟨c, rfl⟩, q', hs'⟩
      exact ⟨_, rfl, again _ _ hs'⟩
  rintro _ w31 ⟨q, hs⟩
  clear ha hc
  replace hrow := hs.c.row (fun h => h) hrow
  refine ixA_i (by omega) (ldI_r hrow rfl ?_)
  obtain ⟨hz1, a, haM, hae⟩ := idx_ex x (show 0 < m by omega) (by omega)
  refine ⟨hz1, ixA_i (by omega) (ldI_r hrow rfl ?_)⟩
  obtain ⟨hz2, b, hbM, hbe⟩ := idx_ex y (show 0 < m by omega) (by omega)
  refine ⟨hz2, ?_⟩
  rw [hae, hbe]
  replace hs := hs.drew
  clear hrow
  generalize w31.drew = w32 at *
  have fin : ∀ {w' : World}, Chg Nobody w5 w' → Calls Pg fn_plaitlaw05_sure #[] w' fun e w'' => e = .returned (.bool true) ∧ Chg Nobody w w'' := fun hc => c_sure05.mono fun e w'' ⟨he, hc'⟩ => ⟨he, hch.trans (hc.trans hc')⟩
  have hLt := hs.a.a.lt
  rcases hs.a.a.find2 haM hbM with ⟨A, q', hp, hA, hB⟩ | ⟨A, A2, q', hp, hA, hB, _⟩
  · replace hs := hs.perm hp
    obtain ⟨pre, post, rfl⟩ := List.append_of_mem hA
    have hl1 := hs.a.bds.2.2.1
    by_cases hab : a = b
    · subst hab
      refine (op_Walk hs).mono ?_
      rintro e w38 ⟨xb, xc, rfl, _, _, _, hs, _⟩
      refine ⟨_, _, _, _, rfl, (op_Walk hs).mono ?_⟩
      rintro e w42 ⟨yb, yc, rfl, _, _, _, hs, _⟩
      refine ⟨_, _, _, _, rfl, (rg_Same_yes hs.a hA hA).mono ?_⟩
      rintro e w46 ⟨rfl, hrs⟩
      replace hs := hs.step hrs
      refine ⟨_, _, rfl, fun _ _ => False, err_i (fun e => absurd rfl e) (fun _ => err_i (fun e => absurd rfl e) (fun _ => err_i (fun e => absurd rfl e) (fun _ => ?_))), fun _ _ h => h.elim⟩
      refine bif_i (fun _ => ?_) (fun h => ?_)
      · refine bif_i (fun _ => ?_) (fun h => by simp at h)
        refine ⟨errV_isI _, bif_i (fun _ => ?_) (fun h => absurd h (by decide))⟩
        refine ⟨errV_isI _, bif_i (fun _ => ?_) (fun h => absurd h (by decide))⟩
        refine ⟨errV_isI _, bif_i (fun _ => ?_) (fun h => absurd h (by decide))⟩
        refine (fin hs.c).mono ?_
        rintro e w50 ⟨rfl, hc⟩
        exact ⟨_, rfl, rfl, hc⟩
      · simp at h
    · have hm : b ∈ post ++ pre := by
        simp only [List.mem_append, List.mem_cons] at hB ⊢
        rcases hB with h | h | h
        · exact .inr h
        · exact absurd h.symm hab
        · exact .inl h
      obtain ⟨mid, rest, hsp⟩ := List.append_of_mem hm
      obtain ⟨pre2, post2, hA2, hw2⟩ := walk_b (a := a) hsp
      refine (op_Walk hs).mono ?_
      rintro e w38 ⟨xb, xc, rfl, hxi, hxB, _, hs, hrs38⟩
      have hsz38 := hrs38.chg.size
      have hxL : ∀ k, bk xb = some k → k ≠ L := fun k hk e => by have := hxB k hk; omega
      rw [List.cons_append, hsp] at hxi
      rw [hA2] at hs
      refine ⟨_, _, _, _, rfl, (op_Walk hs).mono ?_⟩
      rintro e w42 ⟨yb, yc, rfl, hyi, hyB, _, hs, hrs⟩
      have hyL : ∀ k, bk yb = some k → k ≠ L := fun k hk e => by have := hyB k hk; omega
      rw [hw2] at hyi
      replace hxi := hxi.rs hxL hrs
      rw [← hA2] at hs
      refine ⟨_, _, _, _, rfl, (rg_Same_yes hs.a hA hB).mono ?_⟩
      rintro e w46 ⟨rfl, hrs⟩
      replace hs := hs.step hrs
      replace hxi := hxi.rs hxL hrs
      replace hyi := hyi.rs hyL hrs
      refine ⟨_, _, rfl, fun _ w' => w' = w46, err_i (fun e => absurd rfl e) (fun _ => err_i (fun e => absurd rfl e) (fun _ => err_i (fun e => absurd rfl e) (fun _ => bif_i (fun h => ?_) (fun _ => rfl)))), ?_⟩
      · simp at h; omega
      rintro _ w61 rfl
      refine ⟨fun _ w' => LR w5 w' R F L m (fun _ => 0) (((a :: mid ++ []) ++ (b :: rest ++ [])) :: q') ∧ IA w' xb (pre ++ a :: post).length (ints (a :: (mid ++ b :: rest))) ∧ IA w' yb (pre2 ++ b :: post2).length (ints (b :: rest ++ a :: mid)), bif_i (fun _ => ?_) (fun h => by cases h), ?_⟩
      · refine (rg_Split hs.a hsp).mono ?_
        rintro e w64 ⟨rfl, hrs⟩
        replace hs := hs.step hrs
        replace hxi := hxi.rs hxL hrs
        replace hyi := hyi.rs hyL hrs
        refine ⟨_, rfl, err_i (fun e => absurd rfl e) (fun _ => ?_)⟩
        refine (rg_Merge (pra := []) (prb := []) hs.a).mono ?_
        rintro e w67 ⟨rfl, hrs⟩
        exact ⟨_, rfl, err_i (fun e => absurd rfl e) (fun _ => ⟨hs.step hrs, hxi.rs hxL hrs, hyi.rs hyL hrs⟩)⟩
      rintro _ w75 ⟨hs, hxi, hyi⟩
      have hlen : (pre ++ a :: post).length = ((a :: mid) ++ b :: rest).length := by
        have := congrArg List.length hsp
        simp only [List.length_append, List.length_cons] at this ⊢
        omega
      have e0 : (a :: mid ++ []) ++ (b :: rest ++ []) = [] ++ a :: (mid ++ b :: rest) := by simp
      have e1 : [] ++ a :: (mid ++ b :: rest) = (a :: mid) ++ b :: rest := by simp
      have hl3 : ([] ++ a :: (mid ++ b :: rest)).length ≤ m := by rw [e1]; omega
      rw [e0] at hs
      refine (op_Walk hs).mono ?_
      rintro e w78 ⟨ub, uc, rfl, hui, huB, _, hs, hrs⟩
      replace hxi := hxi.rs hxL hrs
      replace hyi := hyi.rs hyL hrs
      have huL : ∀ k, bk ub = some k → k ≠ L := fun k hk e => by have := huB k hk; have := hrs.chg.size; have := hs.a.a.lt; have := hs.hL; obtain ⟨s, ts, a, _⟩ := hrs.s; have := a.lt; omega
      rw [List.append_nil] at hui
      rw [e1] at hs
      refine ⟨_, _, _, _, rfl, (op_Walk hs).mono ?_⟩
      rintro e w82 ⟨vb, vc, rfl, hvi, hvB, _, hs, hrs⟩
      replace hxi := hxi.rs hxL hrs
      replace hyi := hyi.rs hyL hrs
      replace hui := hui.rs huL hrs
      refine ⟨_, _, _, _, rfl, errV_isI _, bif_i (fun _ => ⟨errV_isI _, bif_i (fun _ => ?_) (fun h => absurd h (by decide))⟩) (fun h => absurd h (by decide))⟩
      refine (c_ints05 hui hxi (by omega)).mono ?_
      rintro e w85 ⟨rfl, hc85⟩
      replace hyi := hyi.nob hc85
      replace hvi := hvi.nob hc85
      refine ⟨_, rfl, bif_i (fun _ => ?_) (fun h => ?_)⟩
      · refine (c_ints05 hvi hyi (by omega)).mono ?_
        rintro e w88 ⟨rfl, hc88⟩
        refine ⟨_, rfl, bif_i (fun _ => ?_) (fun h => ?_)⟩
        · refine (fin (hs.c.trans (hc85.trans hc88))).mono ?_
          rintro e w91 ⟨rfl, hc⟩
          exact ⟨_, rfl, rfl, hc⟩
        · simp at h
      · simp at h
  · obtain ⟨pre, post, rfl⟩ := List.append_of_mem hA
    obtain ⟨pre2, post2, rfl⟩ := List.append_of_mem hB
    replace hs := hs.perm hp
    have hl1 := hs.a.bds.2.2.1
    have hl2 := (hs.perm (List.Perm.swap _ _ _)).a.bds.2.2.1
    have hab : a ≠ b := by
      intro e
      subst e
      obtain ⟨h1, _⟩ := hs.a.a.nodup
      simp [List.nodup_append] at h1
    refine (op_Walk hs).mono ?_
    rintro e w38 ⟨xb, xc, rfl, hxi, hxB, _, hs, hrs38⟩
    have hsz38 := hrs38.chg.size
    have hxL : ∀ k, bk xb = some k → k ≠ L := fun k hk e => by have := hxB k hk; omega
    replace hs := hs.perm (List.Perm.swap _ _ _)
    refine ⟨_, _, _, _, rfl, (op_Walk hs).mono ?_⟩
    rintro e w42 ⟨yb, yc, rfl, hyi, hyB, _, hs, hrs⟩
    have hyL : ∀ k, bk yb = some k → k ≠ L := fun k hk e => by have := hyB k hk; omega
    replace hxi := hxi.rs hxL hrs
    replace hs := hs.perm (List.Perm.swap _ _ _)
    refine ⟨_, _, _, _, rfl, (rg_Same_no hs.a (a := a) (b := b) (by simp) (by simp)).mono ?_⟩
    rintro e w46 ⟨rfl, hrs⟩
    replace hs := hs.step hrs
    replace hxi := hxi.rs hxL hrs
    replace hyi := hyi.rs hyL hrs
    refine ⟨_, _, rfl, fun _ w' => w' = w46, err_i (fun e => absurd rfl e) (fun _ => err_i (fun e => absurd rfl e) (fun _ => err_i (fun e => absurd rfl e) (fun _ => bif_i (fun h => ?_) (fun _ => rfl)))), ?_⟩
    · simp at h; omega
    rintro _ w61 rfl
    refine ⟨fun _ w' => LR w5 w' R F L m (fun _ => 0) ((a :: (post ++ pre)) :: (b :: (post2 ++ pre2)) :: q') ∧ IA w' xb (pre ++ a :: post).length (ints (a :: post ++ pre)) ∧ IA w' yb (pre2 ++ b :: post2).length (ints (b :: post2 ++ pre2)), bif_i (fun h => by cases h) (fun _ => ?_), ?_⟩
    · refine (rg_Merge hs.a).mono ?_
      rintro e w70 ⟨rfl, hrs⟩
      replace hs := hs.step hrs
      replace hxi := hxi.rs hxL hrs
      replace hyi := hyi.rs hyL hrs
      refine ⟨_, rfl, err_i (fun e => absurd rfl e) (fun _ => ?_)⟩
      have e0 : (a :: post ++ pre) ++ (b :: post2 ++ pre2) = [] ++ a :: (post ++ pre ++ (b :: post2 ++ pre2)) := by simp
      rw [e0] at hs
      refine (rg_Split (mid := post ++ pre) (rest := post2 ++ pre2) hs.a (by simp)).mono ?_
      rintro e w73 ⟨rfl, hrs⟩
      exact ⟨_, rfl, err_i (fun e => absurd rfl e) (fun _ => ⟨hs.step hrs, hxi.rs hxL hrs, hyi.rs hyL hrs⟩)⟩
    rintro _ w75 ⟨hs, hxi, hyi⟩
    have hl1' : ([] ++ a :: (post ++ pre)).length ≤ m := by simp only [List.nil_append, List.length_append, List.length_cons] at hl1 ⊢; omega
    have hl2' : ([] ++ b :: (post2 ++ pre2)).length ≤ m := by simp only [List.nil_append, List.length_append, List.length_cons] at hl2 ⊢; omega
    refine (op_Walk (pre := []) hs).mono ?_
    rintro e w78 ⟨ub, uc, rfl, hui, huB, _, hs, hrs⟩
    replace hxi := hxi.rs hxL hrs
    replace hyi := hyi.rs hyL hrs
    have huL : ∀ k, bk ub = some k → k ≠ L := fun k hk e => by have := huB k hk; have := hrs.chg.size; have := hs.a.a.lt; have := hs.hL; obtain ⟨s, ts, a, _⟩ := hrs.s; have := a.lt; omega
    rw [List.append_nil] at hui
    replace hs := hs.perm (List.Perm.swap _ _ _)
    refine ⟨_, _, _, _, rfl, (op_Walk (pre := []) hs).mono ?_⟩
    rintro e w82 ⟨vb, vc, rfl, hvi, hvB, _, hs, hrs⟩
    replace hxi := hxi.rs hxL hrs
    replace hyi := hyi.rs hyL hrs
    replace hui := hui.rs huL hrs
    rw [List.append_nil] at hvi
    refine ⟨_, _, _, _, rfl, errV_isI _, bif_i (fun _ => ⟨errV_isI _, bif_i (fun _ => ?_) (fun h => absurd h (by decide))⟩) (fun h => absurd h (by decide))⟩
    refine (c_ints05 hui hxi (by omega)).mono ?_
    rintro e w85 ⟨rfl, hc85⟩
    replace hyi := hyi.nob hc85
    replace hvi := hvi.nob hc85
    refine ⟨_, rfl, bif_i (fun _ => ?_) (fun h => ?_)⟩
    · refine (c_ints05 hvi hyi (by omega)).mono ?_
      rintro e w88 ⟨rfl, hc88⟩
      refine ⟨_, rfl, bif_i (fun _ => ?_) (fun h => ?_)⟩
      · refine (fin (hs.c.trans (hc85.trans hc88))).mono ?_
        rintro e w91 ⟨rfl, hc⟩
        exact ⟨_, rfl, rfl, hc⟩
      · simp at h
    · simp at h
end Seq
end Go.Proofs.Ytledchlbmilneaa
