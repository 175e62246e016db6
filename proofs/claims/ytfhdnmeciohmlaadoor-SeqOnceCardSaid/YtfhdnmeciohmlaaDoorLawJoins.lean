/-
The law SeqJoins: what is joined is the one list and then the other one.
Conditions: the package variable of errors is laid out; the acts can be read.
-/
import Derived.Test.YtfhdnmeciohmlaaDoorLawLeast
namespace Go.Proofs.YtfhdnmeciohmlaaDoor
open Go Go.RowKit
set_option linter.unusedVariables false
set_option linter.unusedSimpArgs false
namespace Seq
/-- What a slice of ints holds, behind an own slice. -/
theorem own_appendN {P : Program} {w : World} {base : Nat} {t e : TypeId} {by_ : Nat} {b sb : Option Addr} {l c sl sc : Nat} {xs : List Value} {A : List Int} (T : ET P t e 1 by_) (h : Own w base e 1 b l c xs) {ty : TypeId}
    (hs : IA w sb sl A) (hsl : 0 < sl) (hb : base ≤ w.heap.size) (hn : (l + sl) * by_ ≤ 140737488355328) (hm : l + sl ≤ 9223372036854775807) :
    ∃ b' c' w', (Builtin.append_ #[t, t] ty #[.slice b l c, .slice sb sl sc]).run P w = .ok (.slice b' (l + sl) c') w' ∧ Own w' base e 1 b' (l + sl) c' (xs ++ A.map (Value.int .i64)) ∧ Chg (fun k => bk b = some k) w w' ∧ (bk b' = bk b ∨ bk b' = some w.heap.size) := by
  obtain ⟨i, z, hi, hz, hsz, hby, hzs⟩ := T.info
  rcases hs.2 with h0 | ⟨g, o, e', cs, rfl, hr, hc⟩
  · omega
  have hA := hs.1
  obtain ⟨v', w', hr', ho, hg, _, hw⟩ := run_append_own_at w base t ty e i z 1 by_ T.und hi hz hsz hby hzs T.pos (.slice b l c) l xs h ⟨g, o, none⟩ sl sc (A.map (Value.int .i64)) (by simp [hA])
    (fun j u hu => by
      have hj : j < sl := by have := (List.getElem?_eq_some_iff.1 hu).1; simpa [hA] using this
      rw [add_mk, hr.cell, hc j hj, ← List.getElem?_map]; exact hu) (fun u hu => by obtain ⟨x, _, rfl⟩ := List.mem_map.1 hu; rfl) (by unfold maxLen; omega) hn hb
  have hv : ∃ b' c', v' = .slice b' (l + sl) c' := by
    rcases ho.2 with ⟨hv, hn⟩ | ⟨g, cap, cur, hv, _⟩
    · omega
    · exact ⟨_, _, hv⟩
  obtain ⟨b', c', rfl⟩ := hv
  rw [ownBlock_bk, ownBlock_bk] at hw
  refine ⟨b', c', w', hr', ho, ⟨hg.os, hg.tape, hg.output, hg.size, fun k hk hS => hg.block k hk ?_⟩, hw⟩
  rw [ownBlock_bk]; exact fun e => hS e.symm
theorem c_SeqJoins {w : World} {n x y : Int} {sb : Option Addr} {sl sc : Nat} {f : Nat → Nat → Int} (hg : LaidG w) (hf : CA w sb sl 4 f) :
    Calls Pg fn_plaitlaw04_SeqJoins #[.int .i64 n, .slice sb sl sc, .agg #[.int .i64 x, .int .i64 y]] w fun e w' => e = .returned (.bool true) ∧ Chg Nobody w w' := by
  refine (calls_plaitlaw04_SeqJoins _ _ _ _ _ _ _ (fun v' w' => v' = .bool true ∧ Chg Nobody w w') ?_).mono (by rintro e w' ⟨v, rfl, rfl, k⟩; exact ⟨rfl, k⟩)
  unfold sh_plaitlaw04_SeqJoins
  refine alo_r fun hrow => ⟨by decide, ?_⟩
  have hch : Chg Nobody w (w.alloc (.cells #[.int .i64 x, .int .i64 y] T__2int)) := (Chg.refl _ _).alloc _
  have hg1 := hg.alloc (.cells #[.int .i64 x, .int .i64 y] T__2int)
  have hf1 := hf.nob hch
  generalize w.heap.size = W0 at *
  generalize w.alloc (.cells #[.int .i64 x, .int .i64 y] T__2int) = w1 at *
  obtain ⟨m, hm0, hm1, he⟩ := size_ex n 2 20 (by omega) (by omega) (by omega)
  rw [he]
  refine (c_built (by omega) (by omega) hf1).mono ?_
  rintro e w7 ⟨F, L, v, q, rfl, hs, hv⟩
  refine ⟨_, rfl, bif_i (fun h => by cases h) (fun _ => ?_)⟩
  have hs := hs.drew
  have hr := hs.c.row (fun h => h) hrow
  refine ixA_i (i := 0) (by omega) ?_
  refine ldI_r hr rfl ?_
  obtain ⟨hz, a, ham, hae⟩ := idx_ex x (show 0 < m by omega) (by omega)
  refine ⟨hz, ?_⟩
  refine ixA_i (i := 1) (by omega) ?_
  refine ldI_r hr rfl ?_
  obtain ⟨hz, b, hbm, hbe⟩ := idx_ex y (show 0 < m by omega) (by omega)
  refine ⟨hz, ?_⟩
  rw [hae, hbe]
  rcases hs.a.find2 ham hbm with ⟨A, q', hp, hA, hB⟩ | ⟨A, B, q', hp, hA, hB, hbA⟩
  · have hs := hs.perm hp
    have hAn : A.length ≤ m := by
      obtain ⟨hnd, hlt, _⟩ := hs.a.nodup
      exact nodup_len (by simp only [List.flatten_cons, List.nodup_append] at hnd; exact hnd.1) (fun y hy => hlt A (by simp) y hy)
    refine (op_List hs hA).mono ?_
    rintro e w15 ⟨xb, xc, rfl, hx, hxL, hs, _⟩
    refine ⟨_, _, _, _, rfl, ?_⟩
    refine (op_List hs hB).mono ?_
    rintro e w19 ⟨yb, yc, rfl, hy, hyL, hs, has⟩
    replace hx := hx.as hxL has
    refine ⟨_, _, _, _, rfl, ?_⟩
    refine (c_Sum hs.a hA).mono ?_
    rintro e w23 ⟨rfl, has⟩
    replace hs := hs.step has
    replace hx := hx.as hxL has
    replace hy := hy.as hyL has
    refine ⟨_, _, rfl, ?_⟩
    refine (c_Sum hs.a hB).mono ?_
    rintro e w27 ⟨rfl, has⟩
    replace hs := hs.step has
    replace hx := hx.as hxL has
    replace hy := hy.as hyL has
    refine ⟨_, _, rfl, ?_⟩
    refine (c_Same_yes hs.a hA hB).mono ?_
    rintro e w31 ⟨rfl, has⟩
    replace hs := hs.step has
    replace hx := hx.as hxL has
    replace hy := hy.as hyL has
    refine ⟨_, _, rfl, fun _ w' => w' = w31, ?_, ?_⟩
    · exact err_i (fun e => absurd rfl e) (fun _ => err_i (fun e => absurd rfl e) (fun _ => err_i (fun e => absurd rfl e) (fun _ => err_i (fun e => absurd rfl e) (fun _ => err_i (fun e => absurd rfl e) (fun _ => rfl)))))
    rintro _ w34 rfl
    refine bif_i (fun _ => ?_) (fun h => by cases h)
    refine ⟨fun vs w' => vs = [.bool true] ∧ Chg Nobody w1 w', ?_, ?_⟩
    · refine (c_Join_no hs.a hA hB).mono ?_
      rintro e w37 ⟨rfl, has⟩
      replace hs := hs.step has
      replace hx := hx.as hxL has
      replace hy := hy.as hyL has
      refine ⟨_, rfl, ?_⟩
      refine (c_num (hs.g hg1)).mono ?_
      rintro e w40 ⟨rfl, hc⟩
      replace hs := hs.nob hc
      replace hx := hx.nob hc
      replace hy := hy.nob hc
      refine ⟨_, rfl, bif_i (fun _ => ?_) (fun h => absurd h (by decide))⟩
      refine (c_ints hx hy (by omega)).mono ?_
      rintro e w43 ⟨rfl, hc⟩
      replace hs := hs.nob hc
      refine ⟨_, rfl, ?_⟩
      rw [decide_eq_true rfl]
      refine bif_i (fun _ => bif_i (fun _ => ?_) (fun h => ?_)) (fun h => by cases h)
      · refine (l_sure hg1 hs.c).mono ?_
        rintro e w46 ⟨rfl, hc⟩
        exact ⟨_, rfl, rfl, hc⟩
      · simp only [bne_iff_ne, ne_eq, bne_eq_false_iff_eq, Bool.not_eq_true, beq_iff_eq, beq_eq_false_iff_ne, decide_eq_true_eq, decide_eq_false_iff_not, Bool.not_eq_true', Bool.not_eq_false'] at h; exact absurd trivial h
    · rintro _ b49 w49 ⟨hb, hc⟩
      simp only [List.cons.injEq, Value.bool.injEq, and_true] at hb
      subst hb
      exact ⟨rfl, hch.trans hc⟩
  · have hs := hs.perm hp
    have swap : ∀ {w' v}, LS w1 w' F L m v (A :: B :: q') → LS w1 w' F L m v (B :: A :: q') := fun h => h.perm (List.Perm.swap _ _ _)
    have swap' : ∀ {w' v}, LS w1 w' F L m v (B :: A :: q') → LS w1 w' F L m v (A :: B :: q') := fun h => h.perm (List.Perm.swap _ _ _)
    have hABn : (A ++ B).length ≤ m := by
      obtain ⟨hnd, hlt, _⟩ := hs.a.nodup
      refine nodup_len (n := m) ?_ (fun y hy => ?_)
      · simp only [List.flatten_cons, ← List.append_assoc] at hnd
        exact (List.nodup_append.1 hnd).1
      · rcases List.mem_append.1 hy with h | h
        · exact hlt A (by simp) y h
        · exact hlt B (by simp) y h
    have hA0 : 0 < A.length := List.length_pos_of_mem hA
    have hB0 : 0 < B.length := List.length_pos_of_mem hB
    have hAB : A.length + B.length ≤ m := by simpa using hABn
    refine (op_List hs hA).mono ?_
    rintro e w15 ⟨xb, xc, rfl, hx, hxL, hs, _⟩
    refine ⟨_, _, _, _, rfl, ?_⟩
    refine (op_List (swap hs) hB).mono ?_
    rintro e w19 ⟨yb, yc, rfl, hy, hyL, hs, has⟩
    replace hx := hx.as hxL has
    replace hs := swap' hs
    refine ⟨_, _, _, _, rfl, ?_⟩
    refine (c_Sum hs.a hA).mono ?_
    rintro e w23 ⟨rfl, has⟩
    replace hs := hs.step has
    replace hx := hx.as hxL has
    replace hy := hy.as hyL has
    refine ⟨_, _, rfl, ?_⟩
    refine (c_Sum (swap hs).a hB).mono ?_
    rintro e w27 ⟨rfl, has⟩
    replace hs := swap' ((swap hs).step has)
    replace hx := hx.as hxL has
    replace hy := hy.as hyL has
    refine ⟨_, _, rfl, ?_⟩
    refine (c_Same_no hs.a hA hB).mono ?_
    rintro e w31 ⟨rfl, has⟩
    replace hs := hs.step has
    replace hx := hx.as hxL has
    replace hy := hy.as hyL has
    refine ⟨_, _, rfl, fun _ w' => w' = w31, ?_, ?_⟩
    · exact err_i (fun e => absurd rfl e) (fun _ => err_i (fun e => absurd rfl e) (fun _ => err_i (fun e => absurd rfl e) (fun _ => err_i (fun e => absurd rfl e) (fun _ => err_i (fun e => absurd rfl e) (fun _ => rfl)))))
    rintro _ w34 rfl
    refine bif_i (fun h => by cases h) (fun _ => ?_)
    refine (c_Join hs.a hA hB).mono ?_
    rintro e w51 ⟨rfl, has⟩
    replace hs := hs.step has
    replace hx := hx.as hxL has
    replace hy := hy.as hyL has
    refine ⟨_, rfl, err_i (fun e => absurd rfl e) (fun _ => ?_)⟩
    refine (op_List hs (x := b) (by simp [hB])).mono ?_
    rintro e w55 ⟨zb, zc, rfl, hz, hzL, hs, has⟩
    replace hx := hx.as hxL has
    replace hy := hy.as hyL has
    refine ⟨_, _, _, _, rfl, ?_⟩
    refine (c_Sum hs.a (x := a) (by simp [hA])).mono ?_
    rintro e w59 ⟨rfl, has⟩
    replace hs := hs.step has
    replace hx := hx.as hxL has
    replace hy := hy.as hyL has
    replace hz := hz.as hzL has
    refine ⟨_, _, rfl, ?_⟩
    refine (c_Size hs.a (x := b) (by simp [hB])).mono ?_
    rintro e w63 ⟨rfl, has⟩
    replace hs := hs.step has
    replace hx := hx.as hxL has
    replace hy := hy.as hyL has
    replace hz := hz.as hzL has
    refine ⟨_, _, rfl, ?_⟩
    obtain ⟨b1, c1, w66, hr1, ho1, hc1, hw1⟩ := own_appendN (sc := xc) (ty := T_sl_int) (base := w63.heap.size) ET_int Own.nil hx hA0 (Nat.le_refl _) (by omega) (by omega)
    have hc1' : Chg Nobody w63 w66 := hc1.mono (fun k _ h => by simp [bk] at h)
    replace hy := hy.nob hc1'
    refine ⟨_, _, _, w66, hr1, ?_⟩
    obtain ⟨b2, c2, w68, hr2, ho2, hc2, hw2⟩ := own_appendN (sc := yc) (ty := T_sl_int) ET_int ho1 hy hB0 hc1.size (by omega) (by omega)
    have hcc : Chg Nobody w63 w68 := hc1'.trans' hc2 (fun i hi => .inr (ho1.bk_lt hi).1)
    replace hs := hs.nob hcc
    replace hz := hz.nob hcc
    have hia : IA w68 b2 (0 + A.length + B.length) (ints (A ++ B)) := IA.of_own ho2 (by simp [ints])
    refine ⟨_, _, _, w68, hr2, errV_isI _, bif_i (fun _ => ?_) (fun h => absurd h (by decide))⟩
    refine ⟨errV_isI _, bif_i (fun _ => ?_) (fun h => absurd h (by decide))⟩
    refine ⟨errV_isI _, bif_i (fun _ => ?_) (fun h => absurd h (by decide))⟩
    refine (c_ints hz hia (by omega)).mono ?_
    rintro e w70 ⟨rfl, hc⟩
    replace hs := hs.nob hc
    refine ⟨_, rfl, ?_⟩
    rw [decide_eq_true rfl]
    refine bif_i (fun _ => bif_i (fun _ => bif_i (fun _ => ?_) (fun h => ?_)) (fun h => ?_)) (fun h => by cases h)
    · refine (l_sure hg1 hs.c).mono ?_
      rintro e w46 ⟨rfl, hc⟩
      exact ⟨_, rfl, rfl, hch.trans hc⟩
    · simp only [bne_iff_ne, ne_eq, bne_eq_false_iff_eq, Bool.not_eq_true, beq_iff_eq, beq_eq_false_iff_ne, decide_eq_true_eq, decide_eq_false_iff_not, Bool.not_eq_true', Bool.not_eq_false'] at h
      refine absurd ?_ h
      rw [wrap64_in (by omega) (by omega)]; simp
    · simp only [bne_iff_ne, ne_eq, bne_eq_false_iff_eq, Bool.not_eq_true, beq_iff_eq, beq_eq_false_iff_ne, decide_eq_true_eq, decide_eq_false_iff_not, Bool.not_eq_true', Bool.not_eq_false'] at h
      refine absurd ?_ h
      rw [vsum_append]
      show IntKind.i64.wrap _ = IntKind.i64.wrap (IntKind.i64.wrap _ + IntKind.i64.wrap _)
      simp only [IntKind.wrap_i64]
      omega
end Seq
end Go.Proofs.YtfhdnmeciohmlaaDoor
