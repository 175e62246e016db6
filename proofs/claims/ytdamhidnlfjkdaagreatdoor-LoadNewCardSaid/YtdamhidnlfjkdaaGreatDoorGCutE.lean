/-
The calls of layer 6 that tell of a road: how many nodes, their sum, the first of the least and of the greatest.
Conditions: those that each theorem states.
-/
import Derived.Test.YtdamhidnlfjkdaaGreatDoorGCutD
import Derived.Test.YtdamhidnlfjkdaaGreatDoorGNew
namespace Go.Proofs.YtdamhidnlfjkdaaGreatDoor
open Go Go.RowKit
set_option linter.unusedVariables false
set_option linter.unusedSimpArgs false
namespace Cut
open Go.Proofs.YtdamhidnlfjkdaaGreatDoor.Seq
section
variable {w₀ w w' : World} {F L n : Nat} {s : S} {v : Nat → Int} {pa : Nat → Int} {t : T} {ps ps' : List (T × Int)} {a b : Nat} {q : Int} {E E' : Nat → Nat → Prop} {l : List Nat}
/-- The road from a to b is the part with b at its top. -/
def Rd (w w' : World) (F L n : Nat) (v : Nat → Int) (E : Nat → Nat → Prop) (b : Nat) (l : List Nat) : Prop := ∃ s pa u ps, St w w' F L n s ∧ Lc n s v pa ((.node u b false .nil, -1) :: ps) ∧ (∀ z, n ≤ z → pa z = -1) ∧ (∀ x y, Ed pa x y ↔ E x y) ∧ l = u.seq ++ [b]
theorem Rd.ce (h : Rd w w' F L n v E b l) : CE w w' F L n v E := by obtain ⟨s, pa, u, ps, hst, k, hz, he, _⟩ := h; exact CE.of hst k hz he
theorem Rd.top (h : Rd w w' F L n v E b l) : ∃ s pa u ps, St w w' F L n s ∧ Lc n s v pa ((.node u b false .nil, -1) :: ps) ∧ (∀ z, n ≤ z → pa z = -1) ∧ (∀ x y, Ed pa x y ↔ E x y) ∧ (T.node u b false .nil).seq = l ∧ Agg s v b l ∧ l.length ≤ n := by
  obtain ⟨s, pa, u, ps, hst, k, hz, he, hl⟩ := h
  have hs : (T.node u b false .nil).seq = l := by rw [hl]; simp [T.seq]
  have hp := (T.node u b false .nil).seq_perm
  rw [hs] at hp
  refine ⟨s, pa, u, ps, hst, k, hz, he, hs, (k.head.1.1.agg).perm (by simpa [T.ls] using hp.symm), ?_⟩
  rw [hp.length_eq]
  exact nodup_len k.nd (fun y hy => k.lt (p := (.node u b false .nil, -1)) (by simp) hy)
/-! ## The first one that has a value -/
end
end Cut
end Go.Proofs.YtdamhidnlfjkdaaGreatDoor
/-
The call of layer 6 that lists a road.
Conditions: those that each theorem states.
-/
namespace Go.Proofs.YtdamhidnlfjkdaaGreatDoor
open Go Go.RowKit
set_option linter.unusedVariables false
set_option linter.unusedSimpArgs false
namespace Cut
open Go.Proofs.YtdamhidnlfjkdaaGreatDoor.Seq
section
variable {w : World} {F L n : Nat} {v : Nat → Int} {a b : Nat} {E : Nat → Nat → Prop} {A : List Nat}
end
end Cut
end Go.Proofs.YtdamhidnlfjkdaaGreatDoor
/-
Making trees of layer 6; trees that are none.
Conditions: those that each theorem states.
-/
namespace Go.Proofs.YtdamhidnlfjkdaaGreatDoor
open Go Go.RowKit
set_option linter.unusedVariables false
set_option linter.unusedSimpArgs false
namespace Cut
open Go.Proofs.YtdamhidnlfjkdaaGreatDoor.Seq
theorem lc_new {n : Nat} (hn : n ≤ 8388608) : Lc n (mkS' n) (fun _ => 0) (fun _ => -1) ((List.range n).map fun x => (.node .nil x false .nil, -1)) := by
  have hf := fo_new hn
  refine ⟨hf.vr, ?_, ?_, hn, ⟨fun x hx => ⟨by omega, by omega⟩, fun x hx => ⟨x, .root rfl⟩⟩⟩
  · intro p hp
    obtain ⟨x, hx, rfl⟩ := List.mem_map.1 hp
    have h1 := hf.rep (.node .nil x false .nil) (List.mem_map.2 ⟨x, hx, rfl⟩)
    refine ⟨h1.1, h1.2, ?_, by simp, by simp only []; omega⟩
    simp [T.seq, Ch]
  · have : ∀ l : List Nat, ((l.map fun x => ((T.node .nil x false .nil, -1) : T × Int)).flatMap fun p => p.1.ls) = l := by
      intro l; induction l with
      | nil => rfl
      | cons x l ih => rw [List.map_cons, List.flatMap_cons, ih]; rfl
    rw [this]
theorem c_New {w : World} {n : Nat} (h1 : 1 ≤ n) (hn : n ≤ 8388608) :
    Calls Pg fn_cut_New #[.int .i64 n] w fun e w' => ∃ F L, e = .returned (.tuple #[.pointer (some ⟨F, 0, none⟩), errV 0]) ∧ Chg Nobody w w' ∧ w.heap.size ≤ F ∧ w.heap.size ≤ L ∧ AE w'.heap F L n (fun _ => 0) (fun _ _ => False) := by
  refine (calls_cut_New _ _ (fun v' w' => ∃ F L, v' = .tuple #[.pointer (some ⟨F, 0, none⟩), errV 0] ∧ Chg Nobody w w' ∧ w.heap.size ≤ F ∧ w.heap.size ≤ L ∧ AE w'.heap F L n (fun _ => 0) (fun _ _ => False)) ?_).mono (by rintro e w' ⟨v, rfl, F, L, rfl, k⟩; exact ⟨F, L, rfl, k⟩)
  unfold sh_cut_New
  refine ⟨fun _ w' => w' = w, ?_, ?_⟩
  · refine bif_i (fun h1 => ?_) (fun h1 => ?_) <;> simp only [b1s] at h1
    · omega
    · refine bif_i (fun h2 => ?_) (fun h2 => ?_) <;> simp only [b1s] at h2
      · omega
      · rfl
  rintro _ w2 rfl
  have hnn : Int.toNat (n : Int) = n := by omega
  refine ⟨by omega, by omega, by omega, ?_⟩
  rw [hnn]
  refine alo_r fun hL => alo_r fun hF => ?_
  have hL := hL.alloc (.cells #[.slice (some ⟨w2.heap.size, 0, none⟩) n n] T_cut_Forest)
  rw [zerosOf_recs] at hL
  have hch : Chg Nobody w2 ((w2.alloc (.cells (zerosOf #[.int .i32 0, .int .i32 0, .int .i32 0, .bool false, .int .i32 0, .int .i64 0, .int .i64 0, .int .i64 0, .int .i64 0] n) T_cut_node)).alloc (.cells #[.slice (some ⟨w2.heap.size, 0, none⟩) n n] T_cut_Forest)) := ((Chg.refl _ _).alloc _).alloc _
  have hs1 : (w2.alloc (.cells (zerosOf #[.int .i32 0, .int .i32 0, .int .i32 0, .bool false, .int .i32 0, .int .i64 0, .int .i64 0, .int .i64 0, .int .i64 0] n) T_cut_node)).heap.size = w2.heap.size + 1 := by show (w2.heap.push _).size = _; simp
  rw [hs1] at hF ⊢
  generalize (w2.alloc (.cells (zerosOf #[.int .i32 0, .int .i32 0, .int .i32 0, .bool false, .int .i32 0, .int .i64 0, .int .i64 0, .int .i64 0, .int .i64 0] n) T_cut_node)).alloc (.cells #[.slice (some ⟨w2.heap.size, 0, none⟩) n n] T_cut_Forest) = w6 at *
  have hF0 : w2.heap.size + 1 < w6.heap.size := hF.lt
  have hi : IsF w6.heap (w2.heap.size + 1) w2.heap.size n (mkS' 0) := ⟨hF, by
    have : encS (mkS' 0) = fun _ => [.int .i32 0, .int .i32 0, .int .i32 0, .bool false, .int .i32 0, .int .i64 0, .int .i64 0, .int .i64 0, .int .i64 0] := by
      funext i; simp [encS, mkS']
    rw [this]; exact hL, by omega⟩
  generalize hFF : w2.heap.size + 1 = F at *
  generalize hLL : w2.heap.size = L at *
  have hst := St.start hi
  repeat (first | with_reducible refine ixA_0 ?_ | with_reducible refine ixA_1 ?_ | with_reducible refine gR (k := ?_) | first | with_reducible refine pt_i ?_ | with_reducible refine gF (k := ?_) | with_reducible refine ixS_F (by omega) (by omega) ?_ | with_reducible refine g0 (k := ?_) | with_reducible refine g1 (k := ?_) | with_reducible refine g2 (k := ?_) | with_reducible refine g3 (k := ?_) | with_reducible refine g4 (k := ?_) | with_reducible refine g5 (k := ?_) | with_reducible refine g6 (k := ?_) | with_reducible refine g7 (k := ?_) | with_reducible refine g8 (k := ?_) | with_reducible refine s0 (k := fun _ hst => ?_) | with_reducible refine s1 (k := fun _ hst => ?_) | with_reducible refine s2 (k := fun _ hst => ?_) | with_reducible refine s3 (k := fun _ hst => ?_) | with_reducible refine s4 (k := fun _ hst => ?_) | with_reducible refine s5 (k := fun _ hst => ?_) | with_reducible refine s6 (k := fun _ hst => ?_) | with_reducible refine s7 (k := fun _ hst => ?_) | with_reducible refine s8 (k := fun _ hst => ?_) | simp only [projS, upd_same])
  let J : Nat → List Value → World → Prop := fun j vs w' => ∃ i : Nat, vs = [.int .i64 i] ∧ i ≤ n ∧ St w6 w' F L n (mkS' i) ∧ j = n - i
  refine ⟨LI J, LM J, ⟨_, 0, rfl, by omega, hst, rfl⟩, ?_⟩
  intro _ i w11 hJ
  obtain ⟨i, hvs, hin, hst, hj⟩ := hJ.at
  simp only [List.cons.injEq, Value.int.injEq, and_true, true_and] at hvs
  subst hvs
  refine bif_i (fun hc => ?_) (fun hc => ?_) <;> simp only [b1s] at hc
  · have hii : (i : Int).toNat = i := by omega
    repeat (first | with_reducible refine ixA_0 ?_ | with_reducible refine ixA_1 ?_ | with_reducible refine gR (k := ?_) | first | with_reducible refine pt_i ?_ | with_reducible refine gF (k := ?_) | with_reducible refine ixS_F (by omega) (by omega) ?_ | with_reducible refine g0 (k := ?_) | with_reducible refine g1 (k := ?_) | with_reducible refine g2 (k := ?_) | with_reducible refine g3 (k := ?_) | with_reducible refine g4 (k := ?_) | with_reducible refine g5 (k := ?_) | with_reducible refine g6 (k := ?_) | with_reducible refine g7 (k := ?_) | with_reducible refine g8 (k := ?_) | with_reducible refine s0 (k := fun _ hst => ?_) | with_reducible refine s1 (k := fun _ hst => ?_) | with_reducible refine s2 (k := fun _ hst => ?_) | with_reducible refine s3 (k := fun _ hst => ?_) | with_reducible refine s4 (k := fun _ hst => ?_) | with_reducible refine s5 (k := fun _ hst => ?_) | with_reducible refine s6 (k := fun _ hst => ?_) | with_reducible refine s7 (k := fun _ hst => ?_) | with_reducible refine s8 (k := fun _ hst => ?_) | simp only [projS, upd_same])
    rw [wrap64_in (by omega) (by omega)]
    refine LI.again (k := n - (i + 1)) ⟨i + 1, rfl, by omega, ?_, rfl⟩ (by rw [hj]; omega)
    rw [hii] at hst
    have e : mkS' (i + 1) = ((((((((((mkS' i).w_up i (-1)).w_left i (-1)).w_right i (-1)).w_turned i false).w_size i 1).w_value i 0).w_sum i 0).w_least i 0).w_most i 0) := by
      unfold mkS' S.w_up S.w_left S.w_right S.w_turned S.w_size S.w_value S.w_sum S.w_least S.w_most
      simp only [upd_lt, upd_all]
    rw [e]
    exact hst
  · have hin : i = n := by omega
    subst hin
    refine ⟨F, L, rfl, hch.trans' hst.c (fun k hk => .inr (by omega)), by omega, by omega, _, _, _, hst.i, lc_new hn, fun _ _ => rfl, fun x y => ⟨fun h => by rcases h with (h : (-1 : Int) = y) | (h : (-1 : Int) = x) <;> omega, fun h => h.elim⟩⟩
end Cut
end Go.Proofs.YtdamhidnlfjkdaaGreatDoor
