/-
The law RingRuns' own helper: all that is told of an item's cycle.
Conditions: those that each theorem states.
-/
import Derived.Test.YtledchlbmilneaaDoorLawRef05b
import Derived.Test.YtledchlbmilneaaDoorGLawR
import Derived.Test.YtledchlbmilneaaDoorLawSeqRuns
namespace Go.Proofs.YtledchlbmilneaaDoor
open Go Go.RowKit
set_option linter.unusedVariables false
set_option linter.unusedSimpArgs false
namespace Seq
theorem LR.small {w₀ w : World} {R F L n : Nat} {v : Nat → Int} {X : List (List Nat)} (h : LR w₀ w R F L n v X) : Small n X := by
  obtain ⟨h1, h2, h3, _, h5, h6⟩ := h.a.a.nodup
  have hl : X.flatten.length ≤ n := nodup_len h1 (fun y hy => by obtain ⟨A, hA, hy⟩ := List.mem_flatten.1 hy; exact h2 A hA y hy)
  exact ⟨h1, h2, h3, Nat.le_trans (len_flat h3) hl, fun A hA => Nat.le_trans (mem_len hA) hl, h6, h5⟩
theorem rot_get {A : List Nat} {k t : Nat} (hk : k < A.length) (ht : t < A.length) : (A.drop k ++ A.take k)[t]? = if k + t < A.length then A[k + t]? else A[k + t - A.length]? := by
  by_cases h : k + t < A.length
  · rw [if_pos h, List.getElem?_append_left (by rw [List.length_drop]; omega), List.getElem?_drop]
  · rw [if_neg h, List.getElem?_append_right (by rw [List.length_drop]; omega), List.length_drop, List.getElem?_take, if_pos (by omega)]
    congr 1; omega
theorem rot_first {A : List Nat} {k : Nat} (hk : k < A.length) : (A.drop k ++ A.take k)[1 % A.length]? = A[if k + 1 = A.length then 0 else k + 1]? := by
  by_cases h1 : A.length = 1
  · rw [h1, show 1 % 1 = 0 from rfl, rot_get hk (by omega), if_pos (by omega), if_pos (by omega)]; congr 1; omega
  · rw [Nat.mod_eq_of_lt (by omega), rot_get hk (by omega)]
    by_cases h : k + 1 = A.length
    · rw [if_neg (by omega), if_pos h]; congr 1; omega
    · rw [if_pos (by omega), if_neg h]
theorem rot_last {A : List Nat} {k : Nat} (hk : k < A.length) : (A.drop k ++ A.take k)[A.length - 1]? = A[if k = 0 then A.length - 1 else k - 1]? := by
  rw [rot_get hk (by omega)]
  by_cases h : k = 0
  · rw [if_pos (by omega), if_pos h]; congr 1; omega
  · rw [if_neg (by omega), if_neg h]; congr 1; omega
theorem c_told05 {w₀ w : World} {R F L m l c x : Nat} {v : Nat → Int} {X : List (List Nat)} {bad : Nat → Prop} {b : Option Addr} (hs : LR w₀ w R F L m v X) (h : RF w bad b l X) (hbL : bad L) (hx : x < m) :
    Calls Pg fn_plaitlaw05_told #[.pointer (some ⟨R, 0, none⟩), .slice b l c, .int .i64 x] w fun e w' => e = .returned (.bool true) ∧ LR w₀ w' R F L m v X ∧ Chg (· = L) w w' := by
  refine (calls_plaitlaw05_told _ _ _ _ _ _ (fun v' w' => v' = .bool true ∧ LR w₀ w' R F L m v X ∧ Chg (· = L) w w') ?_).mono (by rintro e w' ⟨v, rfl, rfl, k⟩; exact ⟨rfl, k⟩)
  unfold sh_plaitlaw05_told
  have hS := hs.small
  have hm := hS.m
  have hl : l ≤ m := by rw [← h.1]; exact hS.len
  obtain ⟨A, hAX, hxA⟩ := hS.all x hx
  obtain ⟨i, hA⟩ := List.getElem?_of_mem hAX
  obtain ⟨k0, hx0⟩ := List.getElem?_of_mem hxA
  have hAm := hS.each A hAX
  have hAl : ∀ B ∈ X, B.length ≤ 10000000 := fun B hB => by have := hS.each B hB; omega
  have hk0 : k0 < A.length := (List.getElem?_eq_some_iff.1 hx0).1
  obtain ⟨Y, hp⟩ := perm_idx hA
  refine (c_rFind h hS.nd hA hx0 (by omega) (fun B hB => by have := hS.each B hB; omega)).mono ?_
  rintro e w5 ⟨rfl, hc⟩
  refine ⟨_, _, rfl, ?_⟩
  replace h := h.nob hc
  replace hs := (hs.nob hc).perm hp
  have hch : Chg (· = L) w w5 := hc.weak
  clear hc
  have hLs := hs.a.a.lt
  refine (c_rWalk05 (c := c) h hS.nd hA hx0 (by omega) hAl).mono ?_
  rintro e w8 ⟨wb, wc, rfl, hwi, hwB, hc⟩
  replace h := h.nob hc
  replace hs := hs.nob hc
  replace hch := hch.trans hc.weak
  have hwL : ∀ g, bk wb = some g → g ≠ L := fun g hg => by have := hwB g hg; omega
  refine ⟨_, _, _, rfl, ?_⟩
  obtain ⟨hsplit, hdr⟩ := split_at hx0
  have hwalk := op_Walk (w₀ := w₀) (w := w8) (R := R) (F := F) (L := L) (n := m) (v := v) (x := x) (pre := A.take k0) (post := A.drop (k0 + 1)) (q := Y) (by rw [← hsplit]; exact hs)
  rw [← hsplit, ← hdr] at hwalk
  refine hwalk.mono ?_
  rintro e w12 ⟨ob, oc, rfl, hoi, hoB, _, hs, hrs⟩
  have hLs8 := hs.a.a.lt
  have hoL : ∀ g, bk ob = some g → g ≠ L := fun g hg e => by have h1 := hoB g hg; have h2 := hc.size; omega
  replace hwi := hwi.rs hwL hrs
  replace hch := hch.trans hrs.chg
  have hbL' : ∀ i, i = L → bad i := fun i e => by rw [e]; exact hbL
  replace h := h.keep hrs.chg hbL'
  refine ⟨_, _, _, _, rfl, ?_⟩
  obtain ⟨y1, hy1⟩ : ∃ y1, A[if k0 + 1 = A.length then 0 else k0 + 1]? = some y1 := ⟨_, List.getElem?_eq_getElem (by split <;> omega)⟩
  obtain ⟨y2, hy2⟩ : ∃ y2, A[if k0 = 0 then A.length - 1 else k0 - 1]? = some y2 := ⟨_, List.getElem?_eq_getElem (by split <;> omega)⟩
  have step : ∀ {w' w'' : World}, RS w' w'' R F L m v (A :: Y) → (LR w₀ w' R F L m v (A :: Y) ∧ IA w' wb A.length (ints (A.drop k0 ++ A.take k0)) ∧ IA w' ob A.length (ints (A.drop k0 ++ A.take k0)) ∧ RF w' bad b l X ∧ Chg (· = L) w w') →
      (LR w₀ w'' R F L m v (A :: Y) ∧ IA w'' wb A.length (ints (A.drop k0 ++ A.take k0)) ∧ IA w'' ob A.length (ints (A.drop k0 ++ A.take k0)) ∧ RF w'' bad b l X ∧ Chg (· = L) w w'') := fun hrs h => ⟨h.1.step hrs, h.2.1.rs hwL hrs, h.2.2.1.rs hoL hrs, h.2.2.2.1.keep hrs.chg hbL', h.2.2.2.2.trans hrs.chg⟩
  have hall : LR w₀ w12 R F L m v (A :: Y) ∧ IA w12 wb A.length (ints (A.drop k0 ++ A.take k0)) ∧ IA w12 ob A.length (ints (A.drop k0 ++ A.take k0)) ∧ RF w12 bad b l X ∧ Chg (· = L) w w12 := ⟨hs, hwi, hoi, h, hch⟩
  clear hs hwi hoi h hch hrs hc
  refine (rg_Next (i := k0) (y := y1) hall.1.a hx0 rfl hy1).mono ?_
  rintro e w16 ⟨rfl, hrs⟩
  replace hall := step hrs hall
  refine ⟨_, _, rfl, ?_⟩
  refine (rg_Prev (i := k0) (y := y2) hall.1.a hx0 (by split <;> split <;> omega) hy2).mono ?_
  rintro e w20 ⟨rfl, hrs⟩
  replace hall := step hrs hall
  refine ⟨_, _, rfl, ?_⟩
  refine (rg_Len hall.1.a hxA).mono ?_
  rintro e w24 ⟨rfl, hrs⟩
  replace hall := step hrs hall
  refine ⟨_, _, rfl, ?_⟩
  obtain ⟨y0, A', hA0⟩ : ∃ y0 A', A = y0 :: A' := by
    cases A with
    | nil => simp at hk0
    | cons y A => exact ⟨y, A, rfl⟩
  have hfr := rg_Front (w := w24) (R := R) (F := F) (L := L) (n := m) (v := v) (q := Y) (x := x) (y := y0) (A' := A') (by rw [← hA0]; exact hall.1.a) (by rw [← hA0]; exact hxA)
  rw [← hA0] at hfr
  refine hfr.mono ?_
  rintro e w28 ⟨rfl, hrs⟩
  obtain ⟨hs, hwi, hoi, h, hch⟩ := step hrs hall
  refine ⟨_, _, rfl, ?_⟩
  refine ⟨errV_isI _, bif_i (fun _ => ⟨errV_isI _, bif_i (fun _ => ⟨errV_isI _, bif_i (fun _ => ⟨errV_isI _, bif_i (fun _ => ⟨errV_isI _, bif_i (fun _ => ?_) (fun h => absurd h (by decide))⟩) (fun h => absurd h (by decide))⟩) (fun h => absurd h (by decide))⟩) (fun h => absurd h (by decide))⟩) (fun h => absurd h (by decide))⟩
  refine (c_ints05 hoi hwi (by omega)).mono ?_
  rintro e w31 ⟨rfl, hc⟩
  replace hwi := hwi.nob hc
  replace h := h.nob hc
  refine ⟨_, rfl, bif_i (fun _ => ?_) (fun h => by simp at h)⟩
  have e1 : Int.tmod (1 : Int) (A.length : Int) = ((1 % A.length : Nat) : Int) := by
    rw [Int.tmod_eq_emod_of_nonneg (by omega)]; rfl
  rw [e1, wrap64_in (x := (A.length : Int) - 1) (by omega) (by omega), show (A.length : Int) - 1 = ((A.length - 1 : Nat) : Int) by omega]
  refine ⟨by omega, hwi.rd (x := (y1 : Int)) (by rw [List.getElem?_map, rot_first hk0, hy1]; rfl) ?_⟩
  refine bif_i (fun _ => ?_) (fun h => by simp at h)
  refine hwi.rd (x := (y2 : Int)) (by rw [List.getElem?_map, rot_last hk0, hy2]; rfl) ?_
  refine bif_i (fun _ => ?_) (fun h => by simp at h)
  refine bif_i (fun _ => ?_) (fun h => by simp at h)
  refine h.rd hA fun eb ec hia hok hle => ?_
  refine hia.rd (i := 0) (x := (y0 : Int)) (by rw [List.getElem?_map, hA0]; rfl) ?_
  exact ⟨by simp, (hs.nob hc).perm hp.symm, hch.trans hc.weak⟩
end Seq
end Go.Proofs.YtledchlbmilneaaDoor
