/-
The exported calls of layer 4 of a forest that is none.
Conditions: none.
-/
import Derived.Test.YtledchlbmilneaaDoorSeqS
namespace Go.Proofs.YtledchlbmilneaaDoor
open Go
set_option linter.unusedVariables false
set_option linter.unusedSimpArgs false
namespace Seq
theorem c_Cut_nil {w : World} {x : Int} : Calls Pg fn_seq_Forest_Cut #[.pointer none, .int .i64 x] w fun e w' => e = .returned (.tuple #[.bool false, errV 1]) ∧ Chg Nobody w w' := by
  refine (calls_seq_Forest_Cut _ _ _ (fun v' w' => v' = .tuple #[.bool false, errV 1] ∧ Chg Nobody w w') ?_).mono (by rintro e w' ⟨v, rfl, rfl, k⟩; exact ⟨rfl, k⟩)
  unfold sh_seq_Forest_Cut
  refine alo_r fun hrow => ?_
  refine c_check_nil.mono ?_
  rintro e w5 ⟨rfl, rfl⟩
  exact ⟨_, rfl, err_i (fun _ => ⟨rfl, (Chg.refl _ _).alloc _⟩) (fun e => by omega)⟩
theorem c_Same_nil {w : World} {x y : Int} : Calls Pg fn_seq_Forest_Same #[.pointer none, .int .i64 x, .int .i64 y] w fun e w' => e = .returned (.tuple #[.bool false, errV 1]) ∧ Chg Nobody w w' := by
  refine (calls_seq_Forest_Same _ _ _ _ (fun v' w' => v' = .tuple #[.bool false, errV 1] ∧ Chg Nobody w w') ?_).mono (by rintro e w' ⟨v, rfl, rfl, k⟩; exact ⟨rfl, k⟩)
  unfold sh_seq_Forest_Same
  refine alo_r fun hrow => ?_
  refine c_check_nil.mono ?_
  rintro e w5 ⟨rfl, rfl⟩
  exact ⟨_, rfl, err_i (fun _ => ⟨rfl, (Chg.refl _ _).alloc _⟩) (fun e => by omega)⟩
theorem c_Join_nil {w : World} {x y : Int} : Calls Pg fn_seq_Forest_Join #[.pointer none, .int .i64 x, .int .i64 y] w fun e w' => e = .returned (errV 1) ∧ Chg Nobody w w' := by
  refine (calls_seq_Forest_Join _ _ _ _ (fun v' w' => v' = errV 1 ∧ Chg Nobody w w') ?_).mono (by rintro e w' ⟨v, rfl, rfl, k⟩; exact ⟨rfl, k⟩)
  unfold sh_seq_Forest_Join
  refine alo_r fun hrow => ?_
  refine c_check_nil.mono ?_
  rintro e w5 ⟨rfl, rfl⟩
  exact ⟨_, rfl, err_i (fun _ => ⟨rfl, (Chg.refl _ _).alloc _⟩) (fun e => by omega)⟩
theorem c_Reverse_nil {w : World} {x : Int} : Calls Pg fn_seq_Forest_Reverse #[.pointer none, .int .i64 x] w fun e w' => e = .returned (errV 1) ∧ Chg Nobody w w' := by
  refine (calls_seq_Forest_Reverse _ _ _ (fun v' w' => v' = errV 1 ∧ Chg Nobody w w') ?_).mono (by rintro e w' ⟨v, rfl, rfl, k⟩; exact ⟨rfl, k⟩)
  unfold sh_seq_Forest_Reverse
  refine alo_r fun hrow => ?_
  refine c_check_nil.mono ?_
  rintro e w5 ⟨rfl, rfl⟩
  exact ⟨_, rfl, err_i (fun _ => ⟨rfl, (Chg.refl _ _).alloc _⟩) (fun e => by omega)⟩
theorem c_Set_nil {w : World} {x z : Int} : Calls Pg fn_seq_Forest_Set #[.pointer none, .int .i64 x, .int .i64 z] w fun e w' => e = .returned (errV 1) ∧ Chg Nobody w w' := by
  refine (calls_seq_Forest_Set _ _ _ _ (fun v' w' => v' = errV 1 ∧ Chg Nobody w w') ?_).mono (by rintro e w' ⟨v, rfl, rfl, k⟩; exact ⟨rfl, k⟩)
  unfold sh_seq_Forest_Set
  refine alo_r fun hrow => ?_
  refine c_check_nil.mono ?_
  rintro e w5 ⟨rfl, rfl⟩
  exact ⟨_, rfl, err_i (fun _ => ⟨rfl, (Chg.refl _ _).alloc _⟩) (fun e => by omega)⟩
theorem c_top_nil {w : World} {x : Int} : Calls Pg fn_seq_Forest_top #[.pointer none, .int .i64 x] w fun e w' => e = .returned (.tuple #[.pointer none, errV 1]) ∧ Chg Nobody w w' := by
  refine (calls_seq_Forest_top _ _ _ (fun v' w' => v' = .tuple #[.pointer none, errV 1] ∧ Chg Nobody w w') ?_).mono (by rintro e w' ⟨v, rfl, rfl, k⟩; exact ⟨rfl, k⟩)
  unfold sh_seq_Forest_top
  refine alo_r fun hrow => ?_
  refine c_check_nil.mono ?_
  rintro e w5 ⟨rfl, rfl⟩
  exact ⟨_, rfl, err_i (fun _ => ⟨rfl, (Chg.refl _ _).alloc _⟩) (fun e => by omega)⟩
theorem c_List_nil {w : World} {x : Int} : Calls Pg fn_seq_Forest_List #[.pointer none, .int .i64 x] w fun e w' => e = .returned (.tuple #[.slice none 0 0, errV 1]) ∧ Chg Nobody w w' := by
  refine (calls_seq_Forest_List _ _ _ (fun v' w' => v' = .tuple #[.slice none 0 0, errV 1] ∧ Chg Nobody w w') ?_).mono (by rintro e w' ⟨v, rfl, rfl, k⟩; exact ⟨rfl, k⟩)
  unfold sh_seq_Forest_List
  refine c_top_nil.mono ?_
  rintro e w5 ⟨rfl, hc⟩
  exact ⟨_, _, rfl, err_i (fun _ => ⟨rfl, hc⟩) (fun e => by omega)⟩
theorem c_At_nil {w : World} {x i : Int} : Calls Pg fn_seq_Forest_At #[.pointer none, .int .i64 x, .int .i64 i] w fun e w' => e = .returned (.tuple #[.int .i64 0, errV 1]) ∧ Chg Nobody w w' := by
  refine (calls_seq_Forest_At _ _ _ _ (fun v' w' => v' = .tuple #[.int .i64 0, errV 1] ∧ Chg Nobody w w') ?_).mono (by rintro e w' ⟨v, rfl, rfl, k⟩; exact ⟨rfl, k⟩)
  unfold sh_seq_Forest_At
  refine alo_r fun hp => alo_r fun ha => ?_
  refine ldP_r (hp.alloc _) rfl ?_
  refine c_top_nil.mono ?_
  rintro e w5 ⟨rfl, hc⟩
  exact ⟨_, _, rfl, err_i (fun _ => ⟨rfl, (((Chg.refl _ w).alloc _).alloc _).trans hc⟩) (fun e => by omega)⟩
end Seq
end Go.Proofs.YtledchlbmilneaaDoor
