/-
A web that is none.
Conditions: those that each theorem states.
-/
import Derived.Test.YtaoemljoiahapaaDoorGWeb
namespace Go.Proofs.YtaoemljoiahapaaDoor
open Go Go.RowKit
set_option linter.unusedVariables false
set_option linter.unusedSimpArgs false
namespace Web
open Go.Proofs.YtaoemljoiahapaaDoor.Seq Go.Proofs.YtaoemljoiahapaaDoor.Cut
section
variable {w : World} {a b e k : Int}
theorem w_faces_nil : Calls Pg fn_web_Web_faces #[.pointer none] w fun e w' => e = .returned (.pointer none) ∧ w' = w := by
  refine (calls_web_Web_faces _ _ (fun v' w' => v' = .pointer none ∧ w' = w) ?_).mono (by rintro e w' ⟨v, rfl, rfl, k⟩; exact ⟨rfl, k⟩)
  unfold sh_web_Web_faces
  exact bif_i (fun _ => ⟨rfl, rfl⟩) (fun h => by cases h)
theorem w_check_nil : Calls Pg fn_web_Web_check #[.pointer none, .int .i64 e] w fun r w' => r = .returned (errV 1) ∧ w' = w := by
  refine (calls_web_Web_check _ _ _ (fun v' w' => v' = errV 1 ∧ w' = w) ?_).mono (by rintro e w' ⟨v, rfl, rfl, k⟩; exact ⟨rfl, k⟩)
  unfold sh_web_Web_check
  exact bif_i (fun _ => ⟨rfl, rfl⟩) (fun h => by cases h)
theorem w_two_nil : Calls Pg fn_web_Web_two #[.pointer none, .int .i64 a, .int .i64 b] w fun r w' => r = .returned (errV 1) ∧ w' = w := by
  refine (calls_web_Web_two _ _ _ _ (fun v' w' => v' = errV 1 ∧ w' = w) ?_).mono (by rintro e w' ⟨v, rfl, rfl, k⟩; exact ⟨rfl, k⟩)
  unfold sh_web_Web_two
  exact bif_i (fun _ => ⟨rfl, rfl⟩) (fun h => by cases h)
theorem w_Same_nil : Calls Pg fn_web_Web_Same #[.pointer none, .int .i64 a, .int .i64 b] w fun r w' => r = .returned (.tuple #[.bool false, errV 1]) ∧ Chg Nobody w w' := by
  refine (calls_web_Web_Same _ _ _ _ (fun v' w' => v' = .tuple #[.bool false, errV 1] ∧ Chg Nobody w w') ?_).mono (by rintro e w' ⟨v, rfl, rfl, k⟩; exact ⟨rfl, k⟩)
  unfold sh_web_Web_Same
  refine w_faces_nil.mono ?_
  rintro e w4 ⟨rfl, rfl⟩
  refine ⟨_, rfl, rg_Same_nil.mono ?_⟩
  rintro e w8 ⟨rfl, k⟩
  exact ⟨_, _, rfl, rfl, k⟩
theorem w_Walk_nil : Calls Pg fn_web_Web_Walk #[.pointer none, .int .i64 a] w fun r w' => r = .returned (.tuple #[.slice none 0 0, errV 1]) ∧ Chg Nobody w w' := by
  refine (calls_web_Web_Walk _ _ _ (fun v' w' => v' = .tuple #[.slice none 0 0, errV 1] ∧ Chg Nobody w w') ?_).mono (by rintro e w' ⟨v, rfl, rfl, k⟩; exact ⟨rfl, k⟩)
  unfold sh_web_Web_Walk
  refine w_faces_nil.mono ?_
  rintro e w4 ⟨rfl, rfl⟩
  refine ⟨_, rfl, rg_Walk_nil.mono ?_⟩
  rintro e w8 ⟨rfl, k⟩
  exact ⟨_, _, _, _, rfl, rfl, k⟩
theorem w_Linked_nil : Calls Pg fn_web_Web_Linked #[.pointer none, .int .i64 a, .int .i64 b] w fun r w' => r = .returned (.tuple #[.bool false, errV 1]) ∧ w' = w := by
  refine (calls_web_Web_Linked _ _ _ _ (fun v' w' => v' = .tuple #[.bool false, errV 1] ∧ w' = w) ?_).mono (by rintro e w' ⟨v, rfl, rfl, k⟩; exact ⟨rfl, k⟩)
  unfold sh_web_Web_Linked
  refine w_two_nil.mono ?_
  rintro e w4 ⟨rfl, rfl⟩
  exact ⟨_, rfl, err_i (fun _ => ⟨rfl, rfl⟩) (fun e => by omega)⟩
theorem w_Weakest_nil : Calls Pg fn_web_Web_Weakest #[.pointer none, .int .i64 a, .int .i64 b] w fun r w' => r = .returned (.tuple #[.int .i64 0, errV 1]) ∧ w' = w := by
  refine (calls_web_Web_Weakest _ _ _ _ (fun v' w' => v' = .tuple #[.int .i64 0, errV 1] ∧ w' = w) ?_).mono (by rintro e w' ⟨v, rfl, rfl, k⟩; exact ⟨rfl, k⟩)
  unfold sh_web_Web_Weakest
  refine w_two_nil.mono ?_
  rintro e w4 ⟨rfl, rfl⟩
  exact ⟨_, rfl, err_i (fun _ => ⟨rfl, rfl⟩) (fun e => by omega)⟩
theorem w_Split_nil : Calls Pg fn_web_Web_Split #[.pointer none, .int .i64 a, .int .i64 b] w fun r w' => r = .returned (errV 1) ∧ Chg Nobody w w' := by
  refine (calls_web_Web_Split _ _ _ _ (fun v' w' => v' = errV 1 ∧ Chg Nobody w w') ?_).mono (by rintro e w' ⟨v, rfl, rfl, k⟩; exact ⟨rfl, k⟩)
  unfold sh_web_Web_Split
  refine w_Same_nil.mono ?_
  rintro r w4 ⟨rfl, k⟩
  exact ⟨_, _, rfl, err_i (fun _ => ⟨rfl, k⟩) (fun e => by omega)⟩
theorem w_Merge_nil : Calls Pg fn_web_Web_Merge #[.pointer none, .int .i64 a, .int .i64 b] w fun r w' => r = .returned (errV 1) ∧ w' = w := by
  refine (calls_web_Web_Merge _ _ _ _ (fun v' w' => v' = errV 1 ∧ w' = w) ?_).mono (by rintro e w' ⟨v, rfl, rfl, k⟩; exact ⟨rfl, k⟩)
  unfold sh_web_Web_Merge
  refine w_Linked_nil.mono ?_
  rintro r w4 ⟨rfl, rfl⟩
  exact ⟨_, _, rfl, err_i (fun _ => ⟨rfl, rfl⟩) (fun e => by omega)⟩
theorem w_Apart_nil : Calls Pg fn_web_Web_Apart #[.pointer none, .int .i64 a] w fun r w' => r = .returned (errV 1) ∧ Chg Nobody w w' := by
  refine (calls_web_Web_Apart _ _ _ (fun v' w' => v' = errV 1 ∧ Chg Nobody w w') ?_).mono (by rintro e w' ⟨v, rfl, rfl, k⟩; exact ⟨rfl, k⟩)
  unfold sh_web_Web_Apart
  refine w_faces_nil.mono ?_
  rintro r w3 ⟨rfl, rfl⟩
  refine ⟨_, rfl, rg_Next_nil.mono ?_⟩
  rintro r w4 ⟨rfl, k⟩
  exact ⟨_, _, rfl, err_i (fun _ => ⟨rfl, k⟩) (fun e => by omega)⟩
theorem w_Tie_nil : Calls Pg fn_web_Web_Tie #[.pointer none, .int .i64 e, .int .i64 a, .int .i64 b, .int .i64 k] w fun r w' => r = .returned (errV 1) ∧ w' = w := by
  refine (calls_web_Web_Tie _ _ _ _ _ _ (fun v' w' => v' = errV 1 ∧ w' = w) ?_).mono (by rintro e w' ⟨v, rfl, rfl, k⟩; exact ⟨rfl, k⟩)
  unfold sh_web_Web_Tie
  refine w_check_nil.mono ?_
  rintro r w6 ⟨rfl, rfl⟩
  exact ⟨_, rfl, err_i (fun _ => ⟨rfl, rfl⟩) (fun e => by omega)⟩
theorem w_Untie_nil : Calls Pg fn_web_Web_Untie #[.pointer none, .int .i64 e] w fun r w' => r = .returned (errV 1) ∧ w' = w := by
  refine (calls_web_Web_Untie _ _ _ (fun v' w' => v' = errV 1 ∧ w' = w) ?_).mono (by rintro e w' ⟨v, rfl, rfl, k⟩; exact ⟨rfl, k⟩)
  unfold sh_web_Web_Untie
  refine w_check_nil.mono ?_
  rintro r w6 ⟨rfl, rfl⟩
  exact ⟨_, rfl, err_i (fun _ => ⟨rfl, rfl⟩) (fun e => by omega)⟩
theorem w_Tied_nil : Calls Pg fn_web_Web_Tied #[.pointer none, .int .i64 e] w fun r w' => r = .returned (.bool false) ∧ w' = w := by
  refine (calls_web_Web_Tied _ _ _ (fun v' w' => v' = .bool false ∧ w' = w) ?_).mono (by rintro e w' ⟨v, rfl, rfl, k⟩; exact ⟨rfl, k⟩)
  unfold sh_web_Web_Tied
  refine w_check_nil.mono ?_
  rintro r w3 ⟨rfl, rfl⟩
  refine ⟨_, rfl, errV_isI _, ?_⟩
  rw [errV_nil]
  exact bif_i (fun h => by simp at h) (fun _ => ⟨rfl, rfl⟩)
end
end Web
end Go.Proofs.YtaoemljoiahapaaDoor
