/-
The law SeqNew: of how many items there can be sequences, and the errors.
Conditions: the package variable of errors is laid out.
-/
import Derived.Test.YtledchlbmilneaaDoorLawTurns
namespace Go.Proofs.YtledchlbmilneaaDoor
open Go
set_option linter.unusedVariables false
set_option linter.unusedSimpArgs false
namespace Seq
section
variable {w₀ w : World} {F L m : Nat} {v : Nat → Int} {q : List (List Nat)} {c : Int}
/-- 'num', behind what a law has done. -/
theorem l_num (hg : LaidG w₀) (hc : Chg Nobody w₀ w) : Calls Pg fn_plaitlaw04_num #[errV c] w fun e w' => e = .returned (.int .i64 c) ∧ Chg Nobody w₀ w' :=
  (c_num (hg.chg hc (fun h => h))).mono fun e w' ⟨h, k⟩ => ⟨h, hc.trans k⟩
theorem l_sure (hg : LaidG w₀) (hc : Chg Nobody w₀ w) : Calls Pg fn_plaitlaw04_sure #[] w fun e w' => e = .returned (.bool true) ∧ Chg Nobody w₀ w' :=
  (c_sure (hg.chg hc (fun h => h))).mono fun e w' ⟨h, k⟩ => ⟨h, hc.trans k⟩
end
end Seq
end Go.Proofs.YtledchlbmilneaaDoor
