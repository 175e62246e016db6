/-
A law's arguments opened: slices of records of ints, arrays of ints; and the package variable of errors.
Conditions: those that each theorem states.
-/
import Derived.Test.YtfeekmmfdkfgmaaGreatDoorGLaw
import Derived.Test.YtfeekmmfdkfgmaaGreatDoorRows
import Derived.ChangeSame
import Derived.ChangeVars
import Derived.JoinedOf
import Derived.RowKit
import Derived.RowKitTokens
import Derived.LaidLaws
import Derived.LaidHandle
import Derived.Stop.Joined
import Derived.Carry
import Derived.OpenShut
import Derived.Deep.Slices
set_option linter.unusedVariables false
set_option linter.unusedSimpArgs false
namespace Go.Proofs.YtfeekmmfdkfgmaaGreatDoor
open Go Go.ChangeShapes Go.WideShapes Go.RowKit Go.Deep
section
variable {H:Type} {enc:TypeId × Value→H} {P:Program} {w:World} {base:Nat} {spare:Nat→Bool} {held:Bool} {r:Reach} {b0:Nat}
end
theorem door_own:ownKnob Pg.godebug=none:=by kernel_rfl
theorem door_laidOut:laidOutB Pg=true:=by kernel_rfl
theorem Zjr : Pg.globalNamed "errors.errorType" = some 0 := by kernel_rfl
theorem Zjq : (Pg.cutTypes.find? (·.1 == "internal/reflectlite.rtype")).map (·.2) = some 278 := by kernel_rfl
theorem Q6t:((List.range 450).filter fun t=>Pg.rowNamed t [101,114,114,111,114])=[30]:=by kernel_rfl
theorem Zce:Pg.types.size=450:=by kernel_rfl
theorem handle_of_laid {W : World} (h : laidMetH Pg [("errors.errorType", Rows.laid_errors_errorType)] W) : Seq.LaidG W := by
 have h' : laidMet Pg [] W ∧ handlesMet Pg [("errors.errorType", Rows.laid_errors_errorType)] W := h
 obtain ⟨name,u,ty,e1,e2,e3,e4,e5⟩:=h'.2 _ (List.mem_singleton.2 rfl)
 have en:name=[101,114,114,111,114]:=(Option.some.inj e1).symm
 subst en
 obtain rfl:=Option.some.inj (Zjq.symm.trans e2)
 have hm:ty∈(List.range 450).filter fun t=>Pg.rowNamed t [101,114,114,111,114]:=List.mem_filter.2 ⟨List.mem_range.2 (by rw [←Zce];exact e3),e4⟩
 rw [Q6t] at hm
 obtain rfl:=List.mem_singleton.1 hm
 have hh:typeHandle Pg 30=.pointer (some ⟨2,30,none⟩):=by kernel_rfl
 rw [hh] at e5
 simpa [Seq.LaidG] using World.var?_cell Zjr e5 0
noncomputable def laidWorld (os:Os):World:=
 let w0:=World.holding Pg os ⟨#[],#[],[]⟩
 {w0 with heap:=w0.heap.modify 0 fun
   | .cells _ t frozen=>.cells #[.iface 278 (.agg #[.pointer (some ⟨2,30,none⟩)])] t frozen
   | o=>o}
theorem laidWorld_met (os : Os) (args : Array Value) : laidMetH Pg [("errors.errorType", Rows.laid_errors_errorType)] ((laidWorld os).forCall (fun _ _ => 0) ⟨#[], args, []⟩).memory :=
 laidMetH_of_parts (laidMet_nil _ _) (by kernel_rfl)
end Go.Proofs.YtfeekmmfdkfgmaaGreatDoor
