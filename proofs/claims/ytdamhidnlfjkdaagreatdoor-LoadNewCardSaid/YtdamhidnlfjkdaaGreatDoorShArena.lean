/-
What each function does, as one formula, printed by a program of this session out of the translation; the kernel holds each print against the translation.
Conditions: none.
-/
import Derived.Test.YtdamhidnlfjkdaaGreatDoorSn
namespace Go.Proofs.YtdamhidnlfjkdaaGreatDoor
open Go
set_option linter.unusedVariables false
set_option maxRecDepth 100000
def sh_arena_Arena_Places (p0 : OA) (w : World) (R : RV) : Prop :=
  bif (Option.isNone p0) then (
 R (.slice none 0 0) w) else (
 pt p0 fun a1 =>
 ldS (a1.add 1) w fun s2b s2l s2c =>
 Calls Pg fn_slices_Clone__arena_Placearena_Place #[.slice s2b s2l s2c] w fun e5 w4 => ∃ s3b s3l s3c, e5 = .returned (.slice s3b s3l s3c) ∧
 R (.slice s3b s3l s3c) w4)
theorem calls_arena_Arena_Places (p0 : OA) : SH fn_arena_Arena_Places [.pointer p0] (sh_arena_Arena_Places p0) := cdn Tryz.func19 (.s .L (.s (.s .L (.c (.s .L .L) .L)) (.s .L .L))) fun _ _ => by kernel_rfl

def sh_arena_Arena_Len (p0 : OA) (w : World) (R : RV) : Prop :=
  bif (Option.isNone p0) then (
 R (.int .i64 0) w) else (
 pt p0 fun a1 =>
 ldI .i64 (a1.add 3) w fun n2 =>
 R (.int .i64 n2) w)
theorem calls_arena_Arena_Len (p0 : OA) : SH fn_arena_Arena_Len [.pointer p0] (sh_arena_Arena_Len p0) := cdn Tryz.func21 (.s .L (.s (.s .L (.c (.s .L .L) .L)) (.s .L .L))) fun _ _ => by kernel_rfl

def sh_arena_New (n0 : Int) (w : World) (R : RV) : Prop :=
  Calls Pg fn_slots_New #[.int .i64 n0] w fun e4 w3 => ∃ p1 v2, e4 = .returned (.tuple #[.pointer p1, v2]) ∧
 isI v2 ∧ bif (!(nilI v2)) then (
 R (.tuple #[.pointer none, v2]) w3) else (
 alo #[.int .i64 n0, .slice none 0 0, .pointer p1, .int .i64 0] T_arena_Arena w3 fun a5 w6 =>
 R (.tuple #[.pointer (some a5), .nilIface]) w6)
theorem calls_arena_New (n0 : Int) : SH fn_arena_New [.int .i64 n0] (sh_arena_New n0) := cdn Tryz.func25 (.s .L (.s .L (.s (.s .L (.c (.s .L .L) .L)) (.s .L .L)))) fun _ _ => by kernel_rfl

def sh_arena_Load (n0 : Int) (s1b : OA) (s1l s1c : Nat) (w : World) (R : RV) : Prop :=
  Calls Pg fn_arena_New #[.int .i64 n0] w fun e5 w4 => ∃ p2 v3, e5 = .returned (.tuple #[.pointer p2, v3]) ∧
 isI v3 ∧ bif (!(nilI v3)) then (
 R (.tuple #[.pointer none, v3]) w4) else (
 ∃ J6 : JP, (
 bif (decide ((s1l : Int) > n0)) then (
 R (.tuple #[.pointer none, .iface T_api_Errno (.int .i64 1)]) w4) else (
 Calls Pg fn_slices_ContainsFunc__arena_Placearena_Place #[.slice s1b s1l s1c, .func (.func fn_arena_odd) #[] #[]] w4 fun e9 w8 => ∃ b7, e9 = .returned (.bool b7) ∧
 bif b7 then (
 R (.tuple #[.pointer none, .iface T_api_Errno (.int .i64 1)]) w8) else (
 bif (decide ((s1l : Int) > 0)) then (
 ixS s1b s1l (IntKind.wrap .i64 ((s1l : Int) - 1)) 2 fun a10 =>
 ldI .u32 a10 w8 fun n11 =>
 bif (n11 == 0) then (
 R (.tuple #[.pointer none, .iface T_api_Errno (.int .i64 1)]) w8) else (
 J6 [] w8)) else (
 J6 [] w8)))) ∧ ∀ _ : Env, ∀ w12, J6 [] w12 →
 Calls Pg fn_slices_Clone__arena_Placearena_Place #[.slice s1b s1l s1c] w12 fun e15 w14 => ∃ s13b s13l s13c, e15 = .returned (.slice s13b s13l s13c) ∧
 pt p2 fun a16 =>
 sto (a16.add 1) (.slice s13b s13l s13c) w14 fun w17 =>
 ∃ (I18 : JP) (m19 : JN), I18 [.int .i64 0] w17 ∧
 ∀ _ : Env, ∀ n20 w21, I18 [.int .i64 n20] w21 →
 bif (decide (n20 < (s1l : Int))) then (
 ixS s1b s1l n20 2 fun a22 =>
 ldI .u32 a22 w21 fun n23 =>
 ldI .i64 (a22.add 1) w21 fun n24 =>
 alo #[.int .u32 0, .int .i64 0] T_arena_Place w21 fun a25 w26 =>
 sto a25 (.int .u32 n23) w26 fun w27 =>
 sto (a25.add 1) (.int .i64 n24) w27 fun w28 =>
 ldI .i64 (a25.add 1) w28 fun n29 =>
 bif (n29 == 0) then (
 (I18 [.int .i64 (IntKind.wrap .i64 (n20 + 1))] w28 ∧ m19 [.int .i64 (IntKind.wrap .i64 (n20 + 1))] w28 < m19 [.int .i64 n20] w21)) else (
 pt p2 fun a30 =>
 ldP (a30.add 2) w28 fun p31 =>
 Calls Pg fn_slots_Slots_Claim #[.pointer p31, .int .i64 n20] w28 fun e34 w33 => ∃ v32, e34 = .returned v32 ∧
 isI v32 ∧ bif (!(nilI v32)) then (
 R (.tuple #[.pointer none, v32]) w33) else (
 ldI .i64 (a25.add 1) w33 fun n35 =>
 bif (n35 == 1) then (
 pt p2 fun a36 =>
 ldI .i64 (a36.add 3) w33 fun n37 =>
 pt p2 fun a38 =>
 sto (a38.add 3) (.int .i64 (IntKind.wrap .i64 (n37 + 1))) w33 fun w39 =>
 (I18 [.int .i64 (IntKind.wrap .i64 (n20 + 1))] w39 ∧ m19 [.int .i64 (IntKind.wrap .i64 (n20 + 1))] w39 < m19 [.int .i64 n20] w21)) else (
 (I18 [.int .i64 (IntKind.wrap .i64 (n20 + 1))] w33 ∧ m19 [.int .i64 (IntKind.wrap .i64 (n20 + 1))] w33 < m19 [.int .i64 n20] w21))))) else (
 R (.tuple #[.pointer p2, .nilIface]) w21))
theorem calls_arena_Load (n0 : Int) (s1b : OA) (s1l s1c : Nat) : SH fn_arena_Load [.int .i64 n0, .slice s1b s1l s1c] (sh_arena_Load n0 s1b s1l s1c) := cdn Tryz.func123 (.s .L (.s .L (.s (.s .L (.c (.s .L .L) .L)) (.j [] [] (.s .L (.c (.s .L .L) .L)) (.s .L (.s (.s .L (.b (.o [50] [.one (.int .i64)] (.s .L (.s (.c .L .L) (.s (.b (.s .L (.s (.s .L (.c .L .L)) (.s (.s .L (.s .L (.c (.s .L .L) .L))) (.s .L (.c .L .L)))))) .L)))))) (.s .L .L))))))) fun _ _ => by kernel_rfl

end Go.Proofs.YtdamhidnlfjkdaaGreatDoor
