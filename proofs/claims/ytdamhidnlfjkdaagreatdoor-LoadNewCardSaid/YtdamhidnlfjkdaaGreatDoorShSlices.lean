/-
What each function does, as one formula, printed by a program of this session out of the translation; the kernel holds each print against the translation.
Conditions: none.
-/
import Derived.Test.YtdamhidnlfjkdaaGreatDoorSn
namespace Go.Proofs.YtdamhidnlfjkdaaGreatDoor
open Go
set_option linter.unusedVariables false
set_option maxRecDepth 100000
def sh_slices_Clone__arena_Placearena_Place (s0b : OA) (s0l s0c : Nat) (w : World) (R : RV) : Prop :=
  bif (Option.isNone s0b) then (
 R (.slice none 0 0) w) else (
 alo #[] T_arena_Place w fun a1 w2 =>
 ∃ s3b s3l s3c w4, (Builtin.append_ #[T_sl_arena_Place, T_sl_arena_Place] T_sl_arena_Place #[.slice (some a1) 0 0, .slice s0b s0l s0c]).run Pg w2 = .ok (.slice s3b s3l s3c) w4 ∧
 R (.slice s3b s3l s3c) w4)
theorem calls_slices_Clone__arena_Placearena_Place (s0b : OA) (s0l s0c : Nat) : SH fn_slices_Clone__arena_Placearena_Place [.slice s0b s0l s0c] (sh_slices_Clone__arena_Placearena_Place s0b s0l s0c) := cdn Tryz.func35 (.s .L (.s (.s .L (.c (.s .L .L) .L)) (.s .L .L))) fun _ _ => by kernel_rfl

def sh_slices_ContainsFunc__arena_Placearena_Place (s0b : OA) (s0l s0c : Nat) (f1 : Value) (w : World) (R : RV) : Prop :=
  Calls Pg fn_slices_IndexFunc__arena_Placearena_Place #[.slice s0b s0l s0c, f1] w fun e4 w3 => ∃ n2, e4 = .returned (.int .i64 n2) ∧
 R (.bool (decide (n2 ≥ 0))) w3
theorem calls_slices_ContainsFunc__arena_Placearena_Place (s0b : OA) (s0l s0c : Nat) (f1 : Value) : SH fn_slices_ContainsFunc__arena_Placearena_Place [.slice s0b s0l s0c, f1] (sh_slices_ContainsFunc__arena_Placearena_Place s0b s0l s0c f1) := cdn Tryz.func156 (.s .L (.s .L .L)) fun _ _ => by kernel_rfl

def sh_slices_Backward__int32int32 (s0b : OA) (s0l s0c : Nat) (w : World) (R : RV) : Prop :=
  alo #[.slice s0b s0l s0c] T_sl_int32 w fun a1 w2 =>
 R (.func (.func fn_slices_Backward__int32int32_1) #[] #[.pointer (some a1)]) w2
theorem calls_slices_Backward__int32int32 (s0b : OA) (s0l s0c : Nat) : SH fn_slices_Backward__int32int32 [.slice s0b s0l s0c] (sh_slices_Backward__int32int32 s0b s0l s0c) := cdn Tryz.func162 (.s .L (.s .L .L)) fun _ _ => by kernel_rfl

def sh_slices_IndexFunc__arena_Placearena_Place (s0b : OA) (s0l s0c : Nat) (f1 : Value) (w : World) (R : RV) : Prop :=
  ∃ (I2 : JP) (m3 : JN), I2 [.int .i64 0] w ∧
 ∀ _ : Env, ∀ n4 w5, I2 [.int .i64 n4] w5 →
 bif (decide (n4 < (s0l : Int))) then (
 ixS s0b s0l n4 2 fun a6 =>
 ldI .u32 a6 w5 fun n7 =>
 ldI .i64 (a6.add 1) w5 fun n8 =>
 dcv Pg Eall f1 [.agg #[.int .u32 n7, .int .i64 n8]] w5 fun e11 w10 => ∃ b9, e11 = .returned (.bool b9) ∧
 bif b9 then (
 R (.int .i64 n4) w10) else (
 (I2 [.int .i64 (IntKind.wrap .i64 (n4 + 1))] w10 ∧ m3 [.int .i64 (IntKind.wrap .i64 (n4 + 1))] w10 < m3 [.int .i64 n4] w5))) else (
 R (.int .i64 (-1)) w5)
theorem calls_slices_IndexFunc__arena_Placearena_Place (s0b : OA) (s0l s0c : Nat) (f1 : Value) : SH fn_slices_IndexFunc__arena_Placearena_Place [.slice s0b s0l s0c, f1] (sh_slices_IndexFunc__arena_Placearena_Place s0b s0l s0c f1) := cdn Tryz.func181 (.s .L (.s (.s .L (.b (.o [8] [.one (.int .i64)] (.s .L (.s (.c .L .L) (.s (.b (.s .L (.s .L (.c (.s .L .L) .L)))) .L)))))) (.s .L .L))) fun _ _ => by kernel_rfl

def sh_slices_ContainsFunc__intint (s0b : OA) (s0l s0c : Nat) (f1 : Value) (w : World) (R : RV) : Prop :=
  Calls Pg fn_slices_IndexFunc__intint #[.slice s0b s0l s0c, f1] w fun e4 w3 => ∃ n2, e4 = .returned (.int .i64 n2) ∧
 R (.bool (decide (n2 ≥ 0))) w3
theorem calls_slices_ContainsFunc__intint (s0b : OA) (s0l s0c : Nat) (f1 : Value) : SH fn_slices_ContainsFunc__intint [.slice s0b s0l s0c, f1] (sh_slices_ContainsFunc__intint s0b s0l s0c f1) := cdn Tryz.func202 (.s .L (.s .L .L)) fun _ _ => by kernel_rfl

def sh_slices_IndexFunc__intint (s0b : OA) (s0l s0c : Nat) (f1 : Value) (w : World) (R : RV) : Prop :=
  ∃ (I2 : JP) (m3 : JN), I2 [.int .i64 0] w ∧
 ∀ _ : Env, ∀ n4 w5, I2 [.int .i64 n4] w5 →
 bif (decide (n4 < (s0l : Int))) then (
 ixS s0b s0l n4 1 fun a6 =>
 ldI .i64 a6 w5 fun n7 =>
 dcv Pg Eall f1 [.int .i64 n7] w5 fun e10 w9 => ∃ b8, e10 = .returned (.bool b8) ∧
 bif b8 then (
 R (.int .i64 n4) w9) else (
 (I2 [.int .i64 (IntKind.wrap .i64 (n4 + 1))] w9 ∧ m3 [.int .i64 (IntKind.wrap .i64 (n4 + 1))] w9 < m3 [.int .i64 n4] w5))) else (
 R (.int .i64 (-1)) w5)
theorem calls_slices_IndexFunc__intint (s0b : OA) (s0l s0c : Nat) (f1 : Value) : SH fn_slices_IndexFunc__intint [.slice s0b s0l s0c, f1] (sh_slices_IndexFunc__intint s0b s0l s0c f1) := cdn Tryz.func213 (.s .L (.s (.s .L (.b (.o [8] [.one (.int .i64)] (.s .L (.s (.c .L .L) (.s (.b (.s .L (.s .L (.c (.s .L .L) .L)))) .L)))))) (.s .L .L))) fun _ _ => by kernel_rfl

end Go.Proofs.YtdamhidnlfjkdaaGreatDoor
