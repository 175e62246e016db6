/-
What each function does, as one formula, printed by a program of this session out of the translation; the kernel holds each print against the translation.
Conditions: none.
-/
import Derived.Test.YtdamhidnlfjkdaaGreatDoorSn
namespace Go.Proofs.YtdamhidnlfjkdaaGreatDoor
open Go
set_option linter.unusedVariables false
set_option maxRecDepth 100000
def sh_turn_New (n0 n1 : Int) (w : World) (R : RV) : Prop :=
  ∃ J2 : JP, (
 bif (decide (n0 < 1)) then (
 R (.tuple #[.pointer none, .iface T_api_Errno (.int .i64 1)]) w) else (
 bif (decide (n0 > 1048576)) then (
 R (.tuple #[.pointer none, .iface T_api_Errno (.int .i64 1)]) w) else (
 bif (decide (n1 < 1)) then (
 R (.tuple #[.pointer none, .iface T_api_Errno (.int .i64 1)]) w) else (
 bif (decide (n1 > 1048576)) then (
 R (.tuple #[.pointer none, .iface T_api_Errno (.int .i64 1)]) w) else (
 J2 [] w))))) ∧ ∀ _ : Env, ∀ w3, J2 [] w3 →
 ∃ J4 : JP, (
 (0 ≤ (IntKind.wrap .i64 (2 * n1)) ∧ (IntKind.wrap .i64 (2 * n1)) ≤ (IntKind.wrap .i64 (2 * n1)) ∧ (12 : Int) * (IntKind.wrap .i64 (2 * n1)) ≤ 140737488355328 ∧ alo (zerosOf #[(.int .i32 0), (.int .i32 0), (.int .i32 0)] (Int.toNat (IntKind.wrap .i64 (2 * n1)))) T_turn_dart w3.drew fun a5 w6 =>
 (0 ≤ n0 ∧ n0 ≤ n0 ∧ (4 : Int) * n0 ≤ 140737488355328 ∧ alo (zerosOf #[(.int .i32 0)] (Int.toNat n0)) T_int32 w6 fun a7 w8 =>
 0 ≤ n0 ∧ n0 ≤ n0 ∧ (4 : Int) * n0 ≤ 140737488355328 ∧ alo (zerosOf #[(.int .i32 0)] (Int.toNat n0)) T_int32 w8 fun a9 w10 =>
 alo #[.slice (some a5) (Int.toNat (IntKind.wrap .i64 (2 * n1))) (Int.toNat (IntKind.wrap .i64 (2 * n1))), .slice (some a7) (Int.toNat n0) (Int.toNat n0), .slice (some a9) (Int.toNat n0) (Int.toNat n0)] T_turn_Turns w10 fun a11 w12 =>
 J4 [.pointer (some a11)] w12) ∧ (
 0 ≤ n0 ∧ n0 ≤ n0 ∧ (4 : Int) * n0 ≤ 140737488355328 ∧ alo (zerosOf #[(.int .i32 0)] (Int.toNat n0)) T_int32 w6 fun a13 w14 =>
 0 ≤ n0 ∧ n0 ≤ n0 ∧ (4 : Int) * n0 ≤ 140737488355328 ∧ alo (zerosOf #[(.int .i32 0)] (Int.toNat n0)) T_int32 w14 fun a15 w16 =>
 alo #[.slice (some a5) (Int.toNat (IntKind.wrap .i64 (2 * n1))) (Int.toNat (IntKind.wrap .i64 (2 * n1))), .slice (some a15) (Int.toNat n0) (Int.toNat n0), .slice (some a13) (Int.toNat n0) (Int.toNat n0)] T_turn_Turns w16 fun a17 w18 =>
 J4 [.pointer (some a17)] w18)) ∧ (
 0 ≤ n0 ∧ n0 ≤ n0 ∧ (4 : Int) * n0 ≤ 140737488355328 ∧ alo (zerosOf #[(.int .i32 0)] (Int.toNat n0)) T_int32 w3.drew fun a19 w20 =>
 (0 ≤ (IntKind.wrap .i64 (2 * n1)) ∧ (IntKind.wrap .i64 (2 * n1)) ≤ (IntKind.wrap .i64 (2 * n1)) ∧ (12 : Int) * (IntKind.wrap .i64 (2 * n1)) ≤ 140737488355328 ∧ alo (zerosOf #[(.int .i32 0), (.int .i32 0), (.int .i32 0)] (Int.toNat (IntKind.wrap .i64 (2 * n1)))) T_turn_dart w20 fun a21 w22 =>
 0 ≤ n0 ∧ n0 ≤ n0 ∧ (4 : Int) * n0 ≤ 140737488355328 ∧ alo (zerosOf #[(.int .i32 0)] (Int.toNat n0)) T_int32 w22 fun a23 w24 =>
 alo #[.slice (some a21) (Int.toNat (IntKind.wrap .i64 (2 * n1))) (Int.toNat (IntKind.wrap .i64 (2 * n1))), .slice (some a19) (Int.toNat n0) (Int.toNat n0), .slice (some a23) (Int.toNat n0) (Int.toNat n0)] T_turn_Turns w24 fun a25 w26 =>
 J4 [.pointer (some a25)] w26) ∧ (
 0 ≤ n0 ∧ n0 ≤ n0 ∧ (4 : Int) * n0 ≤ 140737488355328 ∧ alo (zerosOf #[(.int .i32 0)] (Int.toNat n0)) T_int32 w20 fun a27 w28 =>
 0 ≤ (IntKind.wrap .i64 (2 * n1)) ∧ (IntKind.wrap .i64 (2 * n1)) ≤ (IntKind.wrap .i64 (2 * n1)) ∧ (12 : Int) * (IntKind.wrap .i64 (2 * n1)) ≤ 140737488355328 ∧ alo (zerosOf #[(.int .i32 0), (.int .i32 0), (.int .i32 0)] (Int.toNat (IntKind.wrap .i64 (2 * n1)))) T_turn_dart w28 fun a29 w30 =>
 alo #[.slice (some a29) (Int.toNat (IntKind.wrap .i64 (2 * n1))) (Int.toNat (IntKind.wrap .i64 (2 * n1))), .slice (some a19) (Int.toNat n0) (Int.toNat n0), .slice (some a27) (Int.toNat n0) (Int.toNat n0)] T_turn_Turns w30 fun a31 w32 =>
 J4 [.pointer (some a31)] w32)) ∧ (
 0 ≤ n0 ∧ n0 ≤ n0 ∧ (4 : Int) * n0 ≤ 140737488355328 ∧ alo (zerosOf #[(.int .i32 0)] (Int.toNat n0)) T_int32 w3.drew fun a33 w34 =>
 (0 ≤ (IntKind.wrap .i64 (2 * n1)) ∧ (IntKind.wrap .i64 (2 * n1)) ≤ (IntKind.wrap .i64 (2 * n1)) ∧ (12 : Int) * (IntKind.wrap .i64 (2 * n1)) ≤ 140737488355328 ∧ alo (zerosOf #[(.int .i32 0), (.int .i32 0), (.int .i32 0)] (Int.toNat (IntKind.wrap .i64 (2 * n1)))) T_turn_dart w34 fun a35 w36 =>
 0 ≤ n0 ∧ n0 ≤ n0 ∧ (4 : Int) * n0 ≤ 140737488355328 ∧ alo (zerosOf #[(.int .i32 0)] (Int.toNat n0)) T_int32 w36 fun a37 w38 =>
 alo #[.slice (some a35) (Int.toNat (IntKind.wrap .i64 (2 * n1))) (Int.toNat (IntKind.wrap .i64 (2 * n1))), .slice (some a37) (Int.toNat n0) (Int.toNat n0), .slice (some a33) (Int.toNat n0) (Int.toNat n0)] T_turn_Turns w38 fun a39 w40 =>
 J4 [.pointer (some a39)] w40) ∧ (
 0 ≤ n0 ∧ n0 ≤ n0 ∧ (4 : Int) * n0 ≤ 140737488355328 ∧ alo (zerosOf #[(.int .i32 0)] (Int.toNat n0)) T_int32 w34 fun a41 w42 =>
 0 ≤ (IntKind.wrap .i64 (2 * n1)) ∧ (IntKind.wrap .i64 (2 * n1)) ≤ (IntKind.wrap .i64 (2 * n1)) ∧ (12 : Int) * (IntKind.wrap .i64 (2 * n1)) ≤ 140737488355328 ∧ alo (zerosOf #[(.int .i32 0), (.int .i32 0), (.int .i32 0)] (Int.toNat (IntKind.wrap .i64 (2 * n1)))) T_turn_dart w42 fun a43 w44 =>
 alo #[.slice (some a43) (Int.toNat (IntKind.wrap .i64 (2 * n1))) (Int.toNat (IntKind.wrap .i64 (2 * n1))), .slice (some a41) (Int.toNat n0) (Int.toNat n0), .slice (some a33) (Int.toNat n0) (Int.toNat n0)] T_turn_Turns w44 fun a45 w46 =>
 J4 [.pointer (some a45)] w46))) ∧ ∀ _ : Env, ∀ p47 w48, J4 [.pointer p47] w48 →
 pt p47 fun a49 =>
 ldS a49 w48 fun s50b s50l s50c =>
 ∃ (I51 : JP) (m52 : JN), I51 [.int .i64 0] w48 ∧
 ∀ _ : Env, ∀ n53 w54, I51 [.int .i64 n53] w54 →
 bif (decide (n53 < (s50l : Int))) then (
 pt p47 fun a55 =>
 ldS a55 w54 fun s56b s56l s56c =>
 ixS s56b s56l n53 3 fun a57 =>
 sto a57 (.int .i32 (-1)) w54 fun w58 =>
 (I51 [.int .i64 (IntKind.wrap .i64 (n53 + 1))] w58 ∧ m52 [.int .i64 (IntKind.wrap .i64 (n53 + 1))] w58 < m52 [.int .i64 n53] w54)) else (
 pt p47 fun a59 =>
 ldS (a59.add 1) w54 fun s60b s60l s60c =>
 ∃ (I61 : JP) (m62 : JN), I61 [.int .i64 0] w54 ∧
 ∀ _ : Env, ∀ n63 w64, I61 [.int .i64 n63] w64 →
 bif (decide (n63 < (s60l : Int))) then (
 pt p47 fun a65 =>
 ldS (a65.add 1) w64 fun s66b s66l s66c =>
 ixS s66b s66l n63 1 fun a67 =>
 sto a67 (.int .i32 (-1)) w64 fun w68 =>
 (I61 [.int .i64 (IntKind.wrap .i64 (n63 + 1))] w68 ∧ m62 [.int .i64 (IntKind.wrap .i64 (n63 + 1))] w68 < m62 [.int .i64 n63] w64)) else (
 R (.tuple #[.pointer p47, .nilIface]) w64))
theorem calls_turn_New (n0 n1 : Int) : SH fn_turn_New [.int .i64 n0, .int .i64 n1] (sh_turn_New n0 n1) := cdn Tryz.func45 (.s .L (.j [] [] (.s .L (.c (.s .L .L) .L)) (.j [6] [.one .ptr] (.r (.t 0 2 (.t 3 1 (.t 5 1 (.thr 2 (.two 4 (.one 6 (.t 7 1 (.one 8 (.t 9 1 .fin)))) 6 (.one 4 (.t 7 1 (.one 8 (.t 9 1 .fin))))) 4 (.two 2 (.one 6 (.t 7 1 (.one 8 (.t 9 1 .fin)))) 6 (.one 2 (.t 7 1 (.one 8 (.t 9 1 .fin))))) 6 (.two 2 (.one 4 (.t 7 1 (.one 8 (.t 9 1 .fin)))) 4 (.one 2 (.t 7 1 (.one 8 (.t 9 1 .fin)))))))))) (.s (.s .L (.b (.o [38] [.one (.int .i64)] (.s .L (.s (.c .L .L) (.s (.b (.s .L .L)) .L)))))) (.s (.s .L (.b (.o [54] [.one (.int .i64)] (.s .L (.s (.c .L .L) (.s (.b (.s .L .L)) .L)))))) (.s .L .L)))))) fun _ _ => by kernel_rfl

def sh_turn_Turns_Has (p0 : OA) (n1 : Int) (w : World) (R : RV) : Prop :=
  Calls Pg fn_turn_Turns_edge #[.pointer p0, .int .i64 n1] w fun e4 w3 => ∃ v2, e4 = .returned v2 ∧
 isI v2 ∧ bif (nilI v2) then (
 pt p0 fun a5 =>
 ldS a5 w3 fun s6b s6l s6c =>
 ixS s6b s6l (IntKind.wrap .i64 (2 * n1)) 3 fun a7 =>
 ldI .i32 a7 w3 fun n8 =>
 R (.bool (n8 != (-1))) w3) else (
 R (.bool false) w3)
theorem calls_turn_Turns_Has (p0 : OA) (n1 : Int) : SH fn_turn_Turns_Has [.pointer p0, .int .i64 n1] (sh_turn_Turns_Has p0 n1) := cdn Tryz.func60 (.s .L (.s .L .L)) fun _ _ => by kernel_rfl

def sh_turn_Turns_Origin (p0 : OA) (n1 : Int) (w : World) (R : RV) : Prop :=
  Calls Pg fn_turn_Turns_dart #[.pointer p0, .int .i64 n1] w fun e7 w6 => ∃ n2 n3 n4 v5, e7 = .returned (.tuple #[.agg #[.int .i32 n2, .int .i32 n3, .int .i32 n4], v5]) ∧
 alo #[.int .i32 0, .int .i32 0, .int .i32 0] T_turn_dart w6 fun a8 w9 =>
 sto a8 (.int .i32 n2) w9 fun w10 =>
 sto (a8.add 1) (.int .i32 n3) w10 fun w11 =>
 sto (a8.add 2) (.int .i32 n4) w11 fun w12 =>
 ldI .i32 a8 w12 fun n13 =>
 R (.tuple #[.int .i64 (IntKind.wrap .i64 n13), v5]) w12
theorem calls_turn_Turns_Origin (p0 : OA) (n1 : Int) : SH fn_turn_Turns_Origin [.pointer p0, .int .i64 n1] (sh_turn_Turns_Origin p0 n1) := cdn Tryz.func74 (.s .L (.s .L (.s .L .L))) fun _ _ => by kernel_rfl

def sh_turn_Turns_Degree (p0 : OA) (n1 : Int) (w : World) (R : RV) : Prop :=
  Calls Pg fn_turn_Turns_vertex #[.pointer p0, .int .i64 n1] w fun e4 w3 => ∃ v2, e4 = .returned v2 ∧
 isI v2 ∧ bif (!(nilI v2)) then (
 R (.tuple #[.int .i64 0, v2]) w3) else (
 pt p0 fun a5 =>
 ldS (a5.add 2) w3 fun s6b s6l s6c =>
 ixS s6b s6l n1 1 fun a7 =>
 ldI .i32 a7 w3 fun n8 =>
 R (.tuple #[.int .i64 (IntKind.wrap .i64 n8), .nilIface]) w3)
theorem calls_turn_Turns_Degree (p0 : OA) (n1 : Int) : SH fn_turn_Turns_Degree [.pointer p0, .int .i64 n1] (sh_turn_Turns_Degree p0 n1) := cdn Tryz.func92 (.s .L (.s (.s .L (.s .L (.c (.s .L .L) .L))) (.s .L .L))) fun _ _ => by kernel_rfl

def sh_turn_Turns_edge (p0 : OA) (n1 : Int) (w : World) (R : RV) : Prop :=
  bif (Option.isNone p0) then (
 R (.iface T_api_Errno (.int .i64 1)) w) else (
 bif (decide (n1 < 0)) then (
 R (.iface T_api_Errno (.int .i64 12)) w) else (
 pt p0 fun a2 =>
 ldS a2 w fun s3b s3l s3c =>
 (2 : Int) ≠ 0 ∧ bif (decide (n1 ≥ (IntKind.wrap .i64 (Int.tdiv (s3l : Int) (2 : Int))))) then (
 R (.iface T_api_Errno (.int .i64 12)) w) else (
 R .nilIface w)))
theorem calls_turn_Turns_edge (p0 : OA) (n1 : Int) : SH fn_turn_Turns_edge [.pointer p0, .int .i64 n1] (sh_turn_Turns_edge p0 n1) := cdn Tryz.func103 (.s .L (.s (.b (.s .L (.c (.s .L .L) (.s .L (.c (.s .L .L) .L))))) (.s .L .L))) fun _ _ => by kernel_rfl

def sh_turn_Turns_dart (p0 : OA) (n1 : Int) (w : World) (R : RV) : Prop :=
  alo #[.int .i32 0, .int .i32 0, .int .i32 0] T_turn_dart w fun a2 w3 =>
 bif (Option.isNone p0) then (
 sto a2 (.int .i32 0) w3 fun w4 =>
 sto (a2.add 1) (.int .i32 0) w4 fun w5 =>
 sto (a2.add 2) (.int .i32 0) w5 fun w6 =>
 ldI .i32 a2 w6 fun n7 =>
 ldI .i32 (a2.add 1) w6 fun n8 =>
 ldI .i32 (a2.add 2) w6 fun n9 =>
 R (.tuple #[.agg #[.int .i32 n7, .int .i32 n8, .int .i32 n9], .iface T_api_Errno (.int .i64 1)]) w6) else (
 ∃ J10 : JP, (
 bif (decide (n1 < 0)) then (
 J10 [.bool true] w3) else (
 pt p0 fun a11 =>
 ldS a11 w3 fun s12b s12l s12c =>
 J10 [.bool (decide (n1 ≥ (s12l : Int)))] w3)) ∧ ∀ _ : Env, ∀ b13 w14, J10 [.bool b13] w14 →
 bif b13 then (
 sto a2 (.int .i32 0) w14 fun w15 =>
 sto (a2.add 1) (.int .i32 0) w15 fun w16 =>
 sto (a2.add 2) (.int .i32 0) w16 fun w17 =>
 ldI .i32 a2 w17 fun n18 =>
 ldI .i32 (a2.add 1) w17 fun n19 =>
 ldI .i32 (a2.add 2) w17 fun n20 =>
 R (.tuple #[.agg #[.int .i32 n18, .int .i32 n19, .int .i32 n20], .iface T_api_Errno (.int .i64 12)]) w17) else (
 pt p0 fun a21 =>
 ldS a21 w14 fun s22b s22l s22c =>
 ixS s22b s22l n1 3 fun a23 =>
 ldI .i32 a23 w14 fun n24 =>
 bif (n24 == (-1)) then (
 sto a2 (.int .i32 0) w14 fun w25 =>
 sto (a2.add 1) (.int .i32 0) w25 fun w26 =>
 sto (a2.add 2) (.int .i32 0) w26 fun w27 =>
 ldI .i32 a2 w27 fun n28 =>
 ldI .i32 (a2.add 1) w27 fun n29 =>
 ldI .i32 (a2.add 2) w27 fun n30 =>
 R (.tuple #[.agg #[.int .i32 n28, .int .i32 n29, .int .i32 n30], .iface T_api_Errno (.int .i64 13)]) w27) else (
 pt p0 fun a31 =>
 ldS a31 w14 fun s32b s32l s32c =>
 ixS s32b s32l n1 3 fun a33 =>
 ldI .i32 a33 w14 fun n34 =>
 ldI .i32 (a33.add 1) w14 fun n35 =>
 ldI .i32 (a33.add 2) w14 fun n36 =>
 sto a2 (.int .i32 n34) w14 fun w37 =>
 sto (a2.add 1) (.int .i32 n35) w37 fun w38 =>
 sto (a2.add 2) (.int .i32 n36) w38 fun w39 =>
 ldI .i32 a2 w39 fun n40 =>
 ldI .i32 (a2.add 1) w39 fun n41 =>
 ldI .i32 (a2.add 2) w39 fun n42 =>
 R (.tuple #[.agg #[.int .i32 n40, .int .i32 n41, .int .i32 n42], .nilIface]) w39)))
theorem calls_turn_Turns_dart (p0 : OA) (n1 : Int) : SH fn_turn_Turns_dart [.pointer p0, .int .i64 n1] (sh_turn_Turns_dart p0 n1) := cdnR Tryz.func122 (.s .L (.s (.b (.s .L (.c (.s .L .L) (.j [11] [.one .bool] .L (.c (.s .L .L) (.s .L (.c (.s .L .L) .L))))))) (.s .L .L))) fun _ _ => by kernel_rfl

def sh_turn_Load (n0 n1 : Int) (s2b : OA) (s2l s2c : Nat) (w : World) (R : RV) : Prop :=
  Calls Pg fn_turn_New #[.int .i64 n0, .int .i64 n1] w fun e6 w5 => ∃ p3 v4, e6 = .returned (.tuple #[.pointer p3, v4]) ∧
 isI v4 ∧ bif (!(nilI v4)) then (
 R (.tuple #[.pointer none, v4]) w5) else (
 Calls Pg fn_turn_Turns_odd #[.pointer p3, .slice s2b s2l s2c] w5 fun e9 w8 => ∃ b7, e9 = .returned (.bool b7) ∧
 bif b7 then (
 R (.tuple #[.pointer none, .iface T_api_Errno (.int .i64 3)]) w8) else (
 ∃ (I10 : JP) (m11 : JN), I10 [.int .i64 0] w8 ∧
 ∀ _ : Env, ∀ n12 w13, I10 [.int .i64 n12] w13 →
 bif (decide (n12 < (s2l : Int))) then (
 ixS s2b s2l n12 1 fun a14 =>
 ldS a14 w13 fun s15b s15l s15c =>
 ∃ (I16 : JP) (m17 : JN), I16 [.int .i64 (-1), .int .i64 0] w13 ∧
 ∀ _ : Env, ∀ n18 n19 w20, I16 [.int .i64 n18, .int .i64 n19] w20 →
 bif (decide (n19 < (s15l : Int))) then (
 ixS s15b s15l n19 1 fun a21 =>
 ldI .i64 a21 w20 fun n22 =>
 Calls Pg fn_turn_Turns_put #[.pointer p3, .int .i32 (IntKind.wrap .i32 n22), .agg #[.int .i64 n12, .int .i64 n18]] w20 fun e24 w23 => e24 = .returned (.tuple #[]) ∧
 (I16 [.int .i64 n22, .int .i64 (IntKind.wrap .i64 (n19 + 1))] w23 ∧ m17 [.int .i64 n22, .int .i64 (IntKind.wrap .i64 (n19 + 1))] w23 < m17 [.int .i64 n18, .int .i64 n19] w20)) else (
 (I10 [.int .i64 (IntKind.wrap .i64 (n12 + 1))] w20 ∧ m11 [.int .i64 (IntKind.wrap .i64 (n12 + 1))] w20 < m11 [.int .i64 n12] w13))) else (
 R (.tuple #[.pointer p3, .nilIface]) w13)))
theorem calls_turn_Load (n0 n1 : Int) (s2b : OA) (s2l s2c : Nat) : SH fn_turn_Load [.int .i64 n0, .int .i64 n1, .slice s2b s2l s2c] (sh_turn_Load n0 n1 s2b s2l s2c) := cdn Tryz.func127 (.s .L (.s .L (.s (.s .L (.c (.s .L .L) .L)) (.s (.s .L (.c (.s .L .L) .L)) (.s (.s .L (.b (.o [30] [.one (.int .i64)] (.s .L (.s (.c .L .L) (.s (.b (.s .L (.s .L (.s .L (.b (.o [12, 37] [.one (.int .i64), .one (.int .i64)] (.s .L (.s (.c .L .L) (.s (.b (.s .L (.s .L .L))) .L))))))))) .L)))))) (.s .L .L)))))) fun _ _ => by kernel_rfl

def sh_turn_Turns_vertex (p0 : OA) (n1 : Int) (w : World) (R : RV) : Prop :=
  bif (Option.isNone p0) then (
 R (.iface T_api_Errno (.int .i64 1)) w) else (
 bif (decide (n1 < 0)) then (
 R (.iface T_api_Errno (.int .i64 12)) w) else (
 pt p0 fun a2 =>
 ldS (a2.add 1) w fun s3b s3l s3c =>
 bif (decide (n1 ≥ (s3l : Int))) then (
 R (.iface T_api_Errno (.int .i64 12)) w) else (
 R .nilIface w)))
theorem calls_turn_Turns_vertex (p0 : OA) (n1 : Int) : SH fn_turn_Turns_vertex [.pointer p0, .int .i64 n1] (sh_turn_Turns_vertex p0 n1) := cdn Tryz.func131 (.s .L (.s (.b (.s .L (.c (.s .L .L) (.s .L (.c (.s .L .L) .L))))) (.s .L .L))) fun _ _ => by kernel_rfl

def sh_turn_Turns_odd (p0 s1b : OA) (s1l s1c : Nat) (w : World) (R : RV) : Prop :=
  pt p0 fun a2 =>
 ldS a2 w fun s3b s3l s3c =>
 0 ≤ (s3l : Int) ∧ (s3l : Int) ≤ (s3l : Int) ∧ (1 : Int) * (s3l : Int) ≤ 140737488355328 ∧ alo (zerosOf #[(.bool false)] (Int.toNat (s3l : Int))) T_bool w fun a4 w5 =>
 ∃ (I6 : JP) (m7 : JN), I6 [.int .i64 0] w5 ∧
 ∀ _ : Env, ∀ n8 w9, I6 [.int .i64 n8] w9 →
 bif (decide (n8 < (s1l : Int))) then (
 ixS s1b s1l n8 1 fun a10 =>
 ldS a10 w9 fun s11b s11l s11c =>
 ∃ (I12 : JP) (m13 : JN), I12 [.int .i64 0] w9 ∧
 ∀ _ : Env, ∀ n14 w15, I12 [.int .i64 n14] w15 →
 bif (decide (n14 < (s11l : Int))) then (
 ixS s11b s11l n14 1 fun a16 =>
 ldI .i64 a16 w15 fun n17 =>
 bif (decide (n17 < 0)) then (
 R (.bool true) w15) else (
 bif (decide (n17 ≥ ((Int.toNat (s3l : Int)) : Int))) then (
 R (.bool true) w15) else (
 ixS (some a4) (Int.toNat (s3l : Int)) n17 1 fun a18 =>
 ldB a18 w15 fun b19 =>
 bif b19 then (
 R (.bool true) w15) else (
 ixS (some a4) (Int.toNat (s3l : Int)) n17 1 fun a20 =>
 sto a20 (.bool true) w15 fun w21 =>
 (I12 [.int .i64 (IntKind.wrap .i64 (n14 + 1))] w21 ∧ m13 [.int .i64 (IntKind.wrap .i64 (n14 + 1))] w21 < m13 [.int .i64 n14] w15))))) else (
 (I6 [.int .i64 (IntKind.wrap .i64 (n8 + 1))] w15 ∧ m7 [.int .i64 (IntKind.wrap .i64 (n8 + 1))] w15 < m7 [.int .i64 n8] w9))) else (
 ∃ (I22 : JP) (m23 : JN), I22 [.int .i64 0] w9 ∧
 ∀ _ : Env, ∀ n24 w25, I22 [.int .i64 n24] w25 →
 bif (decide (n24 < ((Int.toNat (s3l : Int)) : Int))) then (
 ixS (some a4) (Int.toNat (s3l : Int)) n24 1 fun a26 =>
 ldB a26 w25 fun b27 =>
 ixS (some a4) (Int.toNat (s3l : Int)) (IntKind.wrap .i64 (((BitVec.ofInt (IntKind.bits .i64) n24 ^^^ BitVec.ofInt (IntKind.bits .i64) (1 : Int)).toNat : Int))) 1 fun a28 =>
 ldB a28 w25 fun b29 =>
 bif (!(b27 == b29)) then (
 R (.bool true) w25) else (
 (I22 [.int .i64 (IntKind.wrap .i64 (n24 + 1))] w25 ∧ m23 [.int .i64 (IntKind.wrap .i64 (n24 + 1))] w25 < m23 [.int .i64 n24] w25))) else (
 pt p0 fun a30 =>
 ldS (a30.add 1) w25 fun s31b s31l s31c =>
 R (.bool (decide ((s1l : Int) > (s31l : Int)))) w25))
theorem calls_turn_Turns_odd (p0 s1b : OA) (s1l s1c : Nat) : SH fn_turn_Turns_odd [.pointer p0, .slice s1b s1l s1c] (sh_turn_Turns_odd p0 s1b s1l s1c) := cdn Tryz.func159 (.s .L (.s .L (.s (.s .L (.b (.o [20] [.one (.int .i64)] (.s .L (.s (.c .L .L) (.s (.b (.s .L (.s .L (.b (.o [26] [.one (.int .i64)] (.s .L (.s (.c .L .L) (.s (.b (.s .L (.s (.s .L (.c (.s .L .L) .L)) .L))) .L)))))))) .L)))))) (.s (.s .L (.b (.o [51] [.one (.int .i64)] (.s .L (.s (.c .L .L) (.s (.b (.s .L (.s .L (.c (.s .L .L) .L)))) .L)))))) (.s .L .L))))) fun _ _ => by kernel_rfl

def sh_turn_Turns_Sizes (p0 : OA) (w : World) (R : RV) : Prop :=
  bif (Option.isNone p0) then (
 R (.tuple #[.int .i64 0, .int .i64 0]) w) else (
 pt p0 fun a1 =>
 ldS (a1.add 1) w.drew fun s2b s2l s2c =>
 pt p0 fun a3 =>
 ldS a3 w.drew fun s4b s4l s4c =>
 (2 : Int) ≠ 0 ∧ R (.tuple #[.int .i64 (s2l : Int), .int .i64 (IntKind.wrap .i64 (Int.tdiv (s4l : Int) (2 : Int)))]) w.drew)
theorem calls_turn_Turns_Sizes (p0 : OA) : SH fn_turn_Turns_Sizes [.pointer p0] (sh_turn_Turns_Sizes p0) := cdn Tryz.func200 (.s .L (.s (.s .L (.c (.s .L .L) .L)) (.s (.r (.t 0 13 .fin)) .L))) fun _ _ => by kernel_rfl

end Go.Proofs.YtdamhidnlfjkdaaGreatDoor
