/-
What each function does, as one formula, printed by a program of this session out of the translation; the kernel holds each print against the translation.
Conditions: none.
-/
import Derived.Test.YtdamhidnlfjkdaaGreatDoorSn
namespace Go.Proofs.YtdamhidnlfjkdaaGreatDoor
open Go
set_option linter.unusedVariables false
set_option maxRecDepth 100000
def sh_unite_New (n0 : Int) (w : World) (R : RV) : Prop :=
  ∃ J1 : JP, (
 bif (decide (n0 < 1)) then (
 R (.tuple #[.pointer none, .iface T_api_Errno (.int .i64 1)]) w) else (
 bif (decide (n0 > 4194304)) then (
 R (.tuple #[.pointer none, .iface T_api_Errno (.int .i64 1)]) w) else (
 J1 [] w))) ∧ ∀ _ : Env, ∀ w2, J1 [] w2 →
 ∃ J3 : JP, (
 (0 ≤ n0 ∧ n0 ≤ n0 ∧ (4 : Int) * n0 ≤ 140737488355328 ∧ alo (zerosOf #[(.int .i32 0)] (Int.toNat n0)) T_int32 w2.drew fun a4 w5 =>
 (0 ≤ n0 ∧ n0 ≤ n0 ∧ (4 : Int) * n0 ≤ 140737488355328 ∧ alo (zerosOf #[(.int .i32 0)] (Int.toNat n0)) T_int32 w5 fun a6 w7 =>
 0 ≤ n0 ∧ n0 ≤ n0 ∧ (4 : Int) * n0 ≤ 140737488355328 ∧ alo (zerosOf #[(.int .i32 0)] (Int.toNat n0)) T_int32 w7 fun a8 w9 =>
 alo #[.slice (some a4) (Int.toNat n0) (Int.toNat n0), .slice (some a6) (Int.toNat n0) (Int.toNat n0), .slice (some a8) (Int.toNat n0) (Int.toNat n0), .slice none 0 0] T_unite_Groups w9 fun a10 w11 =>
 J3 [.pointer (some a10)] w11) ∧ (
 0 ≤ n0 ∧ n0 ≤ n0 ∧ (4 : Int) * n0 ≤ 140737488355328 ∧ alo (zerosOf #[(.int .i32 0)] (Int.toNat n0)) T_int32 w5 fun a12 w13 =>
 0 ≤ n0 ∧ n0 ≤ n0 ∧ (4 : Int) * n0 ≤ 140737488355328 ∧ alo (zerosOf #[(.int .i32 0)] (Int.toNat n0)) T_int32 w13 fun a14 w15 =>
 alo #[.slice (some a4) (Int.toNat n0) (Int.toNat n0), .slice (some a14) (Int.toNat n0) (Int.toNat n0), .slice (some a12) (Int.toNat n0) (Int.toNat n0), .slice none 0 0] T_unite_Groups w15 fun a16 w17 =>
 J3 [.pointer (some a16)] w17)) ∧ (
 0 ≤ n0 ∧ n0 ≤ n0 ∧ (4 : Int) * n0 ≤ 140737488355328 ∧ alo (zerosOf #[(.int .i32 0)] (Int.toNat n0)) T_int32 w2.drew fun a18 w19 =>
 (0 ≤ n0 ∧ n0 ≤ n0 ∧ (4 : Int) * n0 ≤ 140737488355328 ∧ alo (zerosOf #[(.int .i32 0)] (Int.toNat n0)) T_int32 w19 fun a20 w21 =>
 0 ≤ n0 ∧ n0 ≤ n0 ∧ (4 : Int) * n0 ≤ 140737488355328 ∧ alo (zerosOf #[(.int .i32 0)] (Int.toNat n0)) T_int32 w21 fun a22 w23 =>
 alo #[.slice (some a20) (Int.toNat n0) (Int.toNat n0), .slice (some a18) (Int.toNat n0) (Int.toNat n0), .slice (some a22) (Int.toNat n0) (Int.toNat n0), .slice none 0 0] T_unite_Groups w23 fun a24 w25 =>
 J3 [.pointer (some a24)] w25) ∧ (
 0 ≤ n0 ∧ n0 ≤ n0 ∧ (4 : Int) * n0 ≤ 140737488355328 ∧ alo (zerosOf #[(.int .i32 0)] (Int.toNat n0)) T_int32 w19 fun a26 w27 =>
 0 ≤ n0 ∧ n0 ≤ n0 ∧ (4 : Int) * n0 ≤ 140737488355328 ∧ alo (zerosOf #[(.int .i32 0)] (Int.toNat n0)) T_int32 w27 fun a28 w29 =>
 alo #[.slice (some a28) (Int.toNat n0) (Int.toNat n0), .slice (some a18) (Int.toNat n0) (Int.toNat n0), .slice (some a26) (Int.toNat n0) (Int.toNat n0), .slice none 0 0] T_unite_Groups w29 fun a30 w31 =>
 J3 [.pointer (some a30)] w31)) ∧ (
 0 ≤ n0 ∧ n0 ≤ n0 ∧ (4 : Int) * n0 ≤ 140737488355328 ∧ alo (zerosOf #[(.int .i32 0)] (Int.toNat n0)) T_int32 w2.drew fun a32 w33 =>
 (0 ≤ n0 ∧ n0 ≤ n0 ∧ (4 : Int) * n0 ≤ 140737488355328 ∧ alo (zerosOf #[(.int .i32 0)] (Int.toNat n0)) T_int32 w33 fun a34 w35 =>
 0 ≤ n0 ∧ n0 ≤ n0 ∧ (4 : Int) * n0 ≤ 140737488355328 ∧ alo (zerosOf #[(.int .i32 0)] (Int.toNat n0)) T_int32 w35 fun a36 w37 =>
 alo #[.slice (some a34) (Int.toNat n0) (Int.toNat n0), .slice (some a36) (Int.toNat n0) (Int.toNat n0), .slice (some a32) (Int.toNat n0) (Int.toNat n0), .slice none 0 0] T_unite_Groups w37 fun a38 w39 =>
 J3 [.pointer (some a38)] w39) ∧ (
 0 ≤ n0 ∧ n0 ≤ n0 ∧ (4 : Int) * n0 ≤ 140737488355328 ∧ alo (zerosOf #[(.int .i32 0)] (Int.toNat n0)) T_int32 w33 fun a40 w41 =>
 0 ≤ n0 ∧ n0 ≤ n0 ∧ (4 : Int) * n0 ≤ 140737488355328 ∧ alo (zerosOf #[(.int .i32 0)] (Int.toNat n0)) T_int32 w41 fun a42 w43 =>
 alo #[.slice (some a42) (Int.toNat n0) (Int.toNat n0), .slice (some a40) (Int.toNat n0) (Int.toNat n0), .slice (some a32) (Int.toNat n0) (Int.toNat n0), .slice none 0 0] T_unite_Groups w43 fun a44 w45 =>
 J3 [.pointer (some a44)] w45))) ∧ ∀ _ : Env, ∀ p46 w47, J3 [.pointer p46] w47 →
 pt p46 fun a48 =>
 ldS a48 w47 fun s49b s49l s49c =>
 ∃ (I50 : JP) (m51 : JN), I50 [.int .i64 0] w47 ∧
 ∀ _ : Env, ∀ n52 w53, I50 [.int .i64 n52] w53 →
 bif (decide (n52 < (s49l : Int))) then (
 pt p46 fun a54 =>
 ldS a54 w53.drew fun s55b s55l s55c =>
 pt p46 fun a56 =>
 ldS (a56.add 1) w53.drew fun s57b s57l s57c =>
 pt p46 fun a58 =>
 ldS (a58.add 2) w53.drew fun s59b s59l s59c =>
 ixS s55b s55l n52 1 fun a60 =>
 sto a60 (.int .i32 (IntKind.wrap .i32 n52)) w53.drew fun w61 =>
 ixS s57b s57l n52 1 fun a62 =>
 sto a62 (.int .i32 1) w61 fun w63 =>
 ixS s59b s59l n52 1 fun a64 =>
 sto a64 (.int .i32 (IntKind.wrap .i32 n52)) w63 fun w65 =>
 (I50 [.int .i64 (IntKind.wrap .i64 (n52 + 1))] w65 ∧ m51 [.int .i64 (IntKind.wrap .i64 (n52 + 1))] w65 < m51 [.int .i64 n52] w53)) else (
 R (.tuple #[.pointer p46, .nilIface]) w53)
theorem calls_unite_New (n0 : Int) : SH fn_unite_New [.int .i64 n0] (sh_unite_New n0) := cdn Tryz.func203 (.s .L (.j [] [] (.s .L (.c (.s .L .L) .L)) (.j [4] [.one .ptr] (.r (.t 0 1 (.t 2 1 (.t 4 1 (.thr 1 (.two 3 (.one 5 (.t 6 1 (.one 7 (.t 8 1 .fin)))) 5 (.one 3 (.t 6 1 (.one 7 (.t 8 1 .fin))))) 3 (.two 1 (.one 5 (.t 6 1 (.one 7 (.t 8 1 .fin)))) 5 (.one 1 (.t 6 1 (.one 7 (.t 8 1 .fin))))) 5 (.two 1 (.one 3 (.t 6 1 (.one 7 (.t 8 1 .fin)))) 3 (.one 1 (.t 6 1 (.one 7 (.t 8 1 .fin)))))))))) (.s (.s .L (.b (.o [26] [.one (.int .i64)] (.s .L (.s (.c .L .L) (.s (.b (.s .L (.r (.t 0 3 (.tk 3 [19, 20, 21, 22, 23, 24] [20, 22, 24] (.t 4 4 (.tk 8 [19, 20, 21, 22, 23, 24] [20, 22, 24] (.t 9 4 (.tk 13 [19, 20, 21, 22, 23, 24] [20, 22, 24] (.t 14 6 (.one 20 (.t 21 1 (.one 22 (.t 23 1 (.one 24 .fin))))))))))))))) .L)))))) (.s .L .L))))) fun _ _ => by kernel_rfl

end Go.Proofs.YtdamhidnlfjkdaaGreatDoor
