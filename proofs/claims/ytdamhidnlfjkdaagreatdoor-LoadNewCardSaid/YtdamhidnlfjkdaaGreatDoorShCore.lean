/-
What each function does, as one formula, printed by a program of this session out of the translation; the kernel holds each print against the translation.
Conditions: none.
-/
import Derived.Test.YtdamhidnlfjkdaaGreatDoorSn
namespace Go.Proofs.YtdamhidnlfjkdaaGreatDoor
open Go
set_option linter.unusedVariables false
set_option maxRecDepth 100000
def sh_core_Map_AddVertex (p0 : OA) (n1 : Int) (w : World) (R : RV) : Prop :=
  Calls Pg fn_core_Map_place #[.pointer p0, .int .i64 n1] w fun e4 w3 => ∃ v2, e4 = .returned v2 ∧
 isI v2 ∧ bif (!(nilI v2)) then (
 R v2 w3) else (
 pt p0 fun a5 =>
 ldS (a5.add 1) w3 fun s6b s6l s6c =>
 ixS s6b s6l n1 1 fun a7 =>
 ldB a7 w3 fun b8 =>
 bif b8 then (
 R (.iface T_api_Errno (.int .i64 20)) w3) else (
 pt p0 fun a9 =>
 ldS (a9.add 1) w3 fun s10b s10l s10c =>
 ixS s10b s10l n1 1 fun a11 =>
 sto a11 (.bool true) w3 fun w12 =>
 pt p0 fun a13 =>
 ldI .i64 (a13.add 6) w12 fun n14 =>
 pt p0 fun a15 =>
 sto (a15.add 6) (.int .i64 (IntKind.wrap .i64 (n14 + 1))) w12 fun w16 =>
 pt p0 fun a17 =>
 ldI .i64 ((a17.add 6).add 3) w16 fun n18 =>
 pt p0 fun a19 =>
 sto ((a19.add 6).add 3) (.int .i64 (IntKind.wrap .i64 (n18 + 1))) w16 fun w20 =>
 R .nilIface w20))
theorem calls_core_Map_AddVertex (p0 : OA) (n1 : Int) : SH fn_core_Map_AddVertex [.pointer p0, .int .i64 n1] (sh_core_Map_AddVertex p0 n1) := cdn Tryz.func10 (.s .L (.s (.s .L (.s .L (.c (.s .L .L) .L))) (.s (.s .L (.c (.s .L .L) .L)) (.s .L (.s .L (.s .L (.s .L .L))))))) fun _ _ => by kernel_rfl

def sh_core_Map_Counts (p0 : OA) (w : World) (R : RV) : Prop :=
  alo #[.int .i64 0, .int .i64 0, .int .i64 0, .int .i64 0] T_sphere_Counts w fun a1 w2 =>
 bif (Option.isNone p0) then (
 sto a1 (.int .i64 0) w2 fun w3 =>
 sto (a1.add 1) (.int .i64 0) w3 fun w4 =>
 sto (a1.add 2) (.int .i64 0) w4 fun w5 =>
 sto (a1.add 3) (.int .i64 0) w5 fun w6 =>
 ldI .i64 a1 w6 fun n7 =>
 ldI .i64 (a1.add 1) w6 fun n8 =>
 ldI .i64 (a1.add 2) w6 fun n9 =>
 ldI .i64 (a1.add 3) w6 fun n10 =>
 R (.agg #[.int .i64 n7, .int .i64 n8, .int .i64 n9, .int .i64 n10]) w6) else (
 pt p0 fun a11 =>
 ldI .i64 (a11.add 6) w2 fun n12 =>
 ldI .i64 ((a11.add 6).add 1) w2 fun n13 =>
 ldI .i64 ((a11.add 6).add 2) w2 fun n14 =>
 ldI .i64 ((a11.add 6).add 3) w2 fun n15 =>
 alo #[.int .i64 0, .int .i64 0, .int .i64 0, .int .i64 0] T_sphere_Counts w2 fun a16 w17 =>
 sto a16 (.int .i64 n12) w17 fun w18 =>
 sto (a16.add 1) (.int .i64 n13) w18 fun w19 =>
 sto (a16.add 2) (.int .i64 n14) w19 fun w20 =>
 sto (a16.add 3) (.int .i64 n15) w20 fun w21 =>
 ldI .i64 (a16.add 3) w21 fun n22 =>
 ldI .i64 a16 w21 fun n23 =>
 ldI .i64 (a16.add 1) w21 fun n24 =>
 sto (a16.add 2) (.int .i64 (IntKind.wrap .i64 ((IntKind.wrap .i64 ((IntKind.wrap .i64 (2 * n22)) - n23)) + n24))) w21 fun w25 =>
 ldI .i64 a16 w25 fun n26 =>
 ldI .i64 (a16.add 1) w25 fun n27 =>
 ldI .i64 (a16.add 2) w25 fun n28 =>
 ldI .i64 (a16.add 3) w25 fun n29 =>
 sto a1 (.int .i64 n26) w25 fun w30 =>
 sto (a1.add 1) (.int .i64 n27) w30 fun w31 =>
 sto (a1.add 2) (.int .i64 n28) w31 fun w32 =>
 sto (a1.add 3) (.int .i64 n29) w32 fun w33 =>
 ldI .i64 a1 w33 fun n34 =>
 ldI .i64 (a1.add 1) w33 fun n35 =>
 ldI .i64 (a1.add 2) w33 fun n36 =>
 ldI .i64 (a1.add 3) w33 fun n37 =>
 R (.agg #[.int .i64 n34, .int .i64 n35, .int .i64 n36, .int .i64 n37]) w33)
theorem calls_core_Map_Counts (p0 : OA) : SH fn_core_Map_Counts [.pointer p0] (sh_core_Map_Counts p0) := cdnR Tryz.func14 (.s .L (.s (.s .L (.c (.s .L .L) .L)) (.s .L (.s .L (.s .L .L))))) fun _ _ => by kernel_rfl

def sh_core_Map_Room (p0 : OA) (w : World) (R : RV) : Prop :=
  bif (Option.isNone p0) then (
 R (.int .i64 0) w) else (
 pt p0 fun a1 =>
 ldI .i64 a1 w fun n2 =>
 R (.int .i64 n2) w)
theorem calls_core_Map_Room (p0 : OA) : SH fn_core_Map_Room [.pointer p0] (sh_core_Map_Room p0) := cdn Tryz.func18 (.s .L (.s (.s .L (.c (.s .L .L) .L)) (.s .L .L))) fun _ _ => by kernel_rfl

def sh_core_New (n0 : Int) (w : World) (R : RV) : Prop :=
  Calls Pg fn_turn_New #[.int .i64 n0, .int .i64 n0] w fun e4 w3 => ∃ p1 v2, e4 = .returned (.tuple #[.pointer p1, v2]) ∧
 isI v2 ∧ bif (!(nilI v2)) then (
 R (.tuple #[.pointer none, v2]) w3) else (
 Calls Pg fn_web_New #[.int .i64 (IntKind.wrap .i64 (3 * n0)), .int .i64 n0] w3 fun e8 w7 => ∃ p5 v6, e8 = .returned (.tuple #[.pointer p5, v6]) ∧
 isI v6 ∧ bif (!(nilI v6)) then (
 R (.tuple #[.pointer none, v6]) w7) else (
 Calls Pg fn_cut_New #[.int .i64 (IntKind.wrap .i64 (2 * n0))] w7 fun e12 w11 => ∃ p9 v10, e12 = .returned (.tuple #[.pointer p9, v10]) ∧
 isI v10 ∧ bif (!(nilI v10)) then (
 R (.tuple #[.pointer none, v10]) w11) else (
 ∃ (I13 : JP) (m14 : JN), I13 [.int .i64 0] w11 ∧
 ∀ _ : Env, ∀ n15 w16, I13 [.int .i64 n15] w16 →
 bif (decide (n15 < n0)) then (
 Calls Pg fn_edges_Least #[] w16 fun e19 w18 => ∃ n17, e19 = .returned (.int .i64 n17) ∧
 Calls Pg fn_cut_Forest_Set #[.pointer p9, .int .i64 n15, .int .i64 n17] w18 fun e22 w21 => ∃ v20, e22 = .returned v20 ∧
 isI v20 ∧ bif (!(nilI v20)) then (
 R (.tuple #[.pointer none, v20]) w21) else (
 (I13 [.int .i64 (IntKind.wrap .i64 (n15 + 1))] w21 ∧ m14 [.int .i64 (IntKind.wrap .i64 (n15 + 1))] w21 < m14 [.int .i64 n15] w16))) else (
 (0 ≤ n0 ∧ n0 ≤ n0 ∧ (1 : Int) * n0 ≤ 140737488355328 ∧ alo (zerosOf #[(.bool false)] (Int.toNat n0)) T_bool w16.drew fun a23 w24 =>
 0 ≤ n0 ∧ n0 ≤ n0 ∧ (8 : Int) * n0 ≤ 140737488355328 ∧ alo (zerosOf #[(.int .i64 0)] (Int.toNat n0)) T_int64 w24 fun a25 w26 =>
 alo #[.int .i64 n0, .slice (some a23) (Int.toNat n0) (Int.toNat n0), .pointer p1, .pointer p5, .pointer p9, .slice (some a25) (Int.toNat n0) (Int.toNat n0), .int .i64 0, .int .i64 0, .int .i64 0, .int .i64 0, .int .i64 0] T_core_Map w26 fun a27 w28 =>
 R (.tuple #[.pointer (some a27), .nilIface]) w28) ∧ (
 0 ≤ n0 ∧ n0 ≤ n0 ∧ (8 : Int) * n0 ≤ 140737488355328 ∧ alo (zerosOf #[(.int .i64 0)] (Int.toNat n0)) T_int64 w16.drew fun a29 w30 =>
 0 ≤ n0 ∧ n0 ≤ n0 ∧ (1 : Int) * n0 ≤ 140737488355328 ∧ alo (zerosOf #[(.bool false)] (Int.toNat n0)) T_bool w30 fun a31 w32 =>
 alo #[.int .i64 n0, .slice (some a31) (Int.toNat n0) (Int.toNat n0), .pointer p1, .pointer p5, .pointer p9, .slice (some a29) (Int.toNat n0) (Int.toNat n0), .int .i64 0, .int .i64 0, .int .i64 0, .int .i64 0, .int .i64 0] T_core_Map w32 fun a33 w34 =>
 R (.tuple #[.pointer (some a33), .nilIface]) w34)))))
theorem calls_core_New (n0 : Int) : SH fn_core_New [.int .i64 n0] (sh_core_New n0) := cdn Tryz.func26 (.s .L (.s .L (.s (.s .L (.c (.s .L .L) .L)) (.s .L (.s (.s .L (.c (.s .L .L) .L)) (.s .L (.s (.s .L (.c (.s .L .L) .L)) (.s (.s .L (.b (.o [39] [.one (.int .i64)] (.s .L (.s (.c .L .L) (.s (.b (.s .L (.s .L (.s .L (.c (.s .L .L) .L))))) .L)))))) (.s (.r (.t 0 2 (.t 3 4 (.two 2 (.one 7 (.t 8 1 (.one 9 (.t 10 2 .fin)))) 7 (.one 2 (.t 8 1 (.one 9 (.t 10 2 .fin)))))))) .L))))))))) fun _ _ => by kernel_rfl

def sh_core_Map_place (p0 : OA) (n1 : Int) (w : World) (R : RV) : Prop :=
  bif (Option.isNone p0) then (
 R (.iface T_api_Errno (.int .i64 1)) w) else (
 bif (decide (n1 < 0)) then (
 R (.iface T_api_Errno (.int .i64 12)) w) else (
 pt p0 fun a2 =>
 ldI .i64 a2 w fun n3 =>
 bif (decide (n1 ≥ n3)) then (
 R (.iface T_api_Errno (.int .i64 12)) w) else (
 R .nilIface w)))
theorem calls_core_Map_place (p0 : OA) (n1 : Int) : SH fn_core_Map_place [.pointer p0, .int .i64 n1] (sh_core_Map_place p0 n1) := cdn Tryz.func27 (.s .L (.s (.b (.s .L (.c (.s .L .L) (.s .L (.c (.s .L .L) .L))))) (.s .L .L))) fun _ _ => by kernel_rfl

end Go.Proofs.YtdamhidnlfjkdaaGreatDoor
