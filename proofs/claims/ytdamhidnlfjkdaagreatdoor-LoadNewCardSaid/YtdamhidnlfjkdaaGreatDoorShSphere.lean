/-
What each function does, as one formula, printed by a program of this session out of the translation; the kernel holds each print against the translation.
Conditions: none.
-/
import Derived.Test.YtdamhidnlfjkdaaGreatDoorSn
namespace Go.Proofs.YtdamhidnlfjkdaaGreatDoor
open Go
set_option linter.unusedVariables false
set_option maxRecDepth 100000
def sh_sphere_Flat (p0 s1b : OA) (s1l s1c : Nat) (w : World) (R : RV) : Prop :=
  Calls Pg fn_sphere_each #[.pointer p0, .slice s1b s1l s1c] w fun e5 w4 => ∃ m2 v3, e5 = .returned (.tuple #[.map m2, v3]) ∧
 isI v3 ∧ bif (!(nilI v3)) then (
 R (.tuple #[.bool false, v3]) w4) else (
 ∃ p6 w7, (Instr.range T_map_intsphere_Counts (.map m2)).run Pg w4 = .ok (.pointer p6) w7 ∧
 ∃ (I8 : JP) (m9 : JN), I8 [] w7 ∧
 ∀ _ : Env, ∀ w10, I8 [] w10 →
 (∃ w11, (Instr.next (.pointer p6) false T_).run Pg w10 = .ok (.tuple #[.bool false]) w11 ∧
 R (.tuple #[.bool true, .nilIface]) w11) ∨ (
 ∃ w12, (Instr.next (.pointer p6) false T_).run Pg w10 = .ok (.tuple #[]) w12 ∧
 False))
theorem calls_sphere_Flat (p0 s1b : OA) (s1l s1c : Nat) : SH fn_sphere_Flat [.pointer p0, .slice s1b s1l s1c] (sh_sphere_Flat p0 s1b s1l s1c) := cdn Tryz.func128 (.s .L (.s .L (.s (.s .L (.c (.s .L .L) .L)) (.s (.s .L (.b (.o [] [] (.s .L (.s (.c .L .L) (.b (.s .L (.s .L (.c (.s .L .L) .L))))))))) (.s .L .L))))) fun _ _ => by kernel_rfl

def sh_sphere_each (p0 s1b : OA) (s1l s1c : Nat) (w : World) (R : RV) : Prop :=
  Calls Pg fn_sphere_check #[.pointer p0, .slice s1b s1l s1c] w fun e4 w3 => ∃ v2, e4 = .returned v2 ∧
 isI v2 ∧ bif (!(nilI v2)) then (
 R (.tuple #[.map none, v2]) w3) else (
 Calls Pg fn_sphere_groups #[.pointer p0] w3 fun e8 w7 => ∃ p5 v6, e8 = .returned (.tuple #[.pointer p5, v6]) ∧
 isI v6 ∧ bif (!(nilI v6)) then (
 R (.tuple #[.map none, v6]) w7) else (
 ∃ m9 w10, (Instr.makeMap T_map_intsphere_Counts none).run Pg w7 = .ok (.map m9) w10 ∧
 ∃ (I11 : JP) (m12 : JN), I11 [.int .i64 0] w10 ∧
 ∀ _ : Env, ∀ n13 w14, I11 [.int .i64 n13] w14 →
 bif (decide (n13 < (s1l : Int))) then (
 ixS s1b s1l n13 1 fun a15 =>
 ldI .i64 a15 w14 fun n16 =>
 Calls Pg fn_turn_Turns_Degree #[.pointer p0, .int .i64 n16] w14 fun e20 w19 => ∃ n17 v18, e20 = .returned (.tuple #[.int .i64 n17, v18]) ∧
 isI v18 ∧ bif (!(nilI v18)) then (
 R (.tuple #[.map none, v18]) w19) else (
 Calls Pg fn_sphere_add #[.map m9, .pointer p5, .int .i64 n16, .agg #[.int .i64 1, .int .i64 n17, .int .i64 0, .int .i64 0]] w19 fun e23 w22 => ∃ v21, e23 = .returned v21 ∧
 isI v21 ∧ bif (!(nilI v21)) then (
 R (.tuple #[.map none, v21]) w22) else (
 bif (n17 == 0) then (
 Calls Pg fn_sphere_add #[.map m9, .pointer p5, .int .i64 n16, .agg #[.int .i64 0, .int .i64 0, .int .i64 1, .int .i64 0]] w22 fun e26 w25 => ∃ v24, e26 = .returned v24 ∧
 isI v24 ∧ bif (!(nilI v24)) then (
 R (.tuple #[.map none, v24]) w25) else (
 (I11 [.int .i64 (IntKind.wrap .i64 (n13 + 1))] w25 ∧ m12 [.int .i64 (IntKind.wrap .i64 (n13 + 1))] w25 < m12 [.int .i64 n13] w14))) else (
 isI v18 ∧ bif (!(nilI v18)) then (
 R (.tuple #[.map none, v18]) w22) else (
 (I11 [.int .i64 (IntKind.wrap .i64 (n13 + 1))] w22 ∧ m12 [.int .i64 (IntKind.wrap .i64 (n13 + 1))] w22 < m12 [.int .i64 n13] w14)))))) else (
 Calls Pg fn_face_All #[.pointer p0] w14 fun e29 w28 => ∃ s27b s27l s27c, e29 = .returned (.slice s27b s27l s27c) ∧
 ∃ (I30 : JP) (m31 : JN), I30 [.int .i64 0] w28 ∧
 ∀ _ : Env, ∀ n32 w33, I30 [.int .i64 n32] w33 →
 bif (decide (n32 < (s27l : Int))) then (
 ixS s27b s27l n32 1 fun a34 =>
 ldS a34 w33 fun s35b s35l s35c =>
 ixS s35b s35l (0 : Int) 1 fun a36 =>
 ldI .i64 a36 w33 fun n37 =>
 Calls Pg fn_turn_Turns_Origin #[.pointer p0, .int .i64 n37] w33 fun e41 w40 => ∃ n38 v39, e41 = .returned (.tuple #[.int .i64 n38, v39]) ∧
 isI v39 ∧ bif (!(nilI v39)) then (
 R (.tuple #[.map none, v39]) w40) else (
 Calls Pg fn_sphere_add #[.map m9, .pointer p5, .int .i64 n38, .agg #[.int .i64 0, .int .i64 0, .int .i64 1, .int .i64 0]] w40 fun e44 w43 => ∃ v42, e44 = .returned v42 ∧
 isI v42 ∧ bif (!(nilI v42)) then (
 R (.tuple #[.map none, v42]) w43) else (
 (I30 [.int .i64 (IntKind.wrap .i64 (n32 + 1))] w43 ∧ m31 [.int .i64 (IntKind.wrap .i64 (n32 + 1))] w43 < m31 [.int .i64 n32] w33)))) else (
 R (.tuple #[.map m9, .nilIface]) w33))))
theorem calls_sphere_each (p0 s1b : OA) (s1l s1c : Nat) : SH fn_sphere_each [.pointer p0, .slice s1b s1l s1c] (sh_sphere_each p0 s1b s1l s1c) := cdn Tryz.func160 (.s .L (.s (.s .L (.s .L (.c (.s .L .L) .L))) (.s .L (.s (.s .L (.c (.s .L .L) .L)) (.s .L (.s (.s .L (.b (.o [37] [.one (.int .i64)] (.s .L (.s (.c .L .L) (.s (.b (.s .L (.s .L (.s (.s .L (.c (.s .L .L) .L)) (.s (.s .L (.s .L (.c (.s .L .L) .L))) (.s (.s .L (.c .L .L)) (.s .L (.c (.s .L .L) .L)))))))) .L)))))) (.s (.s .L (.b (.o [73] [.one (.int .i64)] (.s .L (.s (.c .L .L) (.s (.b (.s .L (.s .L (.s (.s .L (.c (.s .L .L) .L)) (.s .L (.s .L (.c (.s .L .L) .L))))))) .L)))))) (.s .L .L)))))))) fun _ _ => by kernel_rfl

def sh_sphere_check (p0 s1b : OA) (s1l s1c : Nat) (w : World) (R : RV) : Prop :=
  Calls Pg fn_turn_Turns_Sizes #[.pointer p0] w fun e5 w4 => ∃ n2 n3, e5 = .returned (.tuple #[.int .i64 n2, .int .i64 n3]) ∧
 alo #[.int .i64 0] T_int w4 fun a6 w7 =>
 sto a6 (.int .i64 n2) w7 fun w8 =>
 bif (Option.isNone p0) then (
 R (.iface T_api_Errno (.int .i64 1)) w8) else (
 Calls Pg fn_slices_ContainsFunc__intint #[.slice s1b s1l s1c, .func (.func fn_sphere_check_1) #[] #[.pointer (some a6)]] w8 fun e11 w10 => ∃ b9, e11 = .returned (.bool b9) ∧
 bif b9 then (
 R (.iface T_api_Errno (.int .i64 12)) w10) else (
 ldI .i64 a6 w10 fun n12 =>
 0 ≤ n12 ∧ n12 ≤ n12 ∧ (1 : Int) * n12 ≤ 140737488355328 ∧ alo (zerosOf #[(.bool false)] (Int.toNat n12)) T_bool w10 fun a13 w14 =>
 ∃ (I15 : JP) (m16 : JN), I15 [.int .i64 0] w14 ∧
 ∀ _ : Env, ∀ n17 w18, I15 [.int .i64 n17] w18 →
 bif (decide (n17 < (s1l : Int))) then (
 ixS s1b s1l n17 1 fun a19 =>
 ldI .i64 a19 w18 fun n20 =>
 ixS (some a13) (Int.toNat n12) n20 1 fun a21 =>
 ldB a21 w18 fun b22 =>
 bif b22 then (
 R (.iface T_api_Errno (.int .i64 20)) w18) else (
 ixS (some a13) (Int.toNat n12) n20 1 fun a23 =>
 sto a23 (.bool true) w18 fun w24 =>
 (I15 [.int .i64 (IntKind.wrap .i64 (n17 + 1))] w24 ∧ m16 [.int .i64 (IntKind.wrap .i64 (n17 + 1))] w24 < m16 [.int .i64 n17] w18))) else (
 ∃ (I25 : JP) (m26 : JN), I25 [.int .i64 0] w18 ∧
 ∀ _ : Env, ∀ n27 w28, I25 [.int .i64 n27] w28 →
 bif (decide (n27 < ((Int.toNat n12) : Int))) then (
 ixS (some a13) (Int.toNat n12) n27 1 fun a29 =>
 ldB a29 w28 fun b30 =>
 Calls Pg fn_turn_Turns_Degree #[.pointer p0, .int .i64 n27] w28 fun e34 w33 => ∃ n31 v32, e34 = .returned (.tuple #[.int .i64 n31, v32]) ∧
 isI v32 ∧ bif (!(nilI v32)) then (
 R (.iface T_api_Errno (.int .i64 13)) w33) else (
 bif (decide (n31 > 0)) then (
 bif (!b30) then (
 R (.iface T_api_Errno (.int .i64 13)) w33) else (
 (I25 [.int .i64 (IntKind.wrap .i64 (n27 + 1))] w33 ∧ m26 [.int .i64 (IntKind.wrap .i64 (n27 + 1))] w33 < m26 [.int .i64 n27] w28))) else (
 (I25 [.int .i64 (IntKind.wrap .i64 (n27 + 1))] w33 ∧ m26 [.int .i64 (IntKind.wrap .i64 (n27 + 1))] w33 < m26 [.int .i64 n27] w28)))) else (
 R .nilIface w28))))
theorem calls_sphere_check (p0 s1b : OA) (s1l s1c : Nat) : SH fn_sphere_check [.pointer p0, .slice s1b s1l s1c] (sh_sphere_check p0 s1b s1l s1c) := cdn Tryz.func185 (.s .L (.s .L (.s .L (.s (.b (.s .L (.c (.s .L .L) (.s .L (.c (.s .L .L) .L))))) (.s .L (.s (.s .L (.b (.o [34] [.one (.int .i64)] (.s .L (.s (.c .L .L) (.s (.b (.s .L (.s (.s .L (.c (.s .L .L) .L)) .L))) .L)))))) (.s (.s .L (.b (.o [49] [.one (.int .i64)] (.s .L (.s (.c .L .L) (.s (.b (.s .L (.s .L (.s .L (.c (.s .L .L) .L))))) .L)))))) (.s .L .L)))))))) fun _ _ => by kernel_rfl

def sh_sphere_groups (p0 : OA) (w : World) (R : RV) : Prop :=
  Calls Pg fn_turn_Turns_Sizes #[.pointer p0] w fun e4 w3 => ∃ n1 n2, e4 = .returned (.tuple #[.int .i64 n1, .int .i64 n2]) ∧
 Calls Pg fn_unite_New #[.int .i64 n1] w3 fun e8 w7 => ∃ p5 v6, e8 = .returned (.tuple #[.pointer p5, v6]) ∧
 isI v6 ∧ bif (!(nilI v6)) then (
 R (.tuple #[.pointer none, v6]) w7) else (
 ∃ (I9 : JP) (m10 : JN), I9 [.int .i64 0] w7 ∧
 ∀ _ : Env, ∀ n11 w12, I9 [.int .i64 n11] w12 →
 bif (decide (n11 < n2)) then (
 Calls Pg fn_turn_Turns_Has #[.pointer p0, .int .i64 n11] w12 fun e15 w14 => ∃ b13, e15 = .returned (.bool b13) ∧
 bif (!b13) then (
 (I9 [.int .i64 (IntKind.wrap .i64 (n11 + 1))] w14 ∧ m10 [.int .i64 (IntKind.wrap .i64 (n11 + 1))] w14 < m10 [.int .i64 n11] w12)) else (
 Calls Pg fn_sphere_ends #[.pointer p0, .int .i64 n11] w14 fun e20 w19 => ∃ n16 n17 v18, e20 = .returned (.tuple #[.int .i64 n16, .int .i64 n17, v18]) ∧
 isI v18 ∧ bif (!(nilI v18)) then (
 R (.tuple #[.pointer none, v18]) w19) else (
 Calls Pg fn_unite_Groups_Join #[.pointer p5, .int .i64 n16, .int .i64 n17] w19 fun e24 w23 => ∃ b21 v22, e24 = .returned (.tuple #[.bool b21, v22]) ∧
 isI v22 ∧ bif (!(nilI v22)) then (
 R (.tuple #[.pointer none, v22]) w23) else (
 (I9 [.int .i64 (IntKind.wrap .i64 (n11 + 1))] w23 ∧ m10 [.int .i64 (IntKind.wrap .i64 (n11 + 1))] w23 < m10 [.int .i64 n11] w12))))) else (
 R (.tuple #[.pointer p5, .nilIface]) w12))
theorem calls_sphere_groups (p0 : OA) : SH fn_sphere_groups [.pointer p0] (sh_sphere_groups p0) := cdn Tryz.func186 (.s .L (.s .L (.s .L (.s (.s .L (.c (.s .L .L) .L)) (.s (.s .L (.b (.o [28] [.one (.int .i64)] (.s .L (.s (.c .L .L) (.s (.b (.s .L (.s (.s .L (.c .L .L)) (.s .L (.s (.s .L (.c (.s .L .L) .L)) (.s .L (.s .L (.c (.s .L .L) .L)))))))) .L)))))) (.s .L .L)))))) fun _ _ => by kernel_rfl

end Go.Proofs.YtdamhidnlfjkdaaGreatDoor
