/-
What each function does, as one formula, printed by a program of this session out of the translation; the kernel holds each print against the translation.
Conditions: none.
-/
import Derived.Test.YtdamhidnlfjkdaaGreatDoorSn
namespace Go.Proofs.YtdamhidnlfjkdaaGreatDoor
open Go
set_option linter.unusedVariables false
set_option maxRecDepth 100000
def sh_model_Check (n0 : Int) (s1b : OA) (s1l s1c : Nat) (s2b : OA) (s2l s2c : Nat) (s3b : OA) (s3l s3c : Nat) (w : World) (R : RV) : Prop :=
  alo #[.int .i64 n0, .slice s1b s1l s1c, .slice s2b s2l s2c, .slice s3b s3l s3c] T_model_Model w fun a4 w5 =>
 ldI .i64 a4 w5 fun n6 =>
 ldS (a4.add 1) w5 fun s7b s7l s7c =>
 ldS (a4.add 2) w5 fun s8b s8l s8c =>
 ldS (a4.add 3) w5 fun s9b s9l s9c =>
 Calls Pg fn_model_Round #[.agg #[.int .i64 n6, .slice s7b s7l s7c, .slice s8b s8l s8c, .slice s9b s9l s9c]] w5 fun e13 w12 => ∃ s10b s10l s10c v11, e13 = .returned (.tuple #[.slice s10b s10l s10c, v11]) ∧
 R v11 w12
theorem calls_model_Check (n0 : Int) (s1b : OA) (s1l s1c : Nat) (s2b : OA) (s2l s2c : Nat) (s3b : OA) (s3l s3c : Nat) : SH fn_model_Check [.agg #[.int .i64 n0, .slice s1b s1l s1c, .slice s2b s2l s2c, .slice s3b s3l s3c]] (sh_model_Check n0 s1b s1l s1c s2b s2l s2c s3b s3l s3c) := cdn Tryz.func22 (.s .L (.s .L (.s .L .L))) fun _ _ => by kernel_rfl

def sh_model_Encode (n0 : Int) (s1b : OA) (s1l s1c : Nat) (s2b : OA) (s2l s2c : Nat) (s3b : OA) (s3l s3c : Nat) (w : World) (R : RV) : Prop :=
  alo #[.int .i64 n0, .slice s1b s1l s1c, .slice s2b s2l s2c, .slice s3b s3l s3c] T_model_Model w fun a4 w5 =>
 ldI .i64 a4 w5 fun n6 =>
 ldS (a4.add 1) w5 fun s7b s7l s7c =>
 ldS (a4.add 2) w5 fun s8b s8l s8c =>
 ldS (a4.add 3) w5 fun s9b s9l s9c =>
 Calls Pg fn_model_Check #[.agg #[.int .i64 n6, .slice s7b s7l s7c, .slice s8b s8l s8c, .slice s9b s9l s9c]] w5 fun e12 w11 => ∃ v10, e12 = .returned v10 ∧
 isI v10 ∧ bif (!(nilI v10)) then (
 R (.tuple #[.slice none 0 0, v10]) w11) else (
 ldI .i64 a4 w11 fun n13 =>
 ldS (a4.add 1) w11 fun s14b s14l s14c =>
 ldS (a4.add 2) w11 fun s15b s15l s15c =>
 ldS (a4.add 3) w11 fun s16b s16l s16c =>
 Calls Pg fn_model_encoded #[.agg #[.int .i64 n13, .slice s14b s14l s14c, .slice s15b s15l s15c, .slice s16b s16l s16c]] w11 fun e19 w18 => ∃ s17b s17l s17c, e19 = .returned (.slice s17b s17l s17c) ∧
 R (.tuple #[.slice s17b s17l s17c, .nilIface]) w18)
theorem calls_model_Encode (n0 : Int) (s1b : OA) (s1l s1c : Nat) (s2b : OA) (s2l s2c : Nat) (s3b : OA) (s3l s3c : Nat) : SH fn_model_Encode [.agg #[.int .i64 n0, .slice s1b s1l s1c, .slice s2b s2l s2c, .slice s3b s3l s3c]] (sh_model_Encode n0 s1b s1l s1c s2b s2l s2c s3b s3l s3c) := cdn Tryz.func23 (.s .L (.s (.s .L (.s .L (.c (.s .L .L) .L))) (.s .L .L))) fun _ _ => by kernel_rfl

def sh_model_Round (n0 : Int) (s1b : OA) (s1l s1c : Nat) (s2b : OA) (s2l s2c : Nat) (s3b : OA) (s3l s3c : Nat) (w : World) (R : RV) : Prop :=
  alo #[.int .i64 n0, .slice s1b s1l s1c, .slice s2b s2l s2c, .slice s3b s3l s3c] T_model_Model w fun a4 w5 =>
 ldI .i64 a4 w5 fun n6 =>
 ldS (a4.add 1) w5 fun s7b s7l s7c =>
 ldS (a4.add 2) w5 fun s8b s8l s8c =>
 ldS (a4.add 3) w5 fun s9b s9l s9c =>
 Calls Pg fn_model_Model_lists #[.agg #[.int .i64 n6, .slice s7b s7l s7c, .slice s8b s8l s8c, .slice s9b s9l s9c]] w5 fun e12 w11 => ∃ b10, e12 = .returned (.bool b10) ∧
 bif (!b10) then (
 R (.tuple #[.slice none 0 0, .iface T_api_Errno (.int .i64 17)]) w11) else (
 ldI .i64 a4 w11 fun n13 =>
 ldS (a4.add 1) w11 fun s14b s14l s14c =>
 ldS (a4.add 2) w11 fun s15b s15l s15c =>
 ldS (a4.add 3) w11 fun s16b s16l s16c =>
 Calls Pg fn_model_Model_cycles #[.agg #[.int .i64 n13, .slice s14b s14l s14c, .slice s15b s15l s15c, .slice s16b s16l s16c]] w11 fun e20 w19 => ∃ s17b s17l s17c b18, e20 = .returned (.tuple #[.slice s17b s17l s17c, .bool b18]) ∧
 bif (!b18) then (
 R (.tuple #[.slice none 0 0, .iface T_api_Errno (.int .i64 17)]) w19) else (
 ldI .i64 a4 w19 fun n21 =>
 ldS (a4.add 1) w19 fun s22b s22l s22c =>
 ldS (a4.add 2) w19 fun s23b s23l s23c =>
 ldS (a4.add 3) w19 fun s24b s24l s24c =>
 Calls Pg fn_model_Model_flat #[.agg #[.int .i64 n21, .slice s22b s22l s22c, .slice s23b s23l s23c, .slice s24b s24l s24c], .slice s17b s17l s17c] w19 fun e27 w26 => ∃ b25, e27 = .returned (.bool b25) ∧
 bif (!b25) then (
 R (.tuple #[.slice none 0 0, .iface T_api_Errno (.int .i64 17)]) w26) else (
 R (.tuple #[.slice s17b s17l s17c, .nilIface]) w26)))
theorem calls_model_Round (n0 : Int) (s1b : OA) (s1l s1c : Nat) (s2b : OA) (s2l s2c : Nat) (s3b : OA) (s3l s3c : Nat) : SH fn_model_Round [.agg #[.int .i64 n0, .slice s1b s1l s1c, .slice s2b s2l s2c, .slice s3b s3l s3c]] (sh_model_Round n0 s1b s1l s1c s2b s2l s2c s3b s3l s3c) := cdn Tryz.func38 (.s .L (.s (.s .L (.c (.s .L .L) .L)) (.s .L (.s (.s .L (.c (.s .L .L) .L)) (.s .L .L))))) fun _ _ => by kernel_rfl

def sh_model_encoded (n0 : Int) (s1b : OA) (s1l s1c : Nat) (s2b : OA) (s2l s2c : Nat) (s3b : OA) (s3l s3c : Nat) (w : World) (R : RV) : Prop :=
  alo #[.int .i64 n0, .slice s1b s1l s1c, .slice s2b s2l s2c, .slice s3b s3l s3c] T_model_Model w fun a4 w5 =>
 ldI .i64 a4 w5 fun n6 =>
 ldS (a4.add 1) w5 fun s7b s7l s7c =>
 alo #[.int .u32 (IntKind.wrap .u32 n6), .int .u32 (IntKind.wrap .u32 (s7l : Int))] T_uint32 w5 fun a8 w9 =>
 Calls Pg fn_model_number #[.slice none 0 0, .slice (some a8) 2 2] w9 fun e12 w11 => ∃ s10b s10l s10c, e12 = .returned (.slice s10b s10l s10c) ∧
 ldS (a4.add 1) w11 fun s13b s13l s13c =>
 ∃ (I14 : JP) (m15 : JN), I14 [.slice s10b s10l s10c, .int .i64 0] w11 ∧
 ∀ _ : Env, ∀ s16b s16l s16c n17 w18, I14 [.slice s16b s16l s16c, .int .i64 n17] w18 →
 bif (decide (n17 < (s13l : Int))) then (
 ixS s13b s13l n17 2 fun a19 =>
 ldI .u32 a19 w18 fun n20 =>
 ldI .i64 (a19.add 1) w18 fun n21 =>
 alo #[.int .u32 0, .int .i64 0] T_arena_Place w18 fun a22 w23 =>
 sto a22 (.int .u32 n20) w23 fun w24 =>
 sto (a22.add 1) (.int .i64 n21) w24 fun w25 =>
 ldI .u32 a22 w25 fun n26 =>
 ldI .i64 (a22.add 1) w25 fun n27 =>
 Calls Pg fn_model_laid #[.slice s16b s16l s16c, .agg #[.int .u32 n26, .int .i64 n27]] w25 fun e30 w29 => ∃ s28b s28l s28c, e30 = .returned (.slice s28b s28l s28c) ∧
 (I14 [.slice s28b s28l s28c, .int .i64 (IntKind.wrap .i64 (n17 + 1))] w29 ∧ m15 [.slice s28b s28l s28c, .int .i64 (IntKind.wrap .i64 (n17 + 1))] w29 < m15 [.slice s16b s16l s16c, .int .i64 n17] w18)) else (
 ldS (a4.add 2) w18 fun s31b s31l s31c =>
 alo #[.int .u32 (IntKind.wrap .u32 (s31l : Int))] T_uint32 w18 fun a32 w33 =>
 Calls Pg fn_model_number #[.slice s16b s16l s16c, .slice (some a32) 1 1] w33 fun e36 w35 => ∃ s34b s34l s34c, e36 = .returned (.slice s34b s34l s34c) ∧
 ldS (a4.add 2) w35 fun s37b s37l s37c =>
 ∃ (I38 : JP) (m39 : JN), I38 [.slice s34b s34l s34c, .int .i64 0] w35 ∧
 ∀ _ : Env, ∀ s40b s40l s40c n41 w42, I38 [.slice s40b s40l s40c, .int .i64 n41] w42 →
 bif (decide (n41 < (s37l : Int))) then (
 ixS s37b s37l n41 2 fun a43 =>
 ldI .u32 a43 w42 fun n44 =>
 ldI .i64 (a43.add 1) w42 fun n45 =>
 alo #[.int .u32 0, .int .i64 0] T_arena_Place w42 fun a46 w47 =>
 sto a46 (.int .u32 n44) w47 fun w48 =>
 sto (a46.add 1) (.int .i64 n45) w48 fun w49 =>
 ldI .u32 a46 w49 fun n50 =>
 ldI .i64 (a46.add 1) w49 fun n51 =>
 Calls Pg fn_model_laid #[.slice s40b s40l s40c, .agg #[.int .u32 n50, .int .i64 n51]] w49 fun e54 w53 => ∃ s52b s52l s52c, e54 = .returned (.slice s52b s52l s52c) ∧
 ldS (a4.add 3) w53 fun s55b s55l s55c =>
 ixS s55b s55l n41 5 fun a56 =>
 ldI .u32 a56 w53 fun n57 =>
 ldI .u32 (a56.add 1) w53 fun n58 =>
 ldI .u32 (a56.add 2) w53 fun n59 =>
 ldI .u32 (a56.add 3) w53 fun n60 =>
 ldI .i32 (a56.add 4) w53 fun n61 =>
 alo #[.int .u32 0, .int .u32 0, .int .u32 0, .int .u32 0, .int .i32 0] T_model_Edge w53 fun a62 w63 =>
 sto a62 (.int .u32 n57) w63 fun w64 =>
 sto (a62.add 1) (.int .u32 n58) w64 fun w65 =>
 sto (a62.add 2) (.int .u32 n59) w65 fun w66 =>
 sto (a62.add 3) (.int .u32 n60) w66 fun w67 =>
 sto (a62.add 4) (.int .i32 n61) w67 fun w68 =>
 ldI .i64 (a46.add 1) w68 fun n69 =>
 bif (n69 == 1) then (
 ixA a62 2 (0 : Int) 1 fun a70 =>
 ldI .u32 a70 w68 fun n71 =>
 ixA (a62.add 2) 2 (0 : Int) 1 fun a72 =>
 ldI .u32 a72 w68 fun n73 =>
 ixA a62 2 (1 : Int) 1 fun a74 =>
 ldI .u32 a74 w68 fun n75 =>
 ixA (a62.add 2) 2 (1 : Int) 1 fun a76 =>
 ldI .u32 a76 w68 fun n77 =>
 ldI .i32 (a62.add 4) w68 fun n78 =>
 alo #[.int .u32 n71, .int .u32 n73, .int .u32 n75, .int .u32 n77, .int .u32 (IntKind.wrap .u32 n78)] T_uint32 w68 fun a79 w80 =>
 Calls Pg fn_model_number #[.slice s52b s52l s52c, .slice (some a79) 5 5] w80 fun e83 w82 => ∃ s81b s81l s81c, e83 = .returned (.slice s81b s81l s81c) ∧
 (I38 [.slice s81b s81l s81c, .int .i64 (IntKind.wrap .i64 (n41 + 1))] w82 ∧ m39 [.slice s81b s81l s81c, .int .i64 (IntKind.wrap .i64 (n41 + 1))] w82 < m39 [.slice s40b s40l s40c, .int .i64 n41] w42)) else (
 (I38 [.slice s52b s52l s52c, .int .i64 (IntKind.wrap .i64 (n41 + 1))] w68 ∧ m39 [.slice s52b s52l s52c, .int .i64 (IntKind.wrap .i64 (n41 + 1))] w68 < m39 [.slice s40b s40l s40c, .int .i64 n41] w42))) else (
 R (.slice s40b s40l s40c) w42))
theorem calls_model_encoded (n0 : Int) (s1b : OA) (s1l s1c : Nat) (s2b : OA) (s2l s2c : Nat) (s3b : OA) (s3l s3c : Nat) : SH fn_model_encoded [.agg #[.int .i64 n0, .slice s1b s1l s1c, .slice s2b s2l s2c, .slice s3b s3l s3c]] (sh_model_encoded n0 s1b s1l s1c s2b s2l s2c s3b s3l s3c) := cdn Tryz.func39 (.s .L (.s .L (.s (.s .L (.b (.o [3, 21] [.one .slc, .one (.int .i64)] (.s .L (.s (.c .L .L) (.s (.b (.s .L .L)) .L)))))) (.s .L (.s (.s .L (.b (.o [3, 39] [.one .slc, .one (.int .i64)] (.s .L (.s (.c .L .L) (.s (.b (.s .L (.s .L (.s .L (.s .L (.c .L .L)))))) .L)))))) (.s .L .L)))))) fun _ _ => by kernel_rfl

def sh_model_Model_lists (n0 : Int) (s1b : OA) (s1l s1c : Nat) (s2b : OA) (s2l s2c : Nat) (s3b : OA) (s3l s3c : Nat) (w : World) (R : RV) : Prop :=
  alo #[.int .i64 n0, .slice s1b s1l s1c, .slice s2b s2l s2c, .slice s3b s3l s3c] T_model_Model w fun a4 w5 =>
 ldI .i64 a4 w5 fun n6 =>
 ldS (a4.add 1) w5 fun s7b s7l s7c =>
 Calls Pg fn_arena_Load #[.int .i64 n6, .slice s7b s7l s7c] w5 fun e11 w10 => ∃ p8 v9, e11 = .returned (.tuple #[.pointer p8, v9]) ∧
 isI v9 ∧ bif (!(nilI v9)) then (
 R (.bool false) w10) else (
 ∃ J12 : JP, (
 ldI .i64 a4 w10 fun n13 =>
 ldS (a4.add 2) w10 fun s14b s14l s14c =>
 Calls Pg fn_arena_Load #[.int .i64 n13, .slice s14b s14l s14c] w10 fun e18 w17 => ∃ p15 v16, e18 = .returned (.tuple #[.pointer p15, v16]) ∧
 isI v16 ∧ bif (!(nilI v16)) then (
 R (.bool false) w17) else (
 ldS (a4.add 3) w17 fun s19b s19l s19c =>
 ldS (a4.add 2) w17 fun s20b s20l s20c =>
 bif ((s19l : Int) != (s20l : Int)) then (
 R (.bool false) w17) else (
 J12 [] w17))) ∧ ∀ _ : Env, ∀ w21, J12 [] w21 →
 ldS (a4.add 3) w21 fun s22b s22l s22c =>
 ∃ (I23 : JP) (m24 : JN), I23 [.int .i64 0] w21 ∧
 ∀ _ : Env, ∀ n25 w26, I23 [.int .i64 n25] w26 →
 bif (decide (n25 < (s22l : Int))) then (
 ixS s22b s22l n25 5 fun a27 =>
 ldI .u32 a27 w26 fun n28 =>
 ldI .u32 (a27.add 1) w26 fun n29 =>
 ldI .u32 (a27.add 2) w26 fun n30 =>
 ldI .u32 (a27.add 3) w26 fun n31 =>
 ldI .i32 (a27.add 4) w26 fun n32 =>
 alo #[.int .u32 0, .int .u32 0, .int .u32 0, .int .u32 0, .int .i32 0] T_model_Edge w26 fun a33 w34 =>
 sto a33 (.int .u32 n28) w34 fun w35 =>
 sto (a33.add 1) (.int .u32 n29) w35 fun w36 =>
 sto (a33.add 2) (.int .u32 n30) w36 fun w37 =>
 sto (a33.add 3) (.int .u32 n31) w37 fun w38 =>
 sto (a33.add 4) (.int .i32 n32) w38 fun w39 =>
 ldS (a4.add 2) w39 fun s40b s40l s40c =>
 Calls Pg fn_model_live #[.slice s40b s40l s40c, .int .u32 (IntKind.wrap .u32 n25)] w39 fun e43 w42 => ∃ b41, e43 = .returned (.bool b41) ∧
 bif (!b41) then (
 ldI .u32 a33 w42 fun n44 =>
 ldI .u32 (a33.add 1) w42 fun n45 =>
 ldI .u32 (a33.add 2) w42 fun n46 =>
 ldI .u32 (a33.add 3) w42 fun n47 =>
 ldI .i32 (a33.add 4) w42 fun n48 =>
 ∃ b49 w50, (do eqGuard .neq T_model_Edge (.tmp 56) (.tmp 57) (.agg #[.int .u32 n44, .int .u32 n45, .int .u32 n46, .int .u32 n47, .int .i32 n48]) (.agg #[.int .u32 0, .int .u32 0, .int .u32 0, .int .u32 0, .int .i32 0]); binOp .neq T_model_Edge (.agg #[.int .u32 n44, .int .u32 n45, .int .u32 n46, .int .u32 n47, .int .i32 n48]) (.agg #[.int .u32 0, .int .u32 0, .int .u32 0, .int .u32 0, .int .i32 0]) : Sem Value).run Pg w42 = .ok (.bool b49) w50 ∧
 bif b49 then (
 R (.bool false) w50) else (
 (I23 [.int .i64 (IntKind.wrap .i64 (n25 + 1))] w50 ∧ m24 [.int .i64 (IntKind.wrap .i64 (n25 + 1))] w50 < m24 [.int .i64 n25] w26))) else (
 ldI .u32 a33 w42 fun n51 =>
 ldI .u32 (a33.add 1) w42 fun n52 =>
 ∃ n53, 0 ≤ (0 : Int) ∧ (0 : Int) < ((2 : Nat) : Int) ∧ (#[.int .u32 n51, .int .u32 n52] : Array Value)[(Int.toNat (0 : Int)) * 1]? = some (.int .u32 n53) ∧
 ldI .i64 a4 w42.drew fun n54 =>
 ldS (a4.add 1) w42.drew fun s55b s55l s55c =>
 ldS (a4.add 2) w42.drew fun s56b s56l s56c =>
 ldS (a4.add 3) w42.drew fun s57b s57l s57c =>
 ixA (a33.add 2) 2 (0 : Int) 1 fun a58 =>
 ldI .u32 a58 w42.drew fun n59 =>
 Calls Pg fn_model_Model_from #[.agg #[.int .i64 n54, .slice s55b s55l s55c, .slice s56b s56l s56c, .slice s57b s57l s57c], .int .u32 n59] w42.drew fun e63 w62 => ∃ n60 b61, e63 = .returned (.tuple #[.int .u32 n60, .bool b61]) ∧
 ldS (a4.add 1) w62 fun s64b s64l s64c =>
 Calls Pg fn_model_live #[.slice s64b s64l s64c, .int .u32 n53] w62 fun e67 w66 => ∃ b65, e67 = .returned (.bool b65) ∧
 bif (!b65) then (
 R (.bool false) w66) else (
 bif (!b61) then (
 R (.bool false) w66) else (
 bif (n60 != n53) then (
 R (.bool false) w66) else (
 ∃ n68, 0 ≤ (1 : Int) ∧ (1 : Int) < ((2 : Nat) : Int) ∧ (#[.int .u32 n51, .int .u32 n52] : Array Value)[(Int.toNat (1 : Int)) * 1]? = some (.int .u32 n68) ∧
 ldI .i64 a4 w66.drew fun n69 =>
 ldS (a4.add 1) w66.drew fun s70b s70l s70c =>
 ldS (a4.add 2) w66.drew fun s71b s71l s71c =>
 ldS (a4.add 3) w66.drew fun s72b s72l s72c =>
 ixA (a33.add 2) 2 (1 : Int) 1 fun a73 =>
 ldI .u32 a73 w66.drew fun n74 =>
 Calls Pg fn_model_Model_from #[.agg #[.int .i64 n69, .slice s70b s70l s70c, .slice s71b s71l s71c, .slice s72b s72l s72c], .int .u32 n74] w66.drew fun e78 w77 => ∃ n75 b76, e78 = .returned (.tuple #[.int .u32 n75, .bool b76]) ∧
 ldS (a4.add 1) w77 fun s79b s79l s79c =>
 Calls Pg fn_model_live #[.slice s79b s79l s79c, .int .u32 n68] w77 fun e82 w81 => ∃ b80, e82 = .returned (.bool b80) ∧
 bif (!b80) then (
 R (.bool false) w81) else (
 bif (!b76) then (
 R (.bool false) w81) else (
 bif (n75 != n68) then (
 R (.bool false) w81) else (
 (I23 [.int .i64 (IntKind.wrap .i64 (n25 + 1))] w81 ∧ m24 [.int .i64 (IntKind.wrap .i64 (n25 + 1))] w81 < m24 [.int .i64 n25] w26))))))))) else (
 R (.bool true) w26))
theorem calls_model_Model_lists (n0 : Int) (s1b : OA) (s1l s1c : Nat) (s2b : OA) (s2l s2c : Nat) (s3b : OA) (s3l s3c : Nat) : SH fn_model_Model_lists [.agg #[.int .i64 n0, .slice s1b s1l s1c, .slice s2b s2l s2c, .slice s3b s3l s3c]] (sh_model_Model_lists n0 s1b s1l s1c s2b s2l s2c s3b s3l s3c) := cdn Tryz.func76 (.s .L (.s (.s .L (.s .L (.c (.s .L .L) .L))) (.j [] [] (.s .L (.s .L (.c (.s .L .L) .L))) (.s (.s .L (.b (.o [45] [.one (.int .i64)] (.s .L (.s (.c .L .L) (.s (.b (.s .L (.s (.s .L (.c (.s (.s .L (.c (.s .L .L) .L)) .L) .L)) (.s .L (.b (.u 3 (.s .L (.s (.c .L .L) (.s (.b (.s .L (.s (.r (.tk 0 [5, 6, 7, 8, 9, 10] [5] (.t 1 3 (.tk 4 [5, 6, 7, 8, 9, 10] [5] (.one 5 (.t 6 5 .fin)))))) (.s .L (.c (.s .L .L) .L))))) .L))))))))) .L)))))) (.s .L .L))))) fun _ _ => by kernel_rfl

def sh_model_Model_cycles (n0 : Int) (s1b : OA) (s1l s1c : Nat) (s2b : OA) (s2l s2c : Nat) (s3b : OA) (s3l s3c : Nat) (w : World) (R : RV) : Prop :=
  alo #[.int .i64 n0, .slice s1b s1l s1c, .slice s2b s2l s2c, .slice s3b s3l s3c] T_model_Model w fun a4 w5 =>
 ldS (a4.add 1) w5 fun s6b s6l s6c =>
 0 ≤ (s6l : Int) ∧ (s6l : Int) ≤ (s6l : Int) ∧ (24 : Int) * (s6l : Int) ≤ 140737488355328 ∧ alo (zerosOf #[(.slice none 0 0)] (Int.toNat (s6l : Int))) T_sl_int w5 fun a7 w8 =>
 ldS (a4.add 3) w8 fun s9b s9l s9c =>
 0 ≤ (IntKind.wrap .i64 (2 * (s9l : Int))) ∧ (IntKind.wrap .i64 (2 * (s9l : Int))) ≤ (IntKind.wrap .i64 (2 * (s9l : Int))) ∧ (1 : Int) * (IntKind.wrap .i64 (2 * (s9l : Int))) ≤ 140737488355328 ∧ alo (zerosOf #[(.bool false)] (Int.toNat (IntKind.wrap .i64 (2 * (s9l : Int))))) T_bool w8 fun a10 w11 =>
 ∃ (I12 : JP) (m13 : JN), I12 [.int .i64 0] w11 ∧
 ∀ _ : Env, ∀ n14 w15, I12 [.int .i64 n14] w15 →
 bif (decide (n14 < ((Int.toNat (IntKind.wrap .i64 (2 * (s9l : Int)))) : Int))) then (
 ldI .i64 a4 w15 fun n16 =>
 ldS (a4.add 1) w15 fun s17b s17l s17c =>
 ldS (a4.add 2) w15 fun s18b s18l s18c =>
 ldS (a4.add 3) w15 fun s19b s19l s19c =>
 Calls Pg fn_model_Model_from #[.agg #[.int .i64 n16, .slice s17b s17l s17c, .slice s18b s18l s18c, .slice s19b s19l s19c], .int .u32 (IntKind.wrap .u32 n14)] w15 fun e23 w22 => ∃ n20 b21, e23 = .returned (.tuple #[.int .u32 n20, .bool b21]) ∧
 ∃ J24 : JP, (
 bif (!b21) then (
 (I12 [.int .i64 (IntKind.wrap .i64 (n14 + 1))] w22 ∧ m13 [.int .i64 (IntKind.wrap .i64 (n14 + 1))] w22 < m13 [.int .i64 n14] w15)) else (
 ixS (some a10) (Int.toNat (IntKind.wrap .i64 (2 * (s9l : Int)))) n14 1 fun a25 =>
 ldB a25 w22 fun b26 =>
 bif b26 then (
 (I12 [.int .i64 (IntKind.wrap .i64 (n14 + 1))] w22 ∧ m13 [.int .i64 (IntKind.wrap .i64 (n14 + 1))] w22 < m13 [.int .i64 n14] w15)) else (
 J24 [] w22))) ∧ ∀ _ : Env, ∀ w27, J24 [] w27 →
 ixS (some a7) (Int.toNat (s6l : Int)) n20 1 fun a28 =>
 ldS a28 w27 fun s29b s29l s29c =>
 bif (decide ((s29l : Int) > 0)) then (
 R (.tuple #[.slice none 0 0, .bool false]) w27) else (
 ∃ (I30 : JP) (m31 : JN), I30 [.int .i64 n14] w27 ∧
 ∀ _ : Env, ∀ n32 w33, I30 [.int .i64 n32] w33 →
 ixS (some a10) (Int.toNat (IntKind.wrap .i64 (2 * (s9l : Int)))) n32 1 fun a34 =>
 ldB a34 w33 fun b35 =>
 bif (!b35) then (
 ixS (some a10) (Int.toNat (IntKind.wrap .i64 (2 * (s9l : Int)))) n32 1 fun a36 =>
 sto a36 (.bool true) w33 fun w37 =>
 ixS (some a7) (Int.toNat (s6l : Int)) n20 1 fun a38 =>
 ldS a38 w37 fun s39b s39l s39c =>
 alo #[.int .i64 n32] T_int w37 fun a40 w41 =>
 ∃ s42b s42l s42c w43, (Builtin.append_ #[T_sl_int, T_sl_int] T_sl_int #[.slice s39b s39l s39c, .slice (some a40) 1 1]).run Pg w41 = .ok (.slice s42b s42l s42c) w43 ∧
 ixS (some a7) (Int.toNat (s6l : Int)) n20 1 fun a44 =>
 sto a44 (.slice s42b s42l s42c) w43 fun w45 =>
 ldI .i64 a4 w45 fun n46 =>
 ldS (a4.add 1) w45 fun s47b s47l s47c =>
 ldS (a4.add 2) w45 fun s48b s48l s48c =>
 ldS (a4.add 3) w45 fun s49b s49l s49c =>
 Calls Pg fn_model_Model_next #[.agg #[.int .i64 n46, .slice s47b s47l s47c, .slice s48b s48l s48c, .slice s49b s49l s49c], .int .i64 n32] w45 fun e52 w51 => ∃ n50, e52 = .returned (.int .i64 n50) ∧
 (I30 [.int .i64 n50] w51 ∧ m31 [.int .i64 n50] w51 < m31 [.int .i64 n32] w33)) else (
 ixS (some a7) (Int.toNat (s6l : Int)) n20 1 fun a53 =>
 ldS a53 w33 fun s54b s54l s54c =>
 ldI .i64 a4 w33.drew fun n55 =>
 ldS (a4.add 1) w33.drew fun s56b s56l s56c =>
 ldS (a4.add 2) w33.drew fun s57b s57l s57c =>
 ldS (a4.add 3) w33.drew fun s58b s58l s58c =>
 ixS s54b s54l (IntKind.wrap .i64 ((s54l : Int) - 1)) 1 fun a59 =>
 ldI .i64 a59 w33.drew fun n60 =>
 Calls Pg fn_model_Model_next #[.agg #[.int .i64 n55, .slice s56b s56l s56c, .slice s57b s57l s57c, .slice s58b s58l s58c], .int .i64 n60] w33.drew fun e63 w62 => ∃ n61, e63 = .returned (.int .i64 n61) ∧
 bif (n61 != n14) then (
 R (.tuple #[.slice none 0 0, .bool false]) w62) else (
 (I12 [.int .i64 (IntKind.wrap .i64 (n14 + 1))] w62 ∧ m13 [.int .i64 (IntKind.wrap .i64 (n14 + 1))] w62 < m13 [.int .i64 n14] w15))))) else (
 R (.tuple #[.slice (some a7) (Int.toNat (s6l : Int)) (Int.toNat (s6l : Int)), .bool true]) w15)
theorem calls_model_Model_cycles (n0 : Int) (s1b : OA) (s1l s1c : Nat) (s2b : OA) (s2l s2c : Nat) (s3b : OA) (s3l s3c : Nat) : SH fn_model_Model_cycles [.agg #[.int .i64 n0, .slice s1b s1l s1c, .slice s2b s2l s2c, .slice s3b s3l s3c]] (sh_model_Model_cycles n0 s1b s1l s1c s2b s2l s2c s3b s3l s3c) := cdn Tryz.func77 (.s .L (.s .L (.s .L (.s (.s .L (.b (.o [22] [.one (.int .i64)] (.s .L (.s (.c .L .L) (.s (.b (.s .L (.s .L (.j [] [] (.s .L (.c .L .L)) (.s (.s .L (.c (.s .L .L) .L)) (.s (.s .L (.b (.o [9] [.one (.int .i64)] (.s (.s .L (.c .L .L)) (.s (.b (.s .L .L)) .L))))) (.s .L (.s (.r (.tk 0 [7, 9] [7] (.t 1 5 (.tk 6 [7, 9] [7] (.t 8 1 (.one 7 (.t 9 1 .fin))))))) (.c (.s .L .L) .L))))))))) .L)))))) (.s .L .L))))) fun _ _ => by kernel_rfl

def sh_model_Model_flat (n0 : Int) (s1b : OA) (s1l s1c : Nat) (s2b : OA) (s2l s2c : Nat) (s3b : OA) (s3l s3c : Nat) (s4b : OA) (s4l s4c : Nat) (w : World) (R : RV) : Prop :=
  alo #[.int .i64 n0, .slice s1b s1l s1c, .slice s2b s2l s2c, .slice s3b s3l s3c] T_model_Model w fun a5 w6 =>
 ldS (a5.add 1) w6 fun s7b s7l s7c =>
 ldS (a5.add 3) w6 fun s8b s8l s8c =>
 Calls Pg fn_turn_Load #[.int .i64 (if (1 : Int) > (s7l : Int) then (1 : Int) else (s7l : Int)), .int .i64 (if (1 : Int) > (s8l : Int) then (1 : Int) else (s8l : Int)), .slice s4b s4l s4c] w6 fun e12 w11 => ∃ p9 v10, e12 = .returned (.tuple #[.pointer p9, v10]) ∧
 isI v10 ∧ bif (!(nilI v10)) then (
 R (.bool false) w11) else (
 ldS (a5.add 1) w11 fun s13b s13l s13c =>
 ∃ (I14 : JP) (m15 : JN), I14 [.slice none 0 0, .int .i64 0] w11 ∧
 ∀ _ : Env, ∀ s16b s16l s16c n17 w18, I14 [.slice s16b s16l s16c, .int .i64 n17] w18 →
 bif (decide (n17 < (s13l : Int))) then (
 ixS s13b s13l n17 2 fun a19 =>
 ldI .u32 a19 w18 fun n20 =>
 ldI .i64 (a19.add 1) w18 fun n21 =>
 alo #[.int .u32 0, .int .i64 0] T_arena_Place w18 fun a22 w23 =>
 sto a22 (.int .u32 n20) w23 fun w24 =>
 sto (a22.add 1) (.int .i64 n21) w24 fun w25 =>
 ldI .i64 (a22.add 1) w25 fun n26 =>
 bif (n26 == 1) then (
 alo #[.int .i64 n17] T_int w25 fun a27 w28 =>
 ∃ s29b s29l s29c w30, (Builtin.append_ #[T_sl_int, T_sl_int] T_sl_int #[.slice s16b s16l s16c, .slice (some a27) 1 1]).run Pg w28 = .ok (.slice s29b s29l s29c) w30 ∧
 (I14 [.slice s29b s29l s29c, .int .i64 (IntKind.wrap .i64 (n17 + 1))] w30 ∧ m15 [.slice s29b s29l s29c, .int .i64 (IntKind.wrap .i64 (n17 + 1))] w30 < m15 [.slice s16b s16l s16c, .int .i64 n17] w18)) else (
 (I14 [.slice s16b s16l s16c, .int .i64 (IntKind.wrap .i64 (n17 + 1))] w25 ∧ m15 [.slice s16b s16l s16c, .int .i64 (IntKind.wrap .i64 (n17 + 1))] w25 < m15 [.slice s16b s16l s16c, .int .i64 n17] w18))) else (
 Calls Pg fn_sphere_Flat #[.pointer p9, .slice s16b s16l s16c] w18 fun e34 w33 => ∃ b31 v32, e34 = .returned (.tuple #[.bool b31, v32]) ∧
 bif b31 then (
 isI v32 ∧ R (.bool (nilI v32)) w33) else (
 R (.bool false) w33)))
theorem calls_model_Model_flat (n0 : Int) (s1b : OA) (s1l s1c : Nat) (s2b : OA) (s2l s2c : Nat) (s3b : OA) (s3l s3c : Nat) (s4b : OA) (s4l s4c : Nat) : SH fn_model_Model_flat [.agg #[.int .i64 n0, .slice s1b s1l s1c, .slice s2b s2l s2c, .slice s3b s3l s3c], .slice s4b s4l s4c] (sh_model_Model_flat n0 s1b s1l s1c s2b s2l s2c s3b s3l s3c s4b s4l s4c) := cdn Tryz.func78 (.s .L (.s .L (.s (.s .L (.c (.s .L .L) .L)) (.s .L (.s (.s .L (.b (.o [7, 29] [.one .slc, .one (.int .i64)] (.s .L (.s (.c .L .L) (.s (.b (.s .L (.s .L (.c .L .L)))) .L)))))) (.s .L (.s .L .L))))))) fun _ _ => by kernel_rfl

def sh_model_number (s0b : OA) (s0l s0c : Nat) (s1b : OA) (s1l s1c : Nat) (w : World) (R : RV) : Prop :=
  ∃ (I2 : JP) (m3 : JN), I2 [.slice s0b s0l s0c, .int .i64 0] w ∧
 ∀ _ : Env, ∀ s4b s4l s4c n5 w6, I2 [.slice s4b s4l s4c, .int .i64 n5] w6 →
 bif (decide (n5 < (s1l : Int))) then (
 ixS s1b s1l n5 1 fun a7 =>
 ldI .u32 a7 w6 fun n8 =>
 0 ≤ (24 : Int) ∧ 0 ≤ (16 : Int) ∧ 0 ≤ (8 : Int) ∧ alo #[.int .u8 (IntKind.wrap .u8 (Int.fdiv n8 (2 ^ (min (Int.toNat (24 : Int)) (IntKind.bits .u32))))), .int .u8 (IntKind.wrap .u8 (Int.fdiv n8 (2 ^ (min (Int.toNat (16 : Int)) (IntKind.bits .u32))))), .int .u8 (IntKind.wrap .u8 (Int.fdiv n8 (2 ^ (min (Int.toNat (8 : Int)) (IntKind.bits .u32))))), .int .u8 (IntKind.wrap .u8 n8)] T_uint8 w6 fun a9 w10 =>
 ∃ s11b s11l s11c w12, (Builtin.append_ #[T_sl_uint8, T_sl_uint8] T_sl_uint8 #[.slice s4b s4l s4c, .slice (some a9) 4 4]).run Pg w10 = .ok (.slice s11b s11l s11c) w12 ∧
 (I2 [.slice s11b s11l s11c, .int .i64 (IntKind.wrap .i64 (n5 + 1))] w12 ∧ m3 [.slice s11b s11l s11c, .int .i64 (IntKind.wrap .i64 (n5 + 1))] w12 < m3 [.slice s4b s4l s4c, .int .i64 n5] w6)) else (
 R (.slice s4b s4l s4c) w6)
theorem calls_model_number (s0b : OA) (s0l s0c : Nat) (s1b : OA) (s1l s1c : Nat) : SH fn_model_number [.slice s0b s0l s0c, .slice s1b s1l s1c] (sh_model_number s0b s0l s0c s1b s1l s1c) := cdn Tryz.func79 (.s .L (.s (.s .L (.b (.o [0, 9] [.one .slc, .one (.int .i64)] (.s .L (.s (.c .L .L) (.s (.b (.s .L .L)) .L)))))) (.s .L .L))) fun _ _ => by kernel_rfl

end Go.Proofs.YtdamhidnlfjkdaaGreatDoor
