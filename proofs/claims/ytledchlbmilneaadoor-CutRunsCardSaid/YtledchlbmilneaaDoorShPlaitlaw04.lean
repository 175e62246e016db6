/-
What each function does, as one formula, printed by a program of this session out of the translation; the kernel holds each print against the translation.
Conditions: none.
-/
import Derived.Test.YtledchlbmilneaaDoorSn
namespace Go.Proofs.YtledchlbmilneaaDoor
open Go
set_option linter.unusedVariables false
set_option maxRecDepth 100000
/-- 'plait/plaitlaw04.SeqRuns' -/
def sh_plaitlaw04_SeqRuns (nn_0 : Int) (sl_1b : Option Addr) (sl_1l : Nat) (sl_1c : Nat) (w : World) (R : Value → World → Prop) : Prop :=
  (24 : Int) ≠ 0 ∧ Calls Pg fn_seq_New #[(Value.int .i64 (IntKind.wrap .i64 ((1 : Int) + (IntKind.wrap .i64 (Int.tmod (IntKind.wrap .u64 nn_0) (24 : Int))))))] w fun e5 w4 => ∃ p34_2 : Option Addr, ∃ v34_3 : Value, e5 = .returned (Value.tuple #[(Value.pointer p34_2), v34_3]) ∧
  ∃ J6 : List Value → World → Prop, (
  isI v34_3 ∧ bif (!(nilI v34_3)) then (
  R (Value.bool false) w4) else (
  bif (Option.isNone p34_2) then (
  R (Value.bool false) w4) else (
  J6 [] w4))) ∧ ∀ _ : Env, ∀ w7 : World, J6 [] w7 →
  Calls Pg fn_plaitref04_New #[(Value.int .i64 (IntKind.wrap .i64 ((1 : Int) + (IntKind.wrap .i64 (Int.tmod (IntKind.wrap .u64 nn_0) (24 : Int))))))] w7 fun e10 w9 => ∃ s44_8b : Option Addr, ∃ s44_8l : Nat, ∃ s44_8c : Nat, e10 = .returned (Value.slice s44_8b s44_8l s44_8c) ∧
  0 ≤ (IntKind.wrap .i64 ((1 : Int) + (IntKind.wrap .i64 (Int.tmod (IntKind.wrap .u64 nn_0) (24 : Int))))) ∧ (IntKind.wrap .i64 ((1 : Int) + (IntKind.wrap .i64 (Int.tmod (IntKind.wrap .u64 nn_0) (24 : Int))))) ≤ (IntKind.wrap .i64 ((1 : Int) + (IntKind.wrap .i64 (Int.tmod (IntKind.wrap .u64 nn_0) (24 : Int))))) ∧ (8 : Int) * (IntKind.wrap .i64 ((1 : Int) + (IntKind.wrap .i64 (Int.tmod (IntKind.wrap .u64 nn_0) (24 : Int))))) ≤ 140737488355328 ∧ alo (zerosOf #[(Value.int .i64 (0 : Int))] (Int.toNat (IntKind.wrap .i64 ((1 : Int) + (IntKind.wrap .i64 (Int.tmod (IntKind.wrap .u64 nn_0) (24 : Int))))))) T_int64 w9 fun a11 w12 =>
  ∃ (I13 : List Value → World → Prop) (m14 : List Value → World → Nat), I13 [(Value.slice s44_8b s44_8l s44_8c), (Value.int .i64 (0 : Int))] w12 ∧
  ∀ _ : Env, ∀ s15b : Option Addr, ∀ s15l : Nat, ∀ s15c : Nat, ∀ n16 : Int, ∀ w17 : World, I13 [(Value.slice s15b s15l s15c), (Value.int .i64 n16)] w17 →
  ∃ J18 : List Value → World → Prop, (
  bif (decide (n16 < (sl_1l : Int))) then (
  bif (decide (n16 < (80 : Int))) then (
  J18 [] w17) else (
  Calls Pg fn_plaitlaw04_sure #[] w17 fun e21 w20 => ∃ b233_19 : Bool, e21 = .returned (Value.bool b233_19) ∧
  R (Value.bool b233_19) w20)) else (
  Calls Pg fn_plaitlaw04_sure #[] w17 fun e24 w23 => ∃ b233_22 : Bool, e24 = .returned (Value.bool b233_22) ∧
  R (Value.bool b233_22) w23)) ∧ ∀ _ : Env, ∀ w25 : World, J18 [] w25 →
  ixS sl_1b sl_1l n16 4 fun a59_26 =>
  ldI .i64 a59_26 w25 fun n60_27 =>
  ldI .i64 (a59_26.add 1) w25 fun n60_28 =>
  ldI .i64 (a59_26.add 2) w25 fun n60_29 =>
  ldI .i64 (a59_26.add 3) w25 fun n60_30 =>
  alo #[(Value.int .i64 (0 : Int)), (Value.int .i64 (0 : Int)), (Value.int .i64 (0 : Int)), (Value.int .i64 (0 : Int))] T_plaitlaw04_Act w25 fun a31 w32 =>
  sto a31 (Value.int .i64 n60_27) w32 fun w33 =>
  sto (a31.add 1) (Value.int .i64 n60_28) w33 fun w34 =>
  sto (a31.add 2) (Value.int .i64 n60_29) w34 fun w35 =>
  sto (a31.add 3) (Value.int .i64 n60_30) w35 fun w36 =>
  ∃ J37 : List Value → World → Prop, (
  ∃ J38 : List Value → World → Prop, (
  ldI .i64 (a31.add 1) w36 fun n62_39 =>
  bif (decide (n62_39 < (0 : Int))) then (
  J38 [(Value.bool true)] w36) else (
  ldI .i64 (a31.add 1) w36 fun n66_40 =>
  bif (decide (n66_40 ≥ (IntKind.wrap .i64 ((1 : Int) + (IntKind.wrap .i64 (Int.tmod (IntKind.wrap .u64 nn_0) (24 : Int))))))) then (
  J38 [(Value.bool true)] w36) else (
  ldI .i64 (a31.add 2) w36 fun n72_41 =>
  bif (decide (n72_41 < (0 : Int))) then (
  J38 [(Value.bool true)] w36) else (
  ldI .i64 (a31.add 2) w36 fun n77_42 =>
  J38 [(Value.bool (decide (n77_42 ≥ (IntKind.wrap .i64 ((1 : Int) + (IntKind.wrap .i64 (Int.tmod (IntKind.wrap .u64 nn_0) (24 : Int))))))))] w36)))) ∧ ∀ _ : Env, ∀ b43 : Bool, ∀ w44 : World, J38 [(Value.bool b43)] w44 →
  bif b43 then (
  ldI .i64 (a31.add 1) w44 fun n84_45 =>
  ldI .i64 (a31.add 2) w44 fun n86_46 =>
  Calls Pg fn_seq_Forest_Same #[(Value.pointer p34_2), (Value.int .i64 n84_45), (Value.int .i64 n86_46)] w44 fun e50 w49 => ∃ b87_47 : Bool, ∃ v87_48 : Value, e50 = .returned (Value.tuple #[(Value.bool b87_47), v87_48]) ∧
  ldI .i64 (a31.add 1) w49 fun n92_51 =>
  ldI .i64 (a31.add 2) w49 fun n94_52 =>
  Calls Pg fn_seq_Forest_Join #[(Value.pointer p34_2), (Value.int .i64 n92_51), (Value.int .i64 n94_52)] w49 fun e55 w54 => ∃ v95_53 : Value, e55 = .returned v95_53 ∧
  Calls Pg fn_plaitlaw04_num #[v95_53] w54 fun e58 w57 => ∃ n96_56 : Int, e58 = .returned (Value.int .i64 n96_56) ∧
  bif (n96_56 != (12 : Int)) then (
  R (Value.bool false) w57) else (
  Calls Pg fn_plaitlaw04_num #[v87_48] w57 fun e61 w60 => ∃ n100_59 : Int, e61 = .returned (Value.int .i64 n100_59) ∧
  bif (n100_59 != (12 : Int)) then (
  R (Value.bool false) w60) else (
  (I13 [(Value.slice s15b s15l s15c), (Value.int .i64 (IntKind.wrap .i64 (n16 + (1 : Int))))] w60 ∧ m14 [(Value.slice s15b s15l s15c), (Value.int .i64 (IntKind.wrap .i64 (n16 + (1 : Int))))] w60 < m14 [(Value.slice s15b s15l s15c), (Value.int .i64 n16)] w17)))) else (
  J37 [] w44)) ∧ ∀ _ : Env, ∀ w62 : World, J37 [] w62 →
  ∃ J63 : List Value → World → Prop, (
  ldI .i64 a31 w62 fun n104_64 =>
  (8 : Int) ≠ 0 ∧ ∃ J65 : List Value → World → Prop, (
  bif ((IntKind.wrap .i64 (Int.tmod (IntKind.wrap .u64 n104_64) (8 : Int))) == (3 : Int)) then (
  J65 [(Value.bool ((IntKind.wrap .i64 (Int.tmod (IntKind.wrap .u64 n104_64) (8 : Int))) == (3 : Int)))] w62) else (
  J65 [(Value.bool ((IntKind.wrap .i64 (Int.tmod (IntKind.wrap .u64 n104_64) (8 : Int))) == (4 : Int)))] w62)) ∧ ∀ _ : Env, ∀ b66 : Bool, ∀ w67 : World, J65 [(Value.bool b66)] w67 →
  bif b66 then (
  ldI .i64 (a31.add 1) w67 fun n143_68 =>
  Calls Pg fn_seq_Forest_Cut #[(Value.pointer p34_2), (Value.int .i64 n143_68)] w67 fun e72 w71 => ∃ b144_69 : Bool, ∃ v144_70 : Value, e72 = .returned (Value.tuple #[(Value.bool b144_69), v144_70]) ∧
  ldI .i64 (a31.add 1) w71 fun n150_73 =>
  Calls Pg fn_plaitref04_Cut #[(Value.slice s15b s15l s15c), (Value.int .i64 n150_73)] w71 fun e77 w76 => ∃ s151_74b : Option Addr, ∃ s151_74l : Nat, ∃ s151_74c : Nat, ∃ b151_75 : Bool, e77 = .returned (Value.tuple #[(Value.slice s151_74b s151_74l s151_74c), (Value.bool b151_75)]) ∧
  isI v144_70 ∧ bif (!(nilI v144_70)) then (
  R (Value.bool false) w76) else (
  bif (!(b144_69 == b151_75)) then (
  R (Value.bool false) w76) else (
  J63 [(Value.slice s151_74b s151_74l s151_74c)] w76))) else (
  ∃ J78 : List Value → World → Prop, (
  bif ((IntKind.wrap .i64 (Int.tmod (IntKind.wrap .u64 n104_64) (8 : Int))) == (5 : Int)) then (
  J78 [(Value.bool ((IntKind.wrap .i64 (Int.tmod (IntKind.wrap .u64 n104_64) (8 : Int))) == (5 : Int)))] w67) else (
  J78 [(Value.bool ((IntKind.wrap .i64 (Int.tmod (IntKind.wrap .u64 n104_64) (8 : Int))) == (6 : Int)))] w67)) ∧ ∀ _ : Env, ∀ b79 : Bool, ∀ w80 : World, J78 [(Value.bool b79)] w80 →
  bif b79 then (
  ldI .i64 (a31.add 1) w80 fun n167_81 =>
  Calls Pg fn_plaitref04_Reverse #[(Value.slice s15b s15l s15c), (Value.int .i64 n167_81)] w80 fun e84 w83 => ∃ s168_82b : Option Addr, ∃ s168_82l : Nat, ∃ s168_82c : Nat, e84 = .returned (Value.slice s168_82b s168_82l s168_82c) ∧
  ldI .i64 (a31.add 1) w83 fun n171_85 =>
  Calls Pg fn_seq_Forest_Reverse #[(Value.pointer p34_2), (Value.int .i64 n171_85)] w83 fun e88 w87 => ∃ v172_86 : Value, e88 = .returned v172_86 ∧
  isI v172_86 ∧ bif (!(nilI v172_86)) then (
  R (Value.bool false) w87) else (
  J63 [(Value.slice s168_82b s168_82l s168_82c)] w87)) else (
  bif ((IntKind.wrap .i64 (Int.tmod (IntKind.wrap .u64 n104_64) (8 : Int))) == (7 : Int)) then (
  ldI .i64 (a31.add 1) w80 fun n178_89 =>
  ldI .i64 (a31.add 3) w80 fun n180_90 =>
  ixS (some a11) (Int.toNat (IntKind.wrap .i64 ((1 : Int) + (IntKind.wrap .i64 (Int.tmod (IntKind.wrap .u64 nn_0) (24 : Int)))))) n178_89 1 fun a181_91 =>
  sto a181_91 (Value.int .i64 n180_90) w80 fun w92 =>
  ldI .i64 (a31.add 1) w92 fun n184_93 =>
  ldI .i64 (a31.add 3) w92 fun n186_94 =>
  Calls Pg fn_seq_Forest_Set #[(Value.pointer p34_2), (Value.int .i64 n184_93), (Value.int .i64 n186_94)] w92 fun e97 w96 => ∃ v187_95 : Value, e97 = .returned v187_95 ∧
  isI v187_95 ∧ bif (!(nilI v187_95)) then (
  R (Value.bool false) w96) else (
  J63 [(Value.slice s15b s15l s15c)] w96)) else (
  ldI .i64 (a31.add 1) w80 fun n111_98 =>
  ldI .i64 (a31.add 2) w80 fun n113_99 =>
  Calls Pg fn_plaitref04_Join #[(Value.slice s15b s15l s15c), (Value.int .i64 n111_98), (Value.int .i64 n113_99)] w80 fun e103 w102 => ∃ s114_100b : Option Addr, ∃ s114_100l : Nat, ∃ s114_100c : Nat, ∃ b114_101 : Bool, e103 = .returned (Value.tuple #[(Value.slice s114_100b s114_100l s114_100c), (Value.bool b114_101)]) ∧
  ldI .i64 (a31.add 1) w102 fun n120_104 =>
  ldI .i64 (a31.add 2) w102 fun n122_105 =>
  Calls Pg fn_seq_Forest_Join #[(Value.pointer p34_2), (Value.int .i64 n120_104), (Value.int .i64 n122_105)] w102 fun e108 w107 => ∃ v123_106 : Value, e108 = .returned v123_106 ∧
  isI v123_106 ∧ bif (!((nilI v123_106) == b114_101)) then (
  R (Value.bool false) w107) else (
  bif (!b114_101) then (
  Calls Pg fn_plaitlaw04_num #[v123_106] w107 fun e111 w110 => ∃ n133_109 : Int, e111 = .returned (Value.int .i64 n133_109) ∧
  bif (n133_109 != (20 : Int)) then (
  R (Value.bool false) w110) else (
  J63 [(Value.slice s114_100b s114_100l s114_100c)] w110)) else (
  J63 [(Value.slice s114_100b s114_100l s114_100c)] w107)))))) ∧ ∀ _ : Env, ∀ s112b : Option Addr, ∀ s112l : Nat, ∀ s112c : Nat, ∀ w113 : World, J63 [(Value.slice s112b s112l s112c)] w113 →
  ldI .i64 (a31.add 1) w113 fun n192_114 =>
  Calls Pg fn_plaitref04_Find #[(Value.slice s112b s112l s112c), (Value.int .i64 n192_114)] w113 fun e118 w117 => ∃ n193_115 : Int, ∃ n193_116 : Int, e118 = .returned (Value.tuple #[(Value.int .i64 n193_115), (Value.int .i64 n193_116)]) ∧
  ldI .i64 (a31.add 2) w117 fun n199_119 =>
  Calls Pg fn_plaitref04_Find #[(Value.slice s112b s112l s112c), (Value.int .i64 n199_119)] w117 fun e123 w122 => ∃ n200_120 : Int, ∃ n200_121 : Int, e123 = .returned (Value.tuple #[(Value.int .i64 n200_120), (Value.int .i64 n200_121)]) ∧
  ldI .i64 (a31.add 1) w122 fun n206_124 =>
  ldI .i64 (a31.add 2) w122 fun n208_125 =>
  Calls Pg fn_seq_Forest_Same #[(Value.pointer p34_2), (Value.int .i64 n206_124), (Value.int .i64 n208_125)] w122 fun e129 w128 => ∃ b209_126 : Bool, ∃ v209_127 : Value, e129 = .returned (Value.tuple #[(Value.bool b209_126), v209_127]) ∧
  isI v209_127 ∧ bif (!(nilI v209_127)) then (
  R (Value.bool false) w128) else (
  bif (!(b209_126 == (n193_115 == n200_120))) then (
  R (Value.bool false) w128) else (
  ldI .i64 (a31.add 2) w128 fun n226_130 =>
  ldI .i64 (a31.add 3) w128 fun n228_131 =>
  (30 : Int) ≠ 0 ∧ Calls Pg fn_plaitlaw04_told #[(Value.pointer p34_2), (Value.slice s112b s112l s112c), (Value.slice (some a11) (Int.toNat (IntKind.wrap .i64 ((1 : Int) + (IntKind.wrap .i64 (Int.tmod (IntKind.wrap .u64 nn_0) (24 : Int)))))) (Int.toNat (IntKind.wrap .i64 ((1 : Int) + (IntKind.wrap .i64 (Int.tmod (IntKind.wrap .u64 nn_0) (24 : Int))))))), (Value.int .i64 n226_130), (Value.int .i64 (Int.tmod n228_131 (30 : Int)))] w128 fun e134 w133 => ∃ b230_132 : Bool, e134 = .returned (Value.bool b230_132) ∧
  bif (!b230_132) then (
  R (Value.bool false) w133) else (
  (I13 [(Value.slice s112b s112l s112c), (Value.int .i64 (IntKind.wrap .i64 (n16 + (1 : Int))))] w133 ∧ m14 [(Value.slice s112b s112l s112c), (Value.int .i64 (IntKind.wrap .i64 (n16 + (1 : Int))))] w133 < m14 [(Value.slice s15b s15l s15c), (Value.int .i64 n16)] w17))))
theorem eq_plaitlaw04_SeqRuns (nn_0 : Int) (sl_1b : Option Addr) (sl_1l : Nat) (sl_1c : Nat) (w : World) (R : Value → World → Prop) : sh_plaitlaw04_SeqRuns nn_0 sl_1b sl_1l sl_1c w R = denF Pg Eall Tryd.f3 (.seq (.leaf) (.seq (.leaf) (.seq (.leaf) (.join [] [] (.seq (.leaf) (.cond (.seq (.leaf) (.leaf)) (.leaf))) (.seq (.leaf) (.seq (.leaf) (.seq (.seq (.leaf) (.block (.loop [8, 10] [.one (.slc), .one (.int .i64)] (.join [] [] (.seq (.leaf) (.cond (.leaf) (.leaf))) (.seq (.block (.seq (.leaf) (.join [] [] (.join [80] [.one (.bool)] (.leaf) (.cond (.seq (.leaf) (.seq (.seq (.leaf) (.cond (.seq (.leaf) (.leaf)) (.leaf))) (.leaf))) (.leaf))) (.join [8] [.one (.slc)] (.seq (.leaf) (.block (.join [137] [.one (.bool)] (.seq (.leaf) (.cond (.leaf) (.leaf))) (.cond (.seq (.leaf) (.seq (.leaf) (.seq (.leaf) (.seq (.leaf) (.cond (.seq (.leaf) (.leaf)) (.leaf)))))) (.join [162] [.one (.bool)] (.seq (.leaf) (.cond (.leaf) (.leaf))) (.cond (.seq (.leaf) (.seq (.leaf) (.cond (.seq (.leaf) (.leaf)) (.leaf)))) (.seq (.leaf) (.cond (.seq (.leaf) (.seq (.leaf) (.cond (.seq (.leaf) (.leaf)) (.leaf)))) (.seq (.leaf) (.seq (.leaf) (.seq (.leaf) (.seq (.leaf) (.cond (.seq (.leaf) (.leaf)) (.leaf)))))))))))))) (.seq (.leaf) (.seq (.leaf) (.seq (.leaf) (.seq (.leaf) (.cond (.seq (.leaf) (.leaf)) (.leaf)))))))))) (.leaf)))))) (.seq (.leaf) (.leaf))))))))) [(Value.int .i64 nn_0), (Value.slice sl_1b sl_1l sl_1c)] w R := by kernel_rfl
theorem calls_plaitlaw04_SeqRuns (nn_0 : Int) (sl_1b : Option Addr) (sl_1l : Nat) (sl_1c : Nat) (w : World) (R : Value → World → Prop) (h : sh_plaitlaw04_SeqRuns nn_0 sl_1b sl_1l sl_1c w R) : Calls Pg fn_plaitlaw04_SeqRuns #[(Value.int .i64 nn_0), (Value.slice sl_1b sl_1l sl_1c)] w fun e w' => ∃ v, e = .returned v ∧ R v w' :=
  calls_of_den Eall_enter wide_mixed Tryd.func3 (by rw [← eq_plaitlaw04_SeqRuns]; exact h)

/-- 'plait/plaitlaw04.num' -/
def sh_plaitlaw04_num (ve_0 : Value) (w : World) (R : Value → World → Prop) : Prop :=
  alo #[(Value.int .i64 (0 : Int))] T_api_Errno w fun a1 w2 =>
  isI ve_0 ∧ bif (nilI ve_0) then (
  R (Value.int .i64 (0 : Int)) w2) else (
  Calls Pg fn_errors_As #[ve_0, (Value.iface T_p_api_Errno (Value.pointer (some a1)))] w2 fun e5 w4 => ∃ b8_3 : Bool, e5 = .returned (Value.bool b8_3) ∧
  bif b8_3 then (
  ldI .i64 a1 w4 fun n9_6 =>
  R (Value.int .i64 n9_6) w4) else (
  R (Value.int .i64 (-1 : Int)) w4))
theorem eq_plaitlaw04_num (ve_0 : Value) (w : World) (R : Value → World → Prop) : sh_plaitlaw04_num ve_0 w R = denF Pg Eall Tryd.f20 (.seq (.leaf) (.seq (.leaf) (.seq (.seq (.leaf) (.cond (.seq (.leaf) (.leaf)) (.leaf))) (.seq (.seq (.leaf) (.cond (.seq (.leaf) (.leaf)) (.leaf))) (.seq (.leaf) (.leaf)))))) [ve_0] w R := by kernel_rfl
theorem calls_plaitlaw04_num (ve_0 : Value) (w : World) (R : Value → World → Prop) (h : sh_plaitlaw04_num ve_0 w R) : Calls Pg fn_plaitlaw04_num #[ve_0] w fun e w' => ∃ v, e = .returned v ∧ R v w' :=
  calls_of_den Eall_enter wide_mixed Tryd.func20 (by rw [← eq_plaitlaw04_num]; exact h)

/-- 'plait/plaitlaw04.told' -/
def sh_plaitlaw04_told (pf_0 : Option Addr) (sl_1b : Option Addr) (sl_1l : Nat) (sl_1c : Nat) (sv_2b : Option Addr) (sv_2l : Nat) (sv_2c : Nat) (nx_3 : Int) (nk_4 : Int) (w : World) (R : Value → World → Prop) : Prop :=
  Calls Pg fn_plaitref04_Find #[(Value.slice sl_1b sl_1l sl_1c), (Value.int .i64 nx_3)] w fun e8 w7 => ∃ n31_5 : Int, ∃ n31_6 : Int, e8 = .returned (Value.tuple #[(Value.int .i64 n31_5), (Value.int .i64 n31_6)]) ∧
  ixS sl_1b sl_1l n31_5 1 fun a36_9 =>
  ldS a36_9 w7 fun s37_10b s37_10l s37_10c =>
  Calls Pg fn_seq_Forest_Rank #[(Value.pointer pf_0), (Value.int .i64 nx_3)] w7 fun e14 w13 => ∃ n41_11 : Int, ∃ v41_12 : Value, e14 = .returned (Value.tuple #[(Value.int .i64 n41_11), v41_12]) ∧
  Calls Pg fn_seq_Forest_Size #[(Value.pointer pf_0), (Value.int .i64 nx_3)] w13 fun e18 w17 => ∃ n47_15 : Int, ∃ v47_16 : Value, e18 = .returned (Value.tuple #[(Value.int .i64 n47_15), v47_16]) ∧
  Calls Pg fn_seq_Forest_Sum #[(Value.pointer pf_0), (Value.int .i64 nx_3)] w17 fun e22 w21 => ∃ n53_19 : Int, ∃ v53_20 : Value, e22 = .returned (Value.tuple #[(Value.int .i64 n53_19), v53_20]) ∧
  Calls Pg fn_seq_Forest_Least #[(Value.pointer pf_0), (Value.int .i64 nx_3)] w21 fun e26 w25 => ∃ n59_23 : Int, ∃ v59_24 : Value, e26 = .returned (Value.tuple #[(Value.int .i64 n59_23), v59_24]) ∧
  Calls Pg fn_seq_Forest_Most #[(Value.pointer pf_0), (Value.int .i64 nx_3)] w25 fun e30 w29 => ∃ n65_27 : Int, ∃ v65_28 : Value, e30 = .returned (Value.tuple #[(Value.int .i64 n65_27), v65_28]) ∧
  Calls Pg fn_seq_Forest_At #[(Value.pointer pf_0), (Value.int .i64 nx_3), (Value.int .i64 nk_4)] w29 fun e34 w33 => ∃ n72_31 : Int, ∃ v72_32 : Value, e34 = .returned (Value.tuple #[(Value.int .i64 n72_31), v72_32]) ∧
  Calls Pg fn_seq_Forest_List #[(Value.pointer pf_0), (Value.int .i64 nx_3)] w33 fun e38 w37 => ∃ s78_35b : Option Addr, ∃ s78_35l : Nat, ∃ s78_35c : Nat, ∃ v78_36 : Value, e38 = .returned (Value.tuple #[(Value.slice s78_35b s78_35l s78_35c), v78_36]) ∧
  isI v41_12 ∧ bif (!(nilI v41_12)) then (
  R (Value.bool false) w37) else (
  isI v47_16 ∧ bif (!(nilI v47_16)) then (
  R (Value.bool false) w37) else (
  isI v53_20 ∧ bif (!(nilI v53_20)) then (
  R (Value.bool false) w37) else (
  isI v59_24 ∧ bif (!(nilI v59_24)) then (
  R (Value.bool false) w37) else (
  isI v65_28 ∧ bif (!(nilI v65_28)) then (
  R (Value.bool false) w37) else (
  isI v78_36 ∧ bif (!(nilI v78_36)) then (
  R (Value.bool false) w37) else (
  bif (n41_11 != n31_6) then (
  R (Value.bool false) w37) else (
  bif (n47_15 != (s37_10l : Int)) then (
  R (Value.bool false) w37) else (
  Calls Pg fn_plaitref04_Sum #[(Value.slice s37_10b s37_10l s37_10c), (Value.slice sv_2b sv_2l sv_2c)] w37 fun e41 w40 => ∃ n118_39 : Int, e41 = .returned (Value.int .i64 n118_39) ∧
  bif (n53_19 != n118_39) then (
  R (Value.bool false) w40) else (
  Calls Pg fn_plaitref04_Least #[(Value.slice s37_10b s37_10l s37_10c), (Value.slice sv_2b sv_2l sv_2c)] w40 fun e44 w43 => ∃ n125_42 : Int, e44 = .returned (Value.int .i64 n125_42) ∧
  bif (n59_23 != n125_42) then (
  R (Value.bool false) w43) else (
  Calls Pg fn_plaitref04_Most #[(Value.slice s37_10b s37_10l s37_10c), (Value.slice sv_2b sv_2l sv_2c)] w43 fun e47 w46 => ∃ n132_45 : Int, e47 = .returned (Value.int .i64 n132_45) ∧
  bif (n65_27 != n132_45) then (
  R (Value.bool false) w46) else (
  Calls Pg fn_plaitlaw04_ints #[(Value.slice s78_35b s78_35l s78_35c), (Value.slice s37_10b s37_10l s37_10c)] w46 fun e50 w49 => ∃ b138_48 : Bool, e50 = .returned (Value.bool b138_48) ∧
  bif (!b138_48) then (
  R (Value.bool false) w49) else (
  bif (decide (nk_4 < (0 : Int))) then (
  Calls Pg fn_plaitlaw04_num #[v72_32] w49 fun e53 w52 => ∃ n150_51 : Int, e53 = .returned (Value.int .i64 n150_51) ∧
  bif (n150_51 == (1 : Int)) then (
  R (Value.bool (n72_31 == (0 : Int))) w52) else (
  R (Value.bool false) w52)) else (
  bif (decide (nk_4 ≥ (s37_10l : Int))) then (
  Calls Pg fn_plaitlaw04_num #[v72_32] w49 fun e56 w55 => ∃ n150_54 : Int, e56 = .returned (Value.int .i64 n150_54) ∧
  bif (n150_54 == (1 : Int)) then (
  R (Value.bool (n72_31 == (0 : Int))) w55) else (
  R (Value.bool false) w55)) else (
  isI v72_32 ∧ bif (nilI v72_32) then (
  ixS s37_10b s37_10l nk_4 1 fun a162_57 =>
  ldI .i64 a162_57 w49 fun n163_58 =>
  R (Value.bool (n72_31 == n163_58)) w49) else (
  R (Value.bool false) w49)))))))))))))))
theorem eq_plaitlaw04_told (pf_0 : Option Addr) (sl_1b : Option Addr) (sl_1l : Nat) (sl_1c : Nat) (sv_2b : Option Addr) (sv_2l : Nat) (sv_2c : Nat) (nx_3 : Int) (nk_4 : Int) (w : World) (R : Value → World → Prop) : sh_plaitlaw04_told pf_0 sl_1b sl_1l sl_1c sv_2b sv_2l sv_2c nx_3 nk_4 w R = denF Pg Eall Tryd.f29 (.seq (.leaf) (.seq (.leaf) (.seq (.leaf) (.seq (.leaf) (.seq (.leaf) (.seq (.leaf) (.seq (.leaf) (.seq (.leaf) (.seq (.leaf) (.seq (.leaf) (.seq (.seq (.leaf) (.cond (.seq (.leaf) (.leaf)) (.leaf))) (.seq (.seq (.leaf) (.cond (.seq (.leaf) (.leaf)) (.leaf))) (.seq (.leaf) (.leaf)))))))))))))) [(Value.pointer pf_0), (Value.slice sl_1b sl_1l sl_1c), (Value.slice sv_2b sv_2l sv_2c), (Value.int .i64 nx_3), (Value.int .i64 nk_4)] w R := by kernel_rfl
theorem calls_plaitlaw04_told (pf_0 : Option Addr) (sl_1b : Option Addr) (sl_1l : Nat) (sl_1c : Nat) (sv_2b : Option Addr) (sv_2l : Nat) (sv_2c : Nat) (nx_3 : Int) (nk_4 : Int) (w : World) (R : Value → World → Prop) (h : sh_plaitlaw04_told pf_0 sl_1b sl_1l sl_1c sv_2b sv_2l sv_2c nx_3 nk_4 w R) : Calls Pg fn_plaitlaw04_told #[(Value.pointer pf_0), (Value.slice sl_1b sl_1l sl_1c), (Value.slice sv_2b sv_2l sv_2c), (Value.int .i64 nx_3), (Value.int .i64 nk_4)] w fun e w' => ∃ v, e = .returned v ∧ R v w' :=
  calls_of_den Eall_enter wide_mixed Tryd.func29 (by rw [← eq_plaitlaw04_told]; exact h)

/-- 'plait/plaitlaw04.sure' -/
def sh_plaitlaw04_sure (w : World) (R : Value → World → Prop) : Prop :=
  Calls Pg fn_seq_New #[(Value.int .i64 (3 : Int))] w fun e3 w2 => ∃ p6_0 : Option Addr, ∃ v6_1 : Value, e3 = .returned (Value.tuple #[(Value.pointer p6_0), v6_1]) ∧
  isI v6_1 ∧ bif (!(nilI v6_1)) then (
  R (Value.bool false) w2) else (
  bif (Option.isNone p6_0) then (
  R (Value.bool false) w2) else (
  Calls Pg fn_seq_Forest_Join #[(Value.pointer p6_0), (Value.int .i64 (0 : Int)), (Value.int .i64 (1 : Int))] w2 fun e6 w5 => ∃ v17_4 : Value, e6 = .returned v17_4 ∧
  isI v17_4 ∧ bif (!(nilI v17_4)) then (
  R (Value.bool false) w5) else (
  Calls Pg fn_seq_Forest_Join #[(Value.pointer p6_0), (Value.int .i64 (0 : Int)), (Value.int .i64 (2 : Int))] w5 fun e9 w8 => ∃ v22_7 : Value, e9 = .returned v22_7 ∧
  isI v22_7 ∧ bif (!(nilI v22_7)) then (
  R (Value.bool false) w8) else (
  Calls Pg fn_seq_Forest_Reverse #[(Value.pointer p6_0), (Value.int .i64 (0 : Int))] w8 fun e12 w11 => ∃ v27_10 : Value, e12 = .returned v27_10 ∧
  isI v27_10 ∧ bif (!(nilI v27_10)) then (
  R (Value.bool false) w11) else (
  Calls Pg fn_seq_Forest_List #[(Value.pointer p6_0), (Value.int .i64 (1 : Int))] w11 fun e16 w15 => ∃ s32_13b : Option Addr, ∃ s32_13l : Nat, ∃ s32_13c : Nat, ∃ v32_14 : Value, e16 = .returned (Value.tuple #[(Value.slice s32_13b s32_13l s32_13c), v32_14]) ∧
  isI v32_14 ∧ bif (nilI v32_14) then (
  alo #[(Value.int .i64 (2 : Int)), (Value.int .i64 (1 : Int)), (Value.int .i64 (0 : Int))] T_int w15 fun a17 w18 =>
  Calls Pg fn_plaitlaw04_ints #[(Value.slice s32_13b s32_13l s32_13c), (Value.slice (some a17) 3 3)] w18 fun e21 w20 => ∃ b40_19 : Bool, e21 = .returned (Value.bool b40_19) ∧
  bif b40_19 then (
  Calls Pg fn_seq_Forest_Join #[(Value.pointer p6_0), (Value.int .i64 (0 : Int)), (Value.int .i64 (2 : Int))] w20 fun e24 w23 => ∃ v44_22 : Value, e24 = .returned v44_22 ∧
  Calls Pg fn_plaitlaw04_num #[v44_22] w23 fun e27 w26 => ∃ n45_25 : Int, e27 = .returned (Value.int .i64 n45_25) ∧
  R (Value.bool (bif (n45_25 == (20 : Int)) then true else false)) w26) else (
  R (Value.bool false) w20)) else (
  R (Value.bool false) w15))))))
theorem eq_plaitlaw04_sure (w : World) (R : Value → World → Prop) : sh_plaitlaw04_sure w R = denF Pg Eall Tryd.f30 (.seq (.leaf) (.seq (.leaf) (.seq (.seq (.leaf) (.cond (.seq (.leaf) (.leaf)) (.leaf))) (.seq (.leaf) (.seq (.leaf) (.leaf)))))) [] w R := by kernel_rfl
theorem calls_plaitlaw04_sure (w : World) (R : Value → World → Prop) (h : sh_plaitlaw04_sure w R) : Calls Pg fn_plaitlaw04_sure #[] w fun e w' => ∃ v, e = .returned v ∧ R v w' :=
  calls_of_den Eall_enter wide_mixed Tryd.func30 (by rw [← eq_plaitlaw04_sure]; exact h)

/-- 'plait/plaitlaw04.ints' -/
def sh_plaitlaw04_ints (sa_0b : Option Addr) (sa_0l : Nat) (sa_0c : Nat) (sb_1b : Option Addr) (sb_1l : Nat) (sb_1c : Nat) (w : World) (R : Value → World → Prop) : Prop :=
  bif ((sa_0l : Int) != (sb_1l : Int)) then (
  R (Value.bool false) w) else (
  ∃ (I2 : List Value → World → Prop) (m3 : List Value → World → Nat), I2 [(Value.int .i64 (0 : Int))] w ∧
  ∀ _ : Env, ∀ n4 : Int, ∀ w5 : World, I2 [(Value.int .i64 n4)] w5 →
  bif (decide (n4 < (sa_0l : Int))) then (
  ixS sa_0b sa_0l n4 1 fun a19_6 =>
  ldI .i64 a19_6 (World.drew w5) fun n20_7 =>
  ixS sb_1b sb_1l n4 1 fun a23_8 =>
  ldI .i64 a23_8 (World.drew w5) fun n24_9 =>
  bif (n20_7 != n24_9) then (
  R (Value.bool false) (World.drew w5)) else (
  (I2 [(Value.int .i64 (IntKind.wrap .i64 (n4 + (1 : Int))))] (World.drew w5) ∧ m3 [(Value.int .i64 (IntKind.wrap .i64 (n4 + (1 : Int))))] (World.drew w5) < m3 [(Value.int .i64 n4)] w5))) else (
  R (Value.bool true) w5))
theorem eq_plaitlaw04_ints (sa_0b : Option Addr) (sa_0l : Nat) (sa_0c : Nat) (sb_1b : Option Addr) (sb_1l : Nat) (sb_1c : Nat) (w : World) (R : Value → World → Prop) : sh_plaitlaw04_ints sa_0b sa_0l sa_0c sb_1b sb_1l sb_1c w R = denF Pg Eall Tryd.f102 (.seq (.leaf) (.seq (.seq (.leaf) (.cond (.seq (.leaf) (.leaf)) (.leaf))) (.seq (.seq (.leaf) (.block (.loop [5] [.one (.int .i64)] (.seq (.seq (.leaf) (.cond (.leaf) (.leaf))) (.seq (.block (.seq (.reg (.tk 0 [] [] (.tk 1 [] [] (.tk 2 [] [] (.tk 3 [] [] (.tk 4 [] [] (.tk 5 [] [] (.tk 6 [] [] (.tk 7 [] [] (.tk 8 [] [] (.fin))))))))))) (.cond (.seq (.leaf) (.leaf)) (.leaf)))) (.leaf)))))) (.seq (.leaf) (.leaf))))) [(Value.slice sa_0b sa_0l sa_0c), (Value.slice sb_1b sb_1l sb_1c)] w R := by kernel_rfl
theorem calls_plaitlaw04_ints (sa_0b : Option Addr) (sa_0l : Nat) (sa_0c : Nat) (sb_1b : Option Addr) (sb_1l : Nat) (sb_1c : Nat) (w : World) (R : Value → World → Prop) (h : sh_plaitlaw04_ints sa_0b sa_0l sa_0c sb_1b sb_1l sb_1c w R) : Calls Pg fn_plaitlaw04_ints #[(Value.slice sa_0b sa_0l sa_0c), (Value.slice sb_1b sb_1l sb_1c)] w fun e w' => ∃ v, e = .returned v ∧ R v w' :=
  calls_of_den Eall_enter wide_mixed Tryd.func102 (by rw [← eq_plaitlaw04_ints]; exact h)

end Go.Proofs.YtledchlbmilneaaDoor
