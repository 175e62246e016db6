/-
What each function does, as one formula, printed by a program of this session out of the translation; the kernel holds each print against the translation.
Conditions: none.
-/
import Derived.Test.YtfhdnmeciohmlaaDoorSn
namespace Go.Proofs.YtfhdnmeciohmlaaDoor
open Go
set_option linter.unusedVariables false
set_option maxRecDepth 100000
/-- '(*plait/seq.Forest).down' -/
def sh_seq_Forest_down (pf_0 : Option Addr) (nx_1 : Int) (fto_2 : Value) (w : World) (R : Value → World → Prop) : Prop :=
  ∃ (I3 : List Value → World → Prop) (m4 : List Value → World → Nat), I3 [(Value.int .i32 nx_1)] w ∧
  ∀ _ : Env, ∀ n5 : Int, ∀ w6 : World, I3 [(Value.int .i32 n5)] w6 →
  Calls Pg fn_seq_Forest_push #[(Value.pointer pf_0), (Value.int .i32 n5)] w6 fun e8 w7 => e8 = .returned (Value.tuple #[]) ∧
  pt pf_0 fun a13_9 =>
  ldS a13_9 w7 fun s15_10b s15_10l s15_10c =>
  ixS s15_10b s15_10l n5 9 fun a17_11 =>
  ldI .i32 a17_11 w7 fun n18_12 =>
  ldI .i32 (a17_11.add 1) w7 fun n18_13 =>
  ldI .i32 (a17_11.add 2) w7 fun n18_14 =>
  ldB (a17_11.add 3) w7 fun b18_15 =>
  ldI .i32 (a17_11.add 4) w7 fun n18_16 =>
  ldI .i64 (a17_11.add 5) w7 fun n18_17 =>
  ldI .i64 (a17_11.add 6) w7 fun n18_18 =>
  ldI .i64 (a17_11.add 7) w7 fun n18_19 =>
  ldI .i64 (a17_11.add 8) w7 fun n18_20 =>
  dcv Pg Eall fto_2 [(Value.agg #[(Value.int .i32 n18_12), (Value.int .i32 n18_13), (Value.int .i32 n18_14), (Value.bool b18_15), (Value.int .i32 n18_16), (Value.int .i64 n18_17), (Value.int .i64 n18_18), (Value.int .i64 n18_19), (Value.int .i64 n18_20)])] w7 fun e23 w22 => ∃ n19_21 : Int, e23 = .returned (Value.int .i64 n19_21) ∧
  bif (decide (n19_21 < (0 : Int))) then (
  pt pf_0 fun a29_24 =>
  ldS a29_24 w22 fun s31_25b s31_25l s31_25c =>
  ixS s31_25b s31_25l n5 9 fun a33_26 =>
  ldI .i32 (a33_26.add 1) w22 fun n35_27 =>
  (I3 [(Value.int .i32 n35_27)] w22 ∧ m4 [(Value.int .i32 n35_27)] w22 < m4 [(Value.int .i32 n5)] w6)) else (
  bif (decide (n19_21 > (0 : Int))) then (
  pt pf_0 fun a40_28 =>
  ldS a40_28 w22 fun s42_29b s42_29l s42_29c =>
  ixS s42_29b s42_29l n5 9 fun a44_30 =>
  ldI .i32 (a44_30.add 2) w22 fun n46_31 =>
  (I3 [(Value.int .i32 n46_31)] w22 ∧ m4 [(Value.int .i32 n46_31)] w22 < m4 [(Value.int .i32 n5)] w6)) else (
  Calls Pg fn_seq_Forest_lift #[(Value.pointer pf_0), (Value.int .i32 n5)] w22 fun e33 w32 => e33 = .returned (Value.tuple #[]) ∧
  R (Value.int .i64 (IntKind.wrap .i64 n5)) w32))
theorem eq_seq_Forest_down (pf_0 : Option Addr) (nx_1 : Int) (fto_2 : Value) (w : World) (R : Value → World → Prop) : sh_seq_Forest_down pf_0 nx_1 fto_2 w R = denF Pg Eall Tryd.f42 (.seq (.leaf) (.block (.loop [1] [.one (.int .i32)] (.block (.seq (.leaf) (.seq (.leaf) (.block (.seq (.leaf) (.cond (.leaf) (.seq (.leaf) (.cond (.leaf) (.seq (.leaf) (.seq (.leaf) (.leaf)))))))))))))) [(Value.pointer pf_0), (Value.int .i32 nx_1), fto_2] w R := by kernel_rfl
theorem calls_seq_Forest_down (pf_0 : Option Addr) (nx_1 : Int) (fto_2 : Value) (w : World) (R : Value → World → Prop) (h : sh_seq_Forest_down pf_0 nx_1 fto_2 w R) : Calls Pg fn_seq_Forest_down #[(Value.pointer pf_0), (Value.int .i32 nx_1), fto_2] w fun e w' => ∃ v, e = .returned v ∧ R v w' :=
  calls_of_den Eall_enter wide_mixed Tryd.func42 (by rw [← eq_seq_Forest_down]; exact h)

/-- '(*plait/seq.Forest).At$1' -/
def sh_seq_Forest_At_1 (nn_0 : Int) (nn_1 : Int) (nn_2 : Int) (bn_3 : Bool) (nn_4 : Int) (nn_5 : Int) (nn_6 : Int) (nn_7 : Int) (nn_8 : Int) (q9 : Option Addr) (q10 : Option Addr) (w : World) (R : Value → World → Prop) : Prop :=
  alo #[(Value.int .i32 nn_0), (Value.int .i32 nn_1), (Value.int .i32 nn_2), (Value.bool bn_3), (Value.int .i32 nn_4), (Value.int .i64 nn_5), (Value.int .i64 nn_6), (Value.int .i64 nn_7), (Value.int .i64 nn_8)] T_seq_node w fun a11 w12 =>
  ldI .i32 (a11.add 1) w12 fun n7_13 =>
  bif (n7_13 != (-1 : Int)) then (
  pt q9 fun a14 =>
  ldP a14 (World.drew w12) fun p9_15 =>
  pt p9_15 fun a10_16 =>
  ldS a10_16 (World.drew w12) fun s12_17b s12_17l s12_17c =>
  ldI .i32 (a11.add 1) (World.drew w12) fun n14_18 =>
  ixS s12_17b s12_17l n14_18 9 fun a15_19 =>
  ldI .i32 (a15_19.add 4) (World.drew w12) fun n17_20 =>
  pt q10 fun a21 =>
  ldI .i64 a21 (World.drew w12) fun n19_22 =>
  bif (decide (n19_22 ≤ (IntKind.wrap .i64 n17_20))) then (
  pt q10 fun a23 =>
  ldI .i64 a23 (World.drew w12) fun n22_24 =>
  R (Value.int .i64 (IntKind.wrap .i64 (n22_24 - (IntKind.wrap .i64 n17_20)))) (World.drew w12)) else (
  pt q10 fun a25 =>
  ldI .i64 a25 (World.drew w12) fun n25_26 =>
  pt q10 fun a27 =>
  sto a27 (Value.int .i64 (IntKind.wrap .i64 (n25_26 - (IntKind.wrap .i64 ((IntKind.wrap .i64 n17_20) + (1 : Int)))))) (World.drew w12) fun w28 =>
  R (Value.int .i64 (1 : Int)) w28)) else (
  pt q10 fun a29 =>
  ldI .i64 a29 w12 fun n19_30 =>
  bif (decide (n19_30 ≤ (0 : Int))) then (
  pt q10 fun a31 =>
  ldI .i64 a31 w12 fun n22_32 =>
  R (Value.int .i64 (IntKind.wrap .i64 (n22_32 - (0 : Int)))) w12) else (
  pt q10 fun a33 =>
  ldI .i64 a33 w12 fun n25_34 =>
  pt q10 fun a35 =>
  sto a35 (Value.int .i64 (IntKind.wrap .i64 (n25_34 - (1 : Int)))) w12 fun w36 =>
  R (Value.int .i64 (1 : Int)) w36))
theorem eq_seq_Forest_At_1 (nn_0 : Int) (nn_1 : Int) (nn_2 : Int) (bn_3 : Bool) (nn_4 : Int) (nn_5 : Int) (nn_6 : Int) (nn_7 : Int) (nn_8 : Int) (q9 : Option Addr) (q10 : Option Addr) (w : World) (R : Value → World → Prop) : sh_seq_Forest_At_1 nn_0 nn_1 nn_2 bn_3 nn_4 nn_5 nn_6 nn_7 nn_8 q9 q10 w R = denF Pg Eall Tryd.f43 (.seq (.leaf) (.seq (.leaf) (.seq (.seq (.leaf) (.cond (.reg (.tk 0 [] [] (.tk 1 [] [] (.tk 2 [] [] (.tk 3 [] [] (.tk 4 [] [] (.tk 5 [] [] (.tk 6 [] [] (.tk 7 [] [] (.tk 8 [] [] (.tk 9 [] [] (.tk 10 [] [] (.fin))))))))))))) (.leaf))) (.seq (.seq (.leaf) (.cond (.seq (.leaf) (.leaf)) (.leaf))) (.seq (.leaf) (.seq (.leaf) (.leaf))))))) [(Value.agg #[(Value.int .i32 nn_0), (Value.int .i32 nn_1), (Value.int .i32 nn_2), (Value.bool bn_3), (Value.int .i32 nn_4), (Value.int .i64 nn_5), (Value.int .i64 nn_6), (Value.int .i64 nn_7), (Value.int .i64 nn_8)]), (Value.pointer q9), (Value.pointer q10)] w R := by kernel_rfl
theorem calls_seq_Forest_At_1 (nn_0 : Int) (nn_1 : Int) (nn_2 : Int) (bn_3 : Bool) (nn_4 : Int) (nn_5 : Int) (nn_6 : Int) (nn_7 : Int) (nn_8 : Int) (q9 : Option Addr) (q10 : Option Addr) (w : World) (R : Value → World → Prop) (h : sh_seq_Forest_At_1 nn_0 nn_1 nn_2 bn_3 nn_4 nn_5 nn_6 nn_7 nn_8 q9 q10 w R) : Calls Pg fn_seq_Forest_At_1 #[(Value.agg #[(Value.int .i32 nn_0), (Value.int .i32 nn_1), (Value.int .i32 nn_2), (Value.bool bn_3), (Value.int .i32 nn_4), (Value.int .i64 nn_5), (Value.int .i64 nn_6), (Value.int .i64 nn_7), (Value.int .i64 nn_8)]), (Value.pointer q9), (Value.pointer q10)] w fun e w' => ∃ v, e = .returned v ∧ R v w' :=
  calls_of_den Eall_enter wide_mixed Tryd.func43 (by rw [← eq_seq_Forest_At_1]; exact h)

/-- '(*plait/seq.Forest).Least$1' -/
def sh_seq_Forest_Least_1 (nn_0 : Int) (nn_1 : Int) (nn_2 : Int) (bn_3 : Bool) (nn_4 : Int) (nn_5 : Int) (nn_6 : Int) (nn_7 : Int) (nn_8 : Int) (q9 : Option Addr) (q10 : Option Addr) (w : World) (R : Value → World → Prop) : Prop :=
  alo #[(Value.int .i32 nn_0), (Value.int .i32 nn_1), (Value.int .i32 nn_2), (Value.bool bn_3), (Value.int .i32 nn_4), (Value.int .i64 nn_5), (Value.int .i64 nn_6), (Value.int .i64 nn_7), (Value.int .i64 nn_8)] T_seq_node w fun a11 w12 =>
  ldI .i32 (a11.add 1) (World.drew w12) fun n7_13 =>
  bif (n7_13 != (-1 : Int)) then (
  pt q9 fun a14 =>
  ldP a14 (World.drew w12) fun p10_15 =>
  pt p10_15 fun a11_16 =>
  ldS a11_16 (World.drew w12) fun s13_17b s13_17l s13_17c =>
  ldI .i32 (a11.add 1) (World.drew w12) fun n15_18 =>
  ixS s13_17b s13_17l n15_18 9 fun a16_19 =>
  ldI .i64 (a16_19.add 7) (World.drew w12) fun n18_20 =>
  pt q10 fun a21 =>
  ldI .i64 a21 (World.drew w12) fun n19_22 =>
  bif (n18_20 == n19_22) then (
  R (Value.int .i64 (-1 : Int)) (World.drew w12)) else (
  ldI .i64 (a11.add 5) (World.drew w12) fun n24_23 =>
  pt q10 fun a24 =>
  ldI .i64 a24 (World.drew w12) fun n25_25 =>
  bif (n24_23 == n25_25) then (
  R (Value.int .i64 (0 : Int)) (World.drew w12)) else (
  R (Value.int .i64 (1 : Int)) (World.drew w12)))) else (
  ldI .i64 (a11.add 5) (World.drew w12) fun n24_26 =>
  pt q10 fun a27 =>
  ldI .i64 a27 (World.drew w12) fun n25_28 =>
  bif (n24_26 == n25_28) then (
  R (Value.int .i64 (0 : Int)) (World.drew w12)) else (
  R (Value.int .i64 (1 : Int)) (World.drew w12)))
theorem eq_seq_Forest_Least_1 (nn_0 : Int) (nn_1 : Int) (nn_2 : Int) (bn_3 : Bool) (nn_4 : Int) (nn_5 : Int) (nn_6 : Int) (nn_7 : Int) (nn_8 : Int) (q9 : Option Addr) (q10 : Option Addr) (w : World) (R : Value → World → Prop) : sh_seq_Forest_Least_1 nn_0 nn_1 nn_2 bn_3 nn_4 nn_5 nn_6 nn_7 nn_8 q9 q10 w R = denF Pg Eall Tryd.f44 (.seq (.leaf) (.seq (.block (.seq (.reg (.tk 0 [] [] (.tk 1 [] [] (.tk 2 [] [] (.tk 3 [] [] (.tk 4 [] [] (.tk 5 [] [] (.tk 6 [] [] (.tk 7 [] [] (.tk 8 [] [] (.tk 9 [] [] (.tk 10 [] [] (.tk 11 [] [] (.tk 12 [] [] (.tk 13 [] [] (.tk 14 [] [] (.tk 15 [] [] (.tk 16 [] [] (.fin))))))))))))))))))) (.cond (.seq (.leaf) (.leaf)) (.seq (.leaf) (.cond (.seq (.leaf) (.leaf)) (.leaf)))))) (.seq (.leaf) (.leaf)))) [(Value.agg #[(Value.int .i32 nn_0), (Value.int .i32 nn_1), (Value.int .i32 nn_2), (Value.bool bn_3), (Value.int .i32 nn_4), (Value.int .i64 nn_5), (Value.int .i64 nn_6), (Value.int .i64 nn_7), (Value.int .i64 nn_8)]), (Value.pointer q9), (Value.pointer q10)] w R := by kernel_rfl
theorem calls_seq_Forest_Least_1 (nn_0 : Int) (nn_1 : Int) (nn_2 : Int) (bn_3 : Bool) (nn_4 : Int) (nn_5 : Int) (nn_6 : Int) (nn_7 : Int) (nn_8 : Int) (q9 : Option Addr) (q10 : Option Addr) (w : World) (R : Value → World → Prop) (h : sh_seq_Forest_Least_1 nn_0 nn_1 nn_2 bn_3 nn_4 nn_5 nn_6 nn_7 nn_8 q9 q10 w R) : Calls Pg fn_seq_Forest_Least_1 #[(Value.agg #[(Value.int .i32 nn_0), (Value.int .i32 nn_1), (Value.int .i32 nn_2), (Value.bool bn_3), (Value.int .i32 nn_4), (Value.int .i64 nn_5), (Value.int .i64 nn_6), (Value.int .i64 nn_7), (Value.int .i64 nn_8)]), (Value.pointer q9), (Value.pointer q10)] w fun e w' => ∃ v, e = .returned v ∧ R v w' :=
  calls_of_den Eall_enter wide_mixed Tryd.func44 (by rw [← eq_seq_Forest_Least_1]; exact h)

/-- '(*plait/seq.Forest).Most$1' -/
def sh_seq_Forest_Most_1 (nn_0 : Int) (nn_1 : Int) (nn_2 : Int) (bn_3 : Bool) (nn_4 : Int) (nn_5 : Int) (nn_6 : Int) (nn_7 : Int) (nn_8 : Int) (q9 : Option Addr) (q10 : Option Addr) (w : World) (R : Value → World → Prop) : Prop :=
  alo #[(Value.int .i32 nn_0), (Value.int .i32 nn_1), (Value.int .i32 nn_2), (Value.bool bn_3), (Value.int .i32 nn_4), (Value.int .i64 nn_5), (Value.int .i64 nn_6), (Value.int .i64 nn_7), (Value.int .i64 nn_8)] T_seq_node w fun a11 w12 =>
  ldI .i32 (a11.add 1) (World.drew w12) fun n7_13 =>
  bif (n7_13 != (-1 : Int)) then (
  pt q9 fun a14 =>
  ldP a14 (World.drew w12) fun p10_15 =>
  pt p10_15 fun a11_16 =>
  ldS a11_16 (World.drew w12) fun s13_17b s13_17l s13_17c =>
  ldI .i32 (a11.add 1) (World.drew w12) fun n15_18 =>
  ixS s13_17b s13_17l n15_18 9 fun a16_19 =>
  ldI .i64 (a16_19.add 8) (World.drew w12) fun n18_20 =>
  pt q10 fun a21 =>
  ldI .i64 a21 (World.drew w12) fun n19_22 =>
  bif (n18_20 == n19_22) then (
  R (Value.int .i64 (-1 : Int)) (World.drew w12)) else (
  ldI .i64 (a11.add 5) (World.drew w12) fun n24_23 =>
  pt q10 fun a24 =>
  ldI .i64 a24 (World.drew w12) fun n25_25 =>
  bif (n24_23 == n25_25) then (
  R (Value.int .i64 (0 : Int)) (World.drew w12)) else (
  R (Value.int .i64 (1 : Int)) (World.drew w12)))) else (
  ldI .i64 (a11.add 5) (World.drew w12) fun n24_26 =>
  pt q10 fun a27 =>
  ldI .i64 a27 (World.drew w12) fun n25_28 =>
  bif (n24_26 == n25_28) then (
  R (Value.int .i64 (0 : Int)) (World.drew w12)) else (
  R (Value.int .i64 (1 : Int)) (World.drew w12)))
theorem eq_seq_Forest_Most_1 (nn_0 : Int) (nn_1 : Int) (nn_2 : Int) (bn_3 : Bool) (nn_4 : Int) (nn_5 : Int) (nn_6 : Int) (nn_7 : Int) (nn_8 : Int) (q9 : Option Addr) (q10 : Option Addr) (w : World) (R : Value → World → Prop) : sh_seq_Forest_Most_1 nn_0 nn_1 nn_2 bn_3 nn_4 nn_5 nn_6 nn_7 nn_8 q9 q10 w R = denF Pg Eall Tryd.f45 (.seq (.leaf) (.seq (.block (.seq (.reg (.tk 0 [] [] (.tk 1 [] [] (.tk 2 [] [] (.tk 3 [] [] (.tk 4 [] [] (.tk 5 [] [] (.tk 6 [] [] (.tk 7 [] [] (.tk 8 [] [] (.tk 9 [] [] (.tk 10 [] [] (.tk 11 [] [] (.tk 12 [] [] (.tk 13 [] [] (.tk 14 [] [] (.tk 15 [] [] (.tk 16 [] [] (.fin))))))))))))))))))) (.cond (.seq (.leaf) (.leaf)) (.seq (.leaf) (.cond (.seq (.leaf) (.leaf)) (.leaf)))))) (.seq (.leaf) (.leaf)))) [(Value.agg #[(Value.int .i32 nn_0), (Value.int .i32 nn_1), (Value.int .i32 nn_2), (Value.bool bn_3), (Value.int .i32 nn_4), (Value.int .i64 nn_5), (Value.int .i64 nn_6), (Value.int .i64 nn_7), (Value.int .i64 nn_8)]), (Value.pointer q9), (Value.pointer q10)] w R := by kernel_rfl
theorem calls_seq_Forest_Most_1 (nn_0 : Int) (nn_1 : Int) (nn_2 : Int) (bn_3 : Bool) (nn_4 : Int) (nn_5 : Int) (nn_6 : Int) (nn_7 : Int) (nn_8 : Int) (q9 : Option Addr) (q10 : Option Addr) (w : World) (R : Value → World → Prop) (h : sh_seq_Forest_Most_1 nn_0 nn_1 nn_2 bn_3 nn_4 nn_5 nn_6 nn_7 nn_8 q9 q10 w R) : Calls Pg fn_seq_Forest_Most_1 #[(Value.agg #[(Value.int .i32 nn_0), (Value.int .i32 nn_1), (Value.int .i32 nn_2), (Value.bool bn_3), (Value.int .i32 nn_4), (Value.int .i64 nn_5), (Value.int .i64 nn_6), (Value.int .i64 nn_7), (Value.int .i64 nn_8)]), (Value.pointer q9), (Value.pointer q10)] w fun e w' => ∃ v, e = .returned v ∧ R v w' :=
  calls_of_den Eall_enter wide_mixed Tryd.func45 (by rw [← eq_seq_Forest_Most_1]; exact h)

end Go.Proofs.YtfhdnmeciohmlaaDoor
