/-
What each function does, as one formula, printed by a program of this session out of the translation; the kernel holds each print against the translation.
Conditions: none.
-/
import Derived.Test.YtledchlbmilneaaSn
namespace Go.Proofs.Ytledchlbmilneaa
open Go
set_option linter.unusedVariables false
set_option maxRecDepth 100000
/-- 'plait/plaitlaw05.RingBack' -/
def sh_plaitlaw05_RingBack (nn_0 : Int) (sl_1b : Option Addr) (sl_1l : Nat) (sl_1c : Nat) (nof_2 : Int) (nof_3 : Int) (w : World) (R : Value → World → Prop) : Prop :=
  alo #[(Value.int .i64 nof_2), (Value.int .i64 nof_3)] T__2int w fun a4 w5 =>
  (20 : Int) ≠ 0 ∧ Calls Pg fn_ring_New #[(Value.int .i64 (IntKind.wrap .i64 ((2 : Int) + (IntKind.wrap .i64 (Int.tmod (IntKind.wrap .u64 nn_0) (20 : Int))))))] w5 fun e9 w8 => ∃ p32_6 : Option Addr, ∃ v32_7 : Value, e9 = .returned (Value.tuple #[(Value.pointer p32_6), v32_7]) ∧
  ∃ J10 : List Value → World → Prop, (
  isI v32_7 ∧ bif (!(nilI v32_7)) then (
  R (Value.bool false) w8) else (
  bif (Option.isNone p32_6) then (
  R (Value.bool false) w8) else (
  J10 [] w8))) ∧ ∀ _ : Env, ∀ w11 : World, J10 [] w11 →
  ∃ J12 : List Value → World → Prop, (
  ∃ (I13 : List Value → World → Prop) (m14 : List Value → World → Nat), I13 [(Value.int .i64 (0 : Int))] w11 ∧
  ∀ _ : Env, ∀ n15 : Int, ∀ w16 : World, I13 [(Value.int .i64 n15)] w16 →
  ∃ J17 : List Value → World → Prop, (
  bif (decide (n15 < (sl_1l : Int))) then (
  bif (decide (n15 < (40 : Int))) then (
  J17 [] w16) else (
  J12 [] w16)) else (
  J12 [] w16)) ∧ ∀ _ : Env, ∀ w18 : World, J17 [] w18 →
  ixS sl_1b sl_1l n15 3 fun a53_19 =>
  ldI .i64 (a53_19.add 1) (World.drew w18) fun n55_20 =>
  (IntKind.wrap .u64 (IntKind.wrap .i64 ((2 : Int) + (IntKind.wrap .i64 (Int.tmod (IntKind.wrap .u64 nn_0) (20 : Int)))))) ≠ 0 ∧ ixS sl_1b sl_1l n15 3 fun a63_21 =>
  ldI .i64 (a63_21.add 2) (World.drew w18) fun n65_22 =>
  (IntKind.wrap .u64 (IntKind.wrap .i64 ((2 : Int) + (IntKind.wrap .i64 (Int.tmod (IntKind.wrap .u64 nn_0) (20 : Int)))))) ≠ 0 ∧ ixS sl_1b sl_1l n15 3 fun a73_23 =>
  ldI .i64 a73_23 (World.drew w18) fun n75_24 =>
  (4 : Int) ≠ 0 ∧ bif ((Int.tmod n75_24 (4 : Int)) == (0 : Int)) then (
  Calls Pg fn_ring_Rings_Split #[(Value.pointer p32_6), (Value.int .i64 (IntKind.wrap .i64 (Int.tmod (IntKind.wrap .u64 n55_20) (IntKind.wrap .u64 (IntKind.wrap .i64 ((2 : Int) + (IntKind.wrap .i64 (Int.tmod (IntKind.wrap .u64 nn_0) (20 : Int))))))))), (Value.int .i64 (IntKind.wrap .i64 (Int.tmod (IntKind.wrap .u64 n65_22) (IntKind.wrap .u64 (IntKind.wrap .i64 ((2 : Int) + (IntKind.wrap .i64 (Int.tmod (IntKind.wrap .u64 nn_0) (20 : Int)))))))))] (World.drew w18) fun e27 w26 => ∃ v81_25 : Value, e27 = .returned v81_25 ∧
  (I13 [(Value.int .i64 (IntKind.wrap .i64 (n15 + (1 : Int))))] w26 ∧ m14 [(Value.int .i64 (IntKind.wrap .i64 (n15 + (1 : Int))))] w26 < m14 [(Value.int .i64 n15)] w16)) else (
  Calls Pg fn_ring_Rings_Merge #[(Value.pointer p32_6), (Value.int .i64 (IntKind.wrap .i64 (Int.tmod (IntKind.wrap .u64 n55_20) (IntKind.wrap .u64 (IntKind.wrap .i64 ((2 : Int) + (IntKind.wrap .i64 (Int.tmod (IntKind.wrap .u64 nn_0) (20 : Int))))))))), (Value.int .i64 (IntKind.wrap .i64 (Int.tmod (IntKind.wrap .u64 n65_22) (IntKind.wrap .u64 (IntKind.wrap .i64 ((2 : Int) + (IntKind.wrap .i64 (Int.tmod (IntKind.wrap .u64 nn_0) (20 : Int)))))))))] (World.drew w18) fun e30 w29 => ∃ v85_28 : Value, e30 = .returned v85_28 ∧
  (I13 [(Value.int .i64 (IntKind.wrap .i64 (n15 + (1 : Int))))] w29 ∧ m14 [(Value.int .i64 (IntKind.wrap .i64 (n15 + (1 : Int))))] w29 < m14 [(Value.int .i64 n15)] w16))) ∧ ∀ _ : Env, ∀ w31 : World, J12 [] w31 →
  ixA a4 2 (0 : Int) 1 fun a86_32 =>
  ldI .i64 a86_32 (World.drew w31) fun n87_33 =>
  (IntKind.wrap .u64 (IntKind.wrap .i64 ((2 : Int) + (IntKind.wrap .i64 (Int.tmod (IntKind.wrap .u64 nn_0) (20 : Int)))))) ≠ 0 ∧ ixA a4 2 (1 : Int) 1 fun a93_34 =>
  ldI .i64 a93_34 (World.drew w31) fun n94_35 =>
  (IntKind.wrap .u64 (IntKind.wrap .i64 ((2 : Int) + (IntKind.wrap .i64 (Int.tmod (IntKind.wrap .u64 nn_0) (20 : Int)))))) ≠ 0 ∧ Calls Pg fn_ring_Rings_Walk #[(Value.pointer p32_6), (Value.int .i64 (IntKind.wrap .i64 (Int.tmod (IntKind.wrap .u64 n87_33) (IntKind.wrap .u64 (IntKind.wrap .i64 ((2 : Int) + (IntKind.wrap .i64 (Int.tmod (IntKind.wrap .u64 nn_0) (20 : Int)))))))))] (World.drew w31) fun e39 w38 => ∃ s103_36b : Option Addr, ∃ s103_36l : Nat, ∃ s103_36c : Nat, ∃ v103_37 : Value, e39 = .returned (Value.tuple #[(Value.slice s103_36b s103_36l s103_36c), v103_37]) ∧
  Calls Pg fn_ring_Rings_Walk #[(Value.pointer p32_6), (Value.int .i64 (IntKind.wrap .i64 (Int.tmod (IntKind.wrap .u64 n94_35) (IntKind.wrap .u64 (IntKind.wrap .i64 ((2 : Int) + (IntKind.wrap .i64 (Int.tmod (IntKind.wrap .u64 nn_0) (20 : Int)))))))))] w38 fun e43 w42 => ∃ s109_40b : Option Addr, ∃ s109_40l : Nat, ∃ s109_40c : Nat, ∃ v109_41 : Value, e43 = .returned (Value.tuple #[(Value.slice s109_40b s109_40l s109_40c), v109_41]) ∧
  Calls Pg fn_ring_Rings_Same #[(Value.pointer p32_6), (Value.int .i64 (IntKind.wrap .i64 (Int.tmod (IntKind.wrap .u64 n87_33) (IntKind.wrap .u64 (IntKind.wrap .i64 ((2 : Int) + (IntKind.wrap .i64 (Int.tmod (IntKind.wrap .u64 nn_0) (20 : Int))))))))), (Value.int .i64 (IntKind.wrap .i64 (Int.tmod (IntKind.wrap .u64 n94_35) (IntKind.wrap .u64 (IntKind.wrap .i64 ((2 : Int) + (IntKind.wrap .i64 (Int.tmod (IntKind.wrap .u64 nn_0) (20 : Int)))))))))] w42 fun e47 w46 => ∃ b116_44 : Bool, ∃ v116_45 : Value, e47 = .returned (Value.tuple #[(Value.bool b116_44), v116_45]) ∧
  ∃ J48 : List Value → World → Prop, (
  isI v103_37 ∧ bif (!(nilI v103_37)) then (
  bif ((IntKind.wrap .i64 (Int.tmod (IntKind.wrap .u64 n87_33) (IntKind.wrap .u64 (IntKind.wrap .i64 ((2 : Int) + (IntKind.wrap .i64 (Int.tmod (IntKind.wrap .u64 nn_0) (20 : Int)))))))) == (IntKind.wrap .i64 (Int.tmod (IntKind.wrap .u64 n94_35) (IntKind.wrap .u64 (IntKind.wrap .i64 ((2 : Int) + (IntKind.wrap .i64 (Int.tmod (IntKind.wrap .u64 nn_0) (20 : Int))))))))) then (
  isI v103_37 ∧ bif (nilI v103_37) then (
  isI v109_41 ∧ bif (nilI v109_41) then (
  isI v116_45 ∧ bif (nilI v116_45) then (
  Calls Pg fn_plaitlaw05_sure #[] w46 fun e51 w50 => ∃ b150_49 : Bool, e51 = .returned (Value.bool b150_49) ∧
  R (Value.bool b150_49) w50) else (
  R (Value.bool false) w46)) else (
  R (Value.bool false) w46)) else (
  R (Value.bool false) w46)) else (
  R (Value.bool false) w46)) else (
  isI v109_41 ∧ bif (!(nilI v109_41)) then (
  bif ((IntKind.wrap .i64 (Int.tmod (IntKind.wrap .u64 n87_33) (IntKind.wrap .u64 (IntKind.wrap .i64 ((2 : Int) + (IntKind.wrap .i64 (Int.tmod (IntKind.wrap .u64 nn_0) (20 : Int)))))))) == (IntKind.wrap .i64 (Int.tmod (IntKind.wrap .u64 n94_35) (IntKind.wrap .u64 (IntKind.wrap .i64 ((2 : Int) + (IntKind.wrap .i64 (Int.tmod (IntKind.wrap .u64 nn_0) (20 : Int))))))))) then (
  isI v103_37 ∧ bif (nilI v103_37) then (
  isI v109_41 ∧ bif (nilI v109_41) then (
  isI v116_45 ∧ bif (nilI v116_45) then (
  Calls Pg fn_plaitlaw05_sure #[] w46 fun e54 w53 => ∃ b150_52 : Bool, e54 = .returned (Value.bool b150_52) ∧
  R (Value.bool b150_52) w53) else (
  R (Value.bool false) w46)) else (
  R (Value.bool false) w46)) else (
  R (Value.bool false) w46)) else (
  R (Value.bool false) w46)) else (
  isI v116_45 ∧ bif (!(nilI v116_45)) then (
  bif ((IntKind.wrap .i64 (Int.tmod (IntKind.wrap .u64 n87_33) (IntKind.wrap .u64 (IntKind.wrap .i64 ((2 : Int) + (IntKind.wrap .i64 (Int.tmod (IntKind.wrap .u64 nn_0) (20 : Int)))))))) == (IntKind.wrap .i64 (Int.tmod (IntKind.wrap .u64 n94_35) (IntKind.wrap .u64 (IntKind.wrap .i64 ((2 : Int) + (IntKind.wrap .i64 (Int.tmod (IntKind.wrap .u64 nn_0) (20 : Int))))))))) then (
  isI v103_37 ∧ bif (nilI v103_37) then (
  isI v109_41 ∧ bif (nilI v109_41) then (
  isI v116_45 ∧ bif (nilI v116_45) then (
  Calls Pg fn_plaitlaw05_sure #[] w46 fun e57 w56 => ∃ b150_55 : Bool, e57 = .returned (Value.bool b150_55) ∧
  R (Value.bool b150_55) w56) else (
  R (Value.bool false) w46)) else (
  R (Value.bool false) w46)) else (
  R (Value.bool false) w46)) else (
  R (Value.bool false) w46)) else (
  bif ((IntKind.wrap .i64 (Int.tmod (IntKind.wrap .u64 n87_33) (IntKind.wrap .u64 (IntKind.wrap .i64 ((2 : Int) + (IntKind.wrap .i64 (Int.tmod (IntKind.wrap .u64 nn_0) (20 : Int)))))))) == (IntKind.wrap .i64 (Int.tmod (IntKind.wrap .u64 n94_35) (IntKind.wrap .u64 (IntKind.wrap .i64 ((2 : Int) + (IntKind.wrap .i64 (Int.tmod (IntKind.wrap .u64 nn_0) (20 : Int))))))))) then (
  bif ((IntKind.wrap .i64 (Int.tmod (IntKind.wrap .u64 n87_33) (IntKind.wrap .u64 (IntKind.wrap .i64 ((2 : Int) + (IntKind.wrap .i64 (Int.tmod (IntKind.wrap .u64 nn_0) (20 : Int)))))))) == (IntKind.wrap .i64 (Int.tmod (IntKind.wrap .u64 n94_35) (IntKind.wrap .u64 (IntKind.wrap .i64 ((2 : Int) + (IntKind.wrap .i64 (Int.tmod (IntKind.wrap .u64 nn_0) (20 : Int))))))))) then (
  isI v103_37 ∧ bif (nilI v103_37) then (
  isI v109_41 ∧ bif (nilI v109_41) then (
  isI v116_45 ∧ bif (nilI v116_45) then (
  Calls Pg fn_plaitlaw05_sure #[] w46 fun e60 w59 => ∃ b150_58 : Bool, e60 = .returned (Value.bool b150_58) ∧
  R (Value.bool b150_58) w59) else (
  R (Value.bool false) w46)) else (
  R (Value.bool false) w46)) else (
  R (Value.bool false) w46)) else (
  R (Value.bool false) w46)) else (
  J48 [] w46))))) ∧ ∀ _ : Env, ∀ w61 : World, J48 [] w61 →
  ∃ J62 : List Value → World → Prop, (
  bif b116_44 then (
  Calls Pg fn_ring_Rings_Split #[(Value.pointer p32_6), (Value.int .i64 (IntKind.wrap .i64 (Int.tmod (IntKind.wrap .u64 n87_33) (IntKind.wrap .u64 (IntKind.wrap .i64 ((2 : Int) + (IntKind.wrap .i64 (Int.tmod (IntKind.wrap .u64 nn_0) (20 : Int))))))))), (Value.int .i64 (IntKind.wrap .i64 (Int.tmod (IntKind.wrap .u64 n94_35) (IntKind.wrap .u64 (IntKind.wrap .i64 ((2 : Int) + (IntKind.wrap .i64 (Int.tmod (IntKind.wrap .u64 nn_0) (20 : Int)))))))))] w61 fun e65 w64 => ∃ v156_63 : Value, e65 = .returned v156_63 ∧
  isI v156_63 ∧ bif (!(nilI v156_63)) then (
  R (Value.bool false) w64) else (
  Calls Pg fn_ring_Rings_Merge #[(Value.pointer p32_6), (Value.int .i64 (IntKind.wrap .i64 (Int.tmod (IntKind.wrap .u64 n87_33) (IntKind.wrap .u64 (IntKind.wrap .i64 ((2 : Int) + (IntKind.wrap .i64 (Int.tmod (IntKind.wrap .u64 nn_0) (20 : Int))))))))), (Value.int .i64 (IntKind.wrap .i64 (Int.tmod (IntKind.wrap .u64 n94_35) (IntKind.wrap .u64 (IntKind.wrap .i64 ((2 : Int) + (IntKind.wrap .i64 (Int.tmod (IntKind.wrap .u64 nn_0) (20 : Int)))))))))] w64 fun e68 w67 => ∃ v162_66 : Value, e68 = .returned v162_66 ∧
  isI v162_66 ∧ bif (!(nilI v162_66)) then (
  R (Value.bool false) w67) else (
  J62 [] w67))) else (
  Calls Pg fn_ring_Rings_Merge #[(Value.pointer p32_6), (Value.int .i64 (IntKind.wrap .i64 (Int.tmod (IntKind.wrap .u64 n87_33) (IntKind.wrap .u64 (IntKind.wrap .i64 ((2 : Int) + (IntKind.wrap .i64 (Int.tmod (IntKind.wrap .u64 nn_0) (20 : Int))))))))), (Value.int .i64 (IntKind.wrap .i64 (Int.tmod (IntKind.wrap .u64 n94_35) (IntKind.wrap .u64 (IntKind.wrap .i64 ((2 : Int) + (IntKind.wrap .i64 (Int.tmod (IntKind.wrap .u64 nn_0) (20 : Int)))))))))] w61 fun e71 w70 => ∃ v168_69 : Value, e71 = .returned v168_69 ∧
  isI v168_69 ∧ bif (!(nilI v168_69)) then (
  R (Value.bool false) w70) else (
  Calls Pg fn_ring_Rings_Split #[(Value.pointer p32_6), (Value.int .i64 (IntKind.wrap .i64 (Int.tmod (IntKind.wrap .u64 n87_33) (IntKind.wrap .u64 (IntKind.wrap .i64 ((2 : Int) + (IntKind.wrap .i64 (Int.tmod (IntKind.wrap .u64 nn_0) (20 : Int))))))))), (Value.int .i64 (IntKind.wrap .i64 (Int.tmod (IntKind.wrap .u64 n94_35) (IntKind.wrap .u64 (IntKind.wrap .i64 ((2 : Int) + (IntKind.wrap .i64 (Int.tmod (IntKind.wrap .u64 nn_0) (20 : Int)))))))))] w70 fun e74 w73 => ∃ v174_72 : Value, e74 = .returned v174_72 ∧
  isI v174_72 ∧ bif (!(nilI v174_72)) then (
  R (Value.bool false) w73) else (
  J62 [] w73)))) ∧ ∀ _ : Env, ∀ w75 : World, J62 [] w75 →
  Calls Pg fn_ring_Rings_Walk #[(Value.pointer p32_6), (Value.int .i64 (IntKind.wrap .i64 (Int.tmod (IntKind.wrap .u64 n87_33) (IntKind.wrap .u64 (IntKind.wrap .i64 ((2 : Int) + (IntKind.wrap .i64 (Int.tmod (IntKind.wrap .u64 nn_0) (20 : Int)))))))))] w75 fun e79 w78 => ∃ s180_76b : Option Addr, ∃ s180_76l : Nat, ∃ s180_76c : Nat, ∃ v180_77 : Value, e79 = .returned (Value.tuple #[(Value.slice s180_76b s180_76l s180_76c), v180_77]) ∧
  Calls Pg fn_ring_Rings_Walk #[(Value.pointer p32_6), (Value.int .i64 (IntKind.wrap .i64 (Int.tmod (IntKind.wrap .u64 n94_35) (IntKind.wrap .u64 (IntKind.wrap .i64 ((2 : Int) + (IntKind.wrap .i64 (Int.tmod (IntKind.wrap .u64 nn_0) (20 : Int)))))))))] w78 fun e83 w82 => ∃ s186_80b : Option Addr, ∃ s186_80l : Nat, ∃ s186_80c : Nat, ∃ v186_81 : Value, e83 = .returned (Value.tuple #[(Value.slice s186_80b s186_80l s186_80c), v186_81]) ∧
  isI v180_77 ∧ bif (nilI v180_77) then (
  isI v186_81 ∧ bif (nilI v186_81) then (
  Calls Pg fn_plaitlaw05_ints #[(Value.slice s180_76b s180_76l s180_76c), (Value.slice s103_36b s103_36l s103_36c)] w82 fun e86 w85 => ∃ b198_84 : Bool, e86 = .returned (Value.bool b198_84) ∧
  bif b198_84 then (
  Calls Pg fn_plaitlaw05_ints #[(Value.slice s186_80b s186_80l s186_80c), (Value.slice s109_40b s109_40l s109_40c)] w85 fun e89 w88 => ∃ b203_87 : Bool, e89 = .returned (Value.bool b203_87) ∧
  bif b203_87 then (
  Calls Pg fn_plaitlaw05_sure #[] w88 fun e92 w91 => ∃ b206_90 : Bool, e92 = .returned (Value.bool b206_90) ∧
  R (Value.bool b206_90) w91) else (
  R (Value.bool false) w88)) else (
  R (Value.bool false) w85)) else (
  R (Value.bool false) w82)) else (
  R (Value.bool false) w82)
theorem eq_plaitlaw05_RingBack (nn_0 : Int) (sl_1b : Option Addr) (sl_1l : Nat) (sl_1c : Nat) (nof_2 : Int) (nof_3 : Int) (w : World) (R : Value → World → Prop) : sh_plaitlaw05_RingBack nn_0 sl_1b sl_1l sl_1c nof_2 nof_3 w R = denF Pg Eall Try.f3 (.seq (.leaf) (.seq (.leaf) (.seq (.leaf) (.join [] [] (.seq (.leaf) (.cond (.seq (.leaf) (.leaf)) (.leaf))) (.join [] [] (.seq (.leaf) (.block (.loop [10] [.one (.int .i64)] (.join [] [] (.seq (.leaf) (.cond (.leaf) (.leaf))) (.seq (.block (.seq (.reg (.tk 0 [] [] (.tk 1 [] [] (.tk 2 [] [] (.tk 3 [] [] (.tk 4 [] [] (.tk 5 [] [] (.tk 6 [] [] (.tk 7 [] [] (.tk 8 [] [] (.tk 9 [] [] (.tk 10 [] [] (.tk 11 [] [] (.tk 12 [] [] (.tk 13 [] [] (.tk 14 [] [] (.tk 15 [] [] (.tk 16 [] [] (.tk 17 [] [] (.tk 18 [] [] (.tk 19 [] [] (.tk 20 [] [] (.tk 21 [] [] (.fin)))))))))))))))))))))))) (.seq (.leaf) (.cond (.leaf) (.leaf))))) (.leaf)))))) (.seq (.reg (.tk 0 [] [] (.tk 1 [] [] (.tk 2 [] [] (.tk 3 [] [] (.tk 4 [] [] (.tk 5 [] [] (.tk 6 [] [] (.tk 7 [] [] (.tk 8 [] [] (.tk 9 [] [] (.tk 10 [] [] (.tk 11 [] [] (.tk 12 [] [] (.tk 13 [] [] (.tk 14 [] [] (.tk 15 [] [] (.fin)))))))))))))))))) (.seq (.leaf) (.seq (.leaf) (.seq (.leaf) (.join [] [] (.seq (.leaf) (.cond (.seq (.leaf) (.leaf)) (.leaf))) (.join [] [] (.seq (.leaf) (.cond (.seq (.leaf) (.cond (.seq (.leaf) (.leaf)) (.leaf))) (.seq (.leaf) (.cond (.seq (.leaf) (.leaf)) (.leaf))))) (.seq (.leaf) (.seq (.leaf) (.seq (.leaf) (.leaf))))))))))))))) [(Value.int .i64 nn_0), (Value.slice sl_1b sl_1l sl_1c), (Value.agg #[(Value.int .i64 nof_2), (Value.int .i64 nof_3)])] w R := by kernel_rfl
theorem calls_plaitlaw05_RingBack (nn_0 : Int) (sl_1b : Option Addr) (sl_1l : Nat) (sl_1c : Nat) (nof_2 : Int) (nof_3 : Int) (w : World) (R : Value → World → Prop) (h : sh_plaitlaw05_RingBack nn_0 sl_1b sl_1l sl_1c nof_2 nof_3 w R) : Calls Pg fn_plaitlaw05_RingBack #[(Value.int .i64 nn_0), (Value.slice sl_1b sl_1l sl_1c), (Value.agg #[(Value.int .i64 nof_2), (Value.int .i64 nof_3)])] w fun e w' => ∃ v, e = .returned v ∧ R v w' :=
  calls_of_den Eall_enter wide_mixed Try.func3 (by rw [← eq_plaitlaw05_RingBack]; exact h)

/-- 'plait/plaitlaw05.RingSteps' -/
def sh_plaitlaw05_RingSteps (nn_0 : Int) (sl_1b : Option Addr) (sl_1l : Nat) (sl_1c : Nat) (nx_2 : Int) (w : World) (R : Value → World → Prop) : Prop :=
  (20 : Int) ≠ 0 ∧ Calls Pg fn_ring_New #[(Value.int .i64 (IntKind.wrap .i64 ((1 : Int) + (IntKind.wrap .i64 (Int.tmod (IntKind.wrap .u64 nn_0) (20 : Int))))))] w fun e6 w5 => ∃ p29_3 : Option Addr, ∃ v29_4 : Value, e6 = .returned (Value.tuple #[(Value.pointer p29_3), v29_4]) ∧
  ∃ J7 : List Value → World → Prop, (
  isI v29_4 ∧ bif (!(nilI v29_4)) then (
  R (Value.bool false) w5) else (
  bif (Option.isNone p29_3) then (
  R (Value.bool false) w5) else (
  J7 [] w5))) ∧ ∀ _ : Env, ∀ w8 : World, J7 [] w8 →
  ∃ J9 : List Value → World → Prop, (
  ∃ (I10 : List Value → World → Prop) (m11 : List Value → World → Nat), I10 [(Value.int .i64 (0 : Int))] w8 ∧
  ∀ _ : Env, ∀ n12 : Int, ∀ w13 : World, I10 [(Value.int .i64 n12)] w13 →
  ∃ J14 : List Value → World → Prop, (
  bif (decide (n12 < (sl_1l : Int))) then (
  bif (decide (n12 < (40 : Int))) then (
  J14 [] w13) else (
  J9 [] w13)) else (
  J9 [] w13)) ∧ ∀ _ : Env, ∀ w15 : World, J14 [] w15 →
  ixS sl_1b sl_1l n12 3 fun a50_16 =>
  ldI .i64 (a50_16.add 1) (World.drew w15) fun n52_17 =>
  (IntKind.wrap .u64 (IntKind.wrap .i64 ((1 : Int) + (IntKind.wrap .i64 (Int.tmod (IntKind.wrap .u64 nn_0) (20 : Int)))))) ≠ 0 ∧ ixS sl_1b sl_1l n12 3 fun a60_18 =>
  ldI .i64 (a60_18.add 2) (World.drew w15) fun n62_19 =>
  (IntKind.wrap .u64 (IntKind.wrap .i64 ((1 : Int) + (IntKind.wrap .i64 (Int.tmod (IntKind.wrap .u64 nn_0) (20 : Int)))))) ≠ 0 ∧ ixS sl_1b sl_1l n12 3 fun a70_20 =>
  ldI .i64 a70_20 (World.drew w15) fun n72_21 =>
  (4 : Int) ≠ 0 ∧ bif ((Int.tmod n72_21 (4 : Int)) == (0 : Int)) then (
  Calls Pg fn_ring_Rings_Split #[(Value.pointer p29_3), (Value.int .i64 (IntKind.wrap .i64 (Int.tmod (IntKind.wrap .u64 n52_17) (IntKind.wrap .u64 (IntKind.wrap .i64 ((1 : Int) + (IntKind.wrap .i64 (Int.tmod (IntKind.wrap .u64 nn_0) (20 : Int))))))))), (Value.int .i64 (IntKind.wrap .i64 (Int.tmod (IntKind.wrap .u64 n62_19) (IntKind.wrap .u64 (IntKind.wrap .i64 ((1 : Int) + (IntKind.wrap .i64 (Int.tmod (IntKind.wrap .u64 nn_0) (20 : Int)))))))))] (World.drew w15) fun e24 w23 => ∃ v78_22 : Value, e24 = .returned v78_22 ∧
  (I10 [(Value.int .i64 (IntKind.wrap .i64 (n12 + (1 : Int))))] w23 ∧ m11 [(Value.int .i64 (IntKind.wrap .i64 (n12 + (1 : Int))))] w23 < m11 [(Value.int .i64 n12)] w13)) else (
  Calls Pg fn_ring_Rings_Merge #[(Value.pointer p29_3), (Value.int .i64 (IntKind.wrap .i64 (Int.tmod (IntKind.wrap .u64 n52_17) (IntKind.wrap .u64 (IntKind.wrap .i64 ((1 : Int) + (IntKind.wrap .i64 (Int.tmod (IntKind.wrap .u64 nn_0) (20 : Int))))))))), (Value.int .i64 (IntKind.wrap .i64 (Int.tmod (IntKind.wrap .u64 n62_19) (IntKind.wrap .u64 (IntKind.wrap .i64 ((1 : Int) + (IntKind.wrap .i64 (Int.tmod (IntKind.wrap .u64 nn_0) (20 : Int)))))))))] (World.drew w15) fun e27 w26 => ∃ v82_25 : Value, e27 = .returned v82_25 ∧
  (I10 [(Value.int .i64 (IntKind.wrap .i64 (n12 + (1 : Int))))] w26 ∧ m11 [(Value.int .i64 (IntKind.wrap .i64 (n12 + (1 : Int))))] w26 < m11 [(Value.int .i64 n12)] w13))) ∧ ∀ _ : Env, ∀ w28 : World, J9 [] w28 →
  (IntKind.wrap .u64 (IntKind.wrap .i64 ((1 : Int) + (IntKind.wrap .i64 (Int.tmod (IntKind.wrap .u64 nn_0) (20 : Int)))))) ≠ 0 ∧ Calls Pg fn_ring_Rings_Len #[(Value.pointer p29_3), (Value.int .i64 (IntKind.wrap .i64 (Int.tmod (IntKind.wrap .u64 nx_2) (IntKind.wrap .u64 (IntKind.wrap .i64 ((1 : Int) + (IntKind.wrap .i64 (Int.tmod (IntKind.wrap .u64 nn_0) (20 : Int)))))))))] w28 fun e32 w31 => ∃ n92_29 : Int, ∃ v92_30 : Value, e32 = .returned (Value.tuple #[(Value.int .i64 n92_29), v92_30]) ∧
  ∃ J33 : List Value → World → Prop, (
  isI v92_30 ∧ bif (!(nilI v92_30)) then (
  R (Value.bool false) w31) else (
  bif (decide (n92_29 < (1 : Int))) then (
  R (Value.bool false) w31) else (
  bif (decide (n92_29 > (IntKind.wrap .i64 ((1 : Int) + (IntKind.wrap .i64 (Int.tmod (IntKind.wrap .u64 nn_0) (20 : Int))))))) then (
  R (Value.bool false) w31) else (
  J33 [] w31)))) ∧ ∀ _ : Env, ∀ w34 : World, J33 [] w34 →
  ∃ (I35 : List Value → World → Prop) (m36 : List Value → World → Nat), I35 [(Value.int .i64 (IntKind.wrap .i64 (Int.tmod (IntKind.wrap .u64 nx_2) (IntKind.wrap .u64 (IntKind.wrap .i64 ((1 : Int) + (IntKind.wrap .i64 (Int.tmod (IntKind.wrap .u64 nn_0) (20 : Int))))))))), (Value.int .i64 (0 : Int))] w34 ∧
  ∀ _ : Env, ∀ n37 : Int, ∀ n38 : Int, ∀ w39 : World, I35 [(Value.int .i64 n37), (Value.int .i64 n38)] w39 →
  bif (decide (n38 < n92_29)) then (
  ∃ J40 : List Value → World → Prop, (
  bif (decide (n38 > (0 : Int))) then (
  bif (n37 == (IntKind.wrap .i64 (Int.tmod (IntKind.wrap .u64 nx_2) (IntKind.wrap .u64 (IntKind.wrap .i64 ((1 : Int) + (IntKind.wrap .i64 (Int.tmod (IntKind.wrap .u64 nn_0) (20 : Int))))))))) then (
  R (Value.bool false) w39) else (
  J40 [] w39)) else (
  J40 [] w39)) ∧ ∀ _ : Env, ∀ w41 : World, J40 [] w41 →
  Calls Pg fn_ring_Rings_Next #[(Value.pointer p29_3), (Value.int .i64 n37)] w41 fun e45 w44 => ∃ n122_42 : Int, ∃ v122_43 : Value, e45 = .returned (Value.tuple #[(Value.int .i64 n122_42), v122_43]) ∧
  Calls Pg fn_ring_Rings_Prev #[(Value.pointer p29_3), (Value.int .i64 n122_42)] w44 fun e49 w48 => ∃ n128_46 : Int, ∃ v128_47 : Value, e49 = .returned (Value.tuple #[(Value.int .i64 n128_46), v128_47]) ∧
  isI v122_43 ∧ bif (!(nilI v122_43)) then (
  R (Value.bool false) w48) else (
  isI v128_47 ∧ bif (!(nilI v128_47)) then (
  R (Value.bool false) w48) else (
  bif (n128_46 != n37) then (
  R (Value.bool false) w48) else (
  (I35 [(Value.int .i64 n122_42), (Value.int .i64 (IntKind.wrap .i64 (n38 + (1 : Int))))] w48 ∧ m36 [(Value.int .i64 n122_42), (Value.int .i64 (IntKind.wrap .i64 (n38 + (1 : Int))))] w48 < m36 [(Value.int .i64 n37), (Value.int .i64 n38)] w39))))) else (
  bif (n37 == (IntKind.wrap .i64 (Int.tmod (IntKind.wrap .u64 nx_2) (IntKind.wrap .u64 (IntKind.wrap .i64 ((1 : Int) + (IntKind.wrap .i64 (Int.tmod (IntKind.wrap .u64 nn_0) (20 : Int))))))))) then (
  Calls Pg fn_plaitlaw05_sure #[] w39 fun e52 w51 => ∃ b147_50 : Bool, e52 = .returned (Value.bool b147_50) ∧
  R (Value.bool b147_50) w51) else (
  R (Value.bool false) w39))
theorem eq_plaitlaw05_RingSteps (nn_0 : Int) (sl_1b : Option Addr) (sl_1l : Nat) (sl_1c : Nat) (nx_2 : Int) (w : World) (R : Value → World → Prop) : sh_plaitlaw05_RingSteps nn_0 sl_1b sl_1l sl_1c nx_2 w R = denF Pg Eall Try.f4 (.seq (.leaf) (.seq (.leaf) (.seq (.leaf) (.join [] [] (.seq (.leaf) (.cond (.seq (.leaf) (.leaf)) (.leaf))) (.join [] [] (.seq (.leaf) (.block (.loop [10] [.one (.int .i64)] (.join [] [] (.seq (.leaf) (.cond (.leaf) (.leaf))) (.seq (.block (.seq (.reg (.tk 0 [] [] (.tk 1 [] [] (.tk 2 [] [] (.tk 3 [] [] (.tk 4 [] [] (.tk 5 [] [] (.tk 6 [] [] (.tk 7 [] [] (.tk 8 [] [] (.tk 9 [] [] (.tk 10 [] [] (.tk 11 [] [] (.tk 12 [] [] (.tk 13 [] [] (.tk 14 [] [] (.tk 15 [] [] (.tk 16 [] [] (.tk 17 [] [] (.tk 18 [] [] (.tk 19 [] [] (.tk 20 [] [] (.tk 21 [] [] (.fin)))))))))))))))))))))))) (.seq (.leaf) (.cond (.leaf) (.leaf))))) (.leaf)))))) (.seq (.leaf) (.seq (.leaf) (.join [] [] (.seq (.leaf) (.cond (.seq (.leaf) (.leaf)) (.leaf))) (.seq (.leaf) (.seq (.seq (.leaf) (.block (.loop [16, 17] [.one (.int .i64), .one (.int .i64)] (.seq (.seq (.leaf) (.cond (.leaf) (.leaf))) (.seq (.block (.join [] [] (.seq (.leaf) (.cond (.seq (.leaf) (.leaf)) (.leaf))) (.seq (.leaf) (.seq (.leaf) (.seq (.seq (.leaf) (.cond (.seq (.leaf) (.leaf)) (.leaf))) (.leaf)))))) (.leaf)))))) (.seq (.leaf) (.leaf)))))))))))) [(Value.int .i64 nn_0), (Value.slice sl_1b sl_1l sl_1c), (Value.int .i64 nx_2)] w R := by kernel_rfl
theorem calls_plaitlaw05_RingSteps (nn_0 : Int) (sl_1b : Option Addr) (sl_1l : Nat) (sl_1c : Nat) (nx_2 : Int) (w : World) (R : Value → World → Prop) (h : sh_plaitlaw05_RingSteps nn_0 sl_1b sl_1l sl_1c nx_2 w R) : Calls Pg fn_plaitlaw05_RingSteps #[(Value.int .i64 nn_0), (Value.slice sl_1b sl_1l sl_1c), (Value.int .i64 nx_2)] w fun e w' => ∃ v, e = .returned v ∧ R v w' :=
  calls_of_den Eall_enter wide_mixed Try.func4 (by rw [← eq_plaitlaw05_RingSteps]; exact h)

/-- 'plait/plaitlaw05.sure' -/
def sh_plaitlaw05_sure (w : World) (R : Value → World → Prop) : Prop :=
  Calls Pg fn_ring_New #[(Value.int .i64 (3 : Int))] w fun e3 w2 => ∃ p6_0 : Option Addr, ∃ v6_1 : Value, e3 = .returned (Value.tuple #[(Value.pointer p6_0), v6_1]) ∧
  isI v6_1 ∧ bif (!(nilI v6_1)) then (
  R (Value.bool false) w2) else (
  bif (Option.isNone p6_0) then (
  R (Value.bool false) w2) else (
  Calls Pg fn_ring_Rings_Merge #[(Value.pointer p6_0), (Value.int .i64 (0 : Int)), (Value.int .i64 (1 : Int))] w2 fun e6 w5 => ∃ v17_4 : Value, e6 = .returned v17_4 ∧
  isI v17_4 ∧ bif (!(nilI v17_4)) then (
  R (Value.bool false) w5) else (
  Calls Pg fn_ring_Rings_Merge #[(Value.pointer p6_0), (Value.int .i64 (0 : Int)), (Value.int .i64 (2 : Int))] w5 fun e9 w8 => ∃ v22_7 : Value, e9 = .returned v22_7 ∧
  isI v22_7 ∧ bif (!(nilI v22_7)) then (
  R (Value.bool false) w8) else (
  Calls Pg fn_ring_Rings_Split #[(Value.pointer p6_0), (Value.int .i64 (0 : Int)), (Value.int .i64 (2 : Int))] w8 fun e12 w11 => ∃ v27_10 : Value, e12 = .returned v27_10 ∧
  isI v27_10 ∧ bif (!(nilI v27_10)) then (
  R (Value.bool false) w11) else (
  Calls Pg fn_ring_Rings_Walk #[(Value.pointer p6_0), (Value.int .i64 (1 : Int))] w11 fun e16 w15 => ∃ s32_13b : Option Addr, ∃ s32_13l : Nat, ∃ s32_13c : Nat, ∃ v32_14 : Value, e16 = .returned (Value.tuple #[(Value.slice s32_13b s32_13l s32_13c), v32_14]) ∧
  isI v32_14 ∧ bif (nilI v32_14) then (
  alo #[(Value.int .i64 (1 : Int)), (Value.int .i64 (0 : Int))] T_int w15 fun a17 w18 =>
  Calls Pg fn_plaitlaw05_ints #[(Value.slice s32_13b s32_13l s32_13c), (Value.slice (some a17) 2 2)] w18 fun e21 w20 => ∃ b40_19 : Bool, e21 = .returned (Value.bool b40_19) ∧
  R (Value.bool b40_19) w20) else (
  R (Value.bool false) w15))))))
theorem eq_plaitlaw05_sure (w : World) (R : Value → World → Prop) : sh_plaitlaw05_sure w R = denF Pg Eall Try.f10 (.seq (.leaf) (.seq (.leaf) (.seq (.seq (.leaf) (.cond (.seq (.leaf) (.leaf)) (.leaf))) (.seq (.leaf) (.seq (.leaf) (.leaf)))))) [] w R := by kernel_rfl
theorem calls_plaitlaw05_sure (w : World) (R : Value → World → Prop) (h : sh_plaitlaw05_sure w R) : Calls Pg fn_plaitlaw05_sure #[] w fun e w' => ∃ v, e = .returned v ∧ R v w' :=
  calls_of_den Eall_enter wide_mixed Try.func10 (by rw [← eq_plaitlaw05_sure]; exact h)

/-- 'plait/plaitlaw05.ints' -/
def sh_plaitlaw05_ints (sa_0b : Option Addr) (sa_0l : Nat) (sa_0c : Nat) (sb_1b : Option Addr) (sb_1l : Nat) (sb_1c : Nat) (w : World) (R : Value → World → Prop) : Prop :=
  bif ((sa_0l : Int) != (sb_1l : Int)) then (
  R (Value.bool false) w) else (
  ∃ (I2 : List Value → World → Prop) (m3 : List Value → World → Nat), I2 [(Value.int .i64 (0 : Int))] w ∧
  ∀ _ : Env, ∀ n4 : Int, ∀ w5 : World, I2 [(Value.int .i64 n4)] w5 →
  bif (decide (n4 < (sa_0l : Int))) then (
  ixS sa_0b sa_0l n4 1 fun a19_6 =>
  ldI .i64 a19_6 (World.drew w5) fun n20_7 =>
  ixS sb_1b sb_1l n4 1 fun a23_8 =>
  ldI .i64 a23_8 (World.drew w5) fun n24_9 =>
  bif (n20_7 != n24_9) then (
  R (Value.bool false) (World.drew w5)) else (
  (I2 [(Value.int .i64 (IntKind.wrap .i64 (n4 + (1 : Int))))] (World.drew w5) ∧ m3 [(Value.int .i64 (IntKind.wrap .i64 (n4 + (1 : Int))))] (World.drew w5) < m3 [(Value.int .i64 n4)] w5))) else (
  R (Value.bool true) w5))
theorem eq_plaitlaw05_ints (sa_0b : Option Addr) (sa_0l : Nat) (sa_0c : Nat) (sb_1b : Option Addr) (sb_1l : Nat) (sb_1c : Nat) (w : World) (R : Value → World → Prop) : sh_plaitlaw05_ints sa_0b sa_0l sa_0c sb_1b sb_1l sb_1c w R = denF Pg Eall Try.f11 (.seq (.leaf) (.seq (.seq (.leaf) (.cond (.seq (.leaf) (.leaf)) (.leaf))) (.seq (.seq (.leaf) (.block (.loop [5] [.one (.int .i64)] (.seq (.seq (.leaf) (.cond (.leaf) (.leaf))) (.seq (.block (.seq (.reg (.tk 0 [] [] (.tk 1 [] [] (.tk 2 [] [] (.tk 3 [] [] (.tk 4 [] [] (.tk 5 [] [] (.tk 6 [] [] (.tk 7 [] [] (.tk 8 [] [] (.fin))))))))))) (.cond (.seq (.leaf) (.leaf)) (.leaf)))) (.leaf)))))) (.seq (.leaf) (.leaf))))) [(Value.slice sa_0b sa_0l sa_0c), (Value.slice sb_1b sb_1l sb_1c)] w R := by kernel_rfl
theorem calls_plaitlaw05_ints (sa_0b : Option Addr) (sa_0l : Nat) (sa_0c : Nat) (sb_1b : Option Addr) (sb_1l : Nat) (sb_1c : Nat) (w : World) (R : Value → World → Prop) (h : sh_plaitlaw05_ints sa_0b sa_0l sa_0c sb_1b sb_1l sb_1c w R) : Calls Pg fn_plaitlaw05_ints #[(Value.slice sa_0b sa_0l sa_0c), (Value.slice sb_1b sb_1l sb_1c)] w fun e w' => ∃ v, e = .returned v ∧ R v w' :=
  calls_of_den Eall_enter wide_mixed Try.func11 (by rw [← eq_plaitlaw05_ints]; exact h)

end Go.Proofs.Ytledchlbmilneaa
