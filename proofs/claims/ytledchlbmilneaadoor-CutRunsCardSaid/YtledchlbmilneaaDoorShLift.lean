/-
The two parts of a function around its range over a function, as one formula each, printed by a program of this session out of the translation; the kernel holds each print against the translation.
Conditions: none.
-/
import Derived.Test.YtledchlbmilneaaDoorSn
namespace Go.Proofs.YtledchlbmilneaaDoor
open Go
set_option linter.unusedVariables false
set_option maxRecDepth 100000
def bodyOf (f : Func) : Code := f.body.getD .skip
def preOf : Code → Code | .seq a (.seq b (.seq c (.seq (.seq r _) _))) => .seq a (.seq b (.seq c r)) | c => c
def midOf : Code → Code | .seq _ (.seq _ (.seq _ (.seq (.seq _ m) _))) => m | c => c
def postOf : Code → Code | .seq _ (.seq _ (.seq _ (.seq (.seq _ _) e))) => e | c => c
/-- '(*plait/cut.Forest).lift', a part -/
def sh_cut_Forest_lift_A (pf_0 : Option Addr) (nx_1 : Int) (w : World) (R : Value → World → Prop) : Prop :=
  alo #[(Value.pointer pf_0)] T_p_cut_Forest w fun a2 w3 =>
  alo #[(Value.int .i32 nx_1)] T_int32 w3 fun a4 w5 =>
  ∃ (I6 : List Value → World → Prop) (m7 : List Value → World → Nat), I6 [(Value.slice (some a4) 1 1), (Value.int .i32 nx_1)] w5 ∧
  ∀ _ : Env, ∀ s8b : Option Addr, ∀ s8l : Nat, ∀ s8c : Nat, ∀ n9 : Int, ∀ w10 : World, I6 [(Value.slice s8b s8l s8c), (Value.int .i32 n9)] w10 →
  ldP a2 w10 fun p12_11 =>
  Calls Pg fn_cut_Forest_top #[(Value.pointer p12_11), (Value.int .i32 n9)] w10 fun e14 w13 => ∃ b14_12 : Bool, e14 = .returned (Value.bool b14_12) ∧
  bif (!b14_12) then (
  ldP a2 w13 fun p25_15 =>
  pt p25_15 fun a26_16 =>
  ldS a26_16 w13 fun s28_17b s28_17l s28_17c =>
  ixS s28_17b s28_17l n9 9 fun a30_18 =>
  ldI .i32 a30_18 w13 fun n32_19 =>
  alo #[(Value.int .i32 n32_19)] T_int32 w13 fun a20 w21 =>
  ∃ s34_22b : Option Addr, ∃ s34_22l : Nat, ∃ s34_22c : Nat, ∃ w23 : World, (Builtin.append_ #[T_sl_int32, T_sl_int32] T_sl_int32 #[(Value.slice s8b s8l s8c), (Value.slice (some a20) 1 1)]).run Pg w21 = .ok (Value.slice s34_22b s34_22l s34_22c) w23 ∧
  ldP a2 w23 fun p16_24 =>
  pt p16_24 fun a17_25 =>
  ldS a17_25 w23 fun s19_26b s19_26l s19_26c =>
  ixS s19_26b s19_26l n9 9 fun a21_27 =>
  ldI .i32 a21_27 w23 fun n23_28 =>
  (I6 [(Value.slice s34_22b s34_22l s34_22c), (Value.int .i32 n23_28)] w23 ∧ m7 [(Value.slice s34_22b s34_22l s34_22c), (Value.int .i32 n23_28)] w23 < m7 [(Value.slice s8b s8l s8c), (Value.int .i32 n9)] w10)) else (
  Calls Pg fn_slices_Backward__int32int32 #[(Value.slice s8b s8l s8c)] w13 fun e31 w30 => ∃ f36_29 : Value, e31 = .returned f36_29 ∧
  R (Value.tuple #[f36_29, (Value.pointer (some a2)), (Value.int .i32 nx_1), (Value.pointer pf_0)]) w30)
def an_cut_Forest_lift_A : An := .seq (.leaf) (.seq (.leaf) (.seq (.seq (.leaf) (.block (.loop [4, 5] [.one (.slc), .one (.int .i32)] (.seq (.seq (.leaf) (.cond (.leaf) (.leaf))) (.seq (.block (.leaf)) (.leaf)))))) (.leaf)))
theorem eq_cut_Forest_lift_A (pf_0 : Option Addr) (nx_1 : Int) (w : World) (R : Value → World → Prop) : sh_cut_Forest_lift_A pf_0 nx_1 w R = den Pg Eall 74 an_cut_Forest_lift_A (preOf (bodyOf Tryd.f137)) (fun x e w' => match x with | .normal => R (resV e [36, 2, 1, 0]) w' | _ => False) (envOf [(Value.pointer pf_0), (Value.int .i32 nx_1)]) w := by kernel_rfl

/-- '(*plait/cut.Forest).lift', a part -/
def sh_cut_Forest_lift_B (pf_0 : Option Addr) (nx_1 : Int) (pf_2 : Option Addr) (w : World) (R : Value → World → Prop) : Prop :=
  ∃ (I3 : List Value → World → Prop) (m4 : List Value → World → Nat), I3 [] w ∧
  ∀ _ : Env, ∀ w5 : World, I3 [] w5 →
  pt pf_2 fun a6 =>
  ldP a6 w5 fun p42_7 =>
  Calls Pg fn_cut_Forest_top #[(Value.pointer p42_7), (Value.int .i32 nx_1)] w5 fun e10 w9 => ∃ b44_8 : Bool, e10 = .returned (Value.bool b44_8) ∧
  bif (!b44_8) then (
  pt pf_2 fun a11 =>
  ldP a11 w9 fun p46_12 =>
  pt p46_12 fun a47_13 =>
  ldS a47_13 w9 fun s49_14b s49_14l s49_14c =>
  ixS s49_14b s49_14l nx_1 9 fun a51_15 =>
  ldI .i32 a51_15 w9 fun n53_16 =>
  pt pf_2 fun a17 =>
  ldP a17 w9 fun p54_18 =>
  Calls Pg fn_cut_Forest_top #[(Value.pointer p54_18), (Value.int .i32 n53_16)] w9 fun e21 w20 => ∃ b56_19 : Bool, e21 = .returned (Value.bool b56_19) ∧
  bif (!b56_19) then (
  pt pf_2 fun a22 =>
  ldP a22 (World.drew w20) fun p58_23 =>
  pt pf_2 fun a24 =>
  ldP a24 (World.drew w20) fun p61_25 =>
  Calls Pg fn_cut_Forest_side #[(Value.pointer p58_23), (Value.int .i32 nx_1)] (World.drew w20) fun e28 w27 => ∃ n60_26 : Int, e28 = .returned (Value.int .i64 n60_26) ∧
  World.cell? w27 a24 = some (Value.pointer p61_25) ∧ Calls Pg fn_cut_Forest_side #[(Value.pointer p61_25), (Value.int .i32 n53_16)] w27 fun e31 w30 => ∃ n63_29 : Int, e31 = .returned (Value.int .i64 n63_29) ∧
  bif (n60_26 == n63_29) then (
  pt pf_2 fun a32 =>
  ldP a32 w30 fun p65_33 =>
  Calls Pg fn_cut_Forest_rotate #[(Value.pointer p65_33), (Value.int .i32 n53_16)] w30 fun e35 w34 => e35 = .returned (Value.tuple #[]) ∧
  pt pf_2 fun a36 =>
  ldP a36 w34 fun p71_37 =>
  Calls Pg fn_cut_Forest_rotate #[(Value.pointer p71_37), (Value.int .i32 nx_1)] w34 fun e39 w38 => e39 = .returned (Value.tuple #[]) ∧
  (I3 [] w38 ∧ m4 [] w38 < m4 [] w5)) else (
  pt pf_2 fun a40 =>
  ldP a40 w30 fun p68_41 =>
  Calls Pg fn_cut_Forest_rotate #[(Value.pointer p68_41), (Value.int .i32 nx_1)] w30 fun e43 w42 => e43 = .returned (Value.tuple #[]) ∧
  pt pf_2 fun a44 =>
  ldP a44 w42 fun p71_45 =>
  Calls Pg fn_cut_Forest_rotate #[(Value.pointer p71_45), (Value.int .i32 nx_1)] w42 fun e47 w46 => e47 = .returned (Value.tuple #[]) ∧
  (I3 [] w46 ∧ m4 [] w46 < m4 [] w5))) else (
  pt pf_2 fun a48 =>
  ldP a48 w20 fun p71_49 =>
  Calls Pg fn_cut_Forest_rotate #[(Value.pointer p71_49), (Value.int .i32 nx_1)] w20 fun e51 w50 => e51 = .returned (Value.tuple #[]) ∧
  (I3 [] w50 ∧ m4 [] w50 < m4 [] w5))) else (
  R (Value.tuple #[]) w9)
def an_cut_Forest_lift_B : An := .block (.loop [] [] (.seq (.seq (.leaf) (.cond (.leaf) (.leaf))) (.block (.seq (.leaf) (.seq (.seq (.leaf) (.cond (.seq (.reg (.tk 0 [2, 5, 6] [2, 5] (.tk 1 [] [] (.tk 3 [5, 6] [5] (.tk 4 [] [] (.one 2 (.one 5 (.tk 6 [] [] (.fin))))))))) (.cond (.leaf) (.leaf))) (.leaf))) (.leaf))))))
theorem eq_cut_Forest_lift_B (e0 : Env) (pf_0 : Option Addr) (nx_1 : Int) (pf_2 : Option Addr) (w : World) (R : Value → World → Prop) : sh_cut_Forest_lift_B pf_0 nx_1 pf_2 w R = den Pg Eall 74 an_cut_Forest_lift_B (postOf (bodyOf Tryd.f137)) (fun x e w' => match x with | .normal => R (resV e []) w' | _ => False) (Env.put (Env.put (Env.put e0 0 (Value.pointer pf_0)) 1 (Value.int .i32 nx_1)) 2 (Value.pointer pf_2)) w := by kernel_rfl
end Go.Proofs.YtledchlbmilneaaDoor
