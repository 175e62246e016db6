/-
What each function does, as one formula, printed by a program of this session out of the translation; the kernel holds each print against the translation.
Conditions: none.
-/
import Derived.Test.YtaoemljoiahapaaDoorSn
namespace Go.Proofs.YtaoemljoiahapaaDoor
open Go
set_option linter.unusedVariables false
set_option maxRecDepth 100000
/-- '(*plait/web.Web).Same' -/
def sh_web_Web_Same (pw_0 : Option Addr) (na_1 : Int) (nb_2 : Int) (w : World) (R : Value → World → Prop) : Prop :=
  Calls Pg fn_web_Web_faces #[(.pointer pw_0)] w fun e5 w4 => ∃ p3 : Option Addr, e5 = .returned (.pointer p3) ∧
  Calls Pg fn_ring_Rings_Same #[(.pointer p3), (.int .i64 na_1), (.int .i64 nb_2)] w4 fun e9 w8 => ∃ b6 : Bool, ∃ v7 : Value, e9 = .returned (.tuple #[(.bool b6), v7]) ∧
  R (.tuple #[(.bool b6), v7]) w8
theorem eq_web_Web_Same (pw_0 : Option Addr) (na_1 : Int) (nb_2 : Int) (w : World) (R : Value → World → Prop) : sh_web_Web_Same pw_0 na_1 nb_2 w R = denF Pg Eall Tryd.f4 (.seq (.leaf) (.seq (.leaf) (.leaf))) [(.pointer pw_0), (.int .i64 na_1), (.int .i64 nb_2)] w R := by kernel_rfl
theorem calls_web_Web_Same (pw_0 : Option Addr) (na_1 : Int) (nb_2 : Int) (w : World) (R : Value → World → Prop) (h : sh_web_Web_Same pw_0 na_1 nb_2 w R) : Calls Pg fn_web_Web_Same #[(.pointer pw_0), (.int .i64 na_1), (.int .i64 nb_2)] w fun e w' => ∃ v, e = .returned v ∧ R v w' :=
  calls_of_den Eall_enter wide_mixed Tryd.func4 (by rw [← eq_web_Web_Same]; exact h)

/-- '(*plait/web.Web).Linked' -/
def sh_web_Web_Linked (pw_0 : Option Addr) (na_1 : Int) (nb_2 : Int) (w : World) (R : Value → World → Prop) : Prop :=
  Calls Pg fn_web_Web_two #[(.pointer pw_0), (.int .i64 na_1), (.int .i64 nb_2)] w fun e5 w4 => ∃ v3 : Value, e5 = .returned v3 ∧
  isI v3 ∧ bif (!(nilI v3)) then (
  R (.tuple #[(.bool false), v3]) w4) else (
  pt pw_0 fun a6 =>
  ldP (a6.add 1) w4 fun p7 =>
  Calls Pg fn_cut_Forest_Same #[(.pointer p7), (.int .i64 na_1), (.int .i64 nb_2)] w4 fun e11 w10 => ∃ b8 : Bool, ∃ v9 : Value, e11 = .returned (.tuple #[(.bool b8), v9]) ∧
  R (.tuple #[(.bool b8), v9]) w10)
theorem eq_web_Web_Linked (pw_0 : Option Addr) (na_1 : Int) (nb_2 : Int) (w : World) (R : Value → World → Prop) : sh_web_Web_Linked pw_0 na_1 nb_2 w R = denF Pg Eall Tryd.f5 (.seq (.leaf) (.seq (.seq (.leaf) (.seq (.leaf) (.cond (.seq (.leaf) (.leaf)) (.leaf)))) (.seq (.leaf) (.leaf)))) [(.pointer pw_0), (.int .i64 na_1), (.int .i64 nb_2)] w R := by kernel_rfl
theorem calls_web_Web_Linked (pw_0 : Option Addr) (na_1 : Int) (nb_2 : Int) (w : World) (R : Value → World → Prop) (h : sh_web_Web_Linked pw_0 na_1 nb_2 w R) : Calls Pg fn_web_Web_Linked #[(.pointer pw_0), (.int .i64 na_1), (.int .i64 nb_2)] w fun e w' => ∃ v, e = .returned v ∧ R v w' :=
  calls_of_den Eall_enter wide_mixed Tryd.func5 (by rw [← eq_web_Web_Linked]; exact h)

/-- '(*plait/web.Web).Weakest' -/
def sh_web_Web_Weakest (pw_0 : Option Addr) (na_1 : Int) (nb_2 : Int) (w : World) (R : Value → World → Prop) : Prop :=
  Calls Pg fn_web_Web_two #[(.pointer pw_0), (.int .i64 na_1), (.int .i64 nb_2)] w fun e5 w4 => ∃ v3 : Value, e5 = .returned v3 ∧
  isI v3 ∧ bif (!(nilI v3)) then (
  R (.tuple #[(.int .i64 (0 : Int)), v3]) w4) else (
  pt pw_0 fun a6 =>
  ldP (a6.add 1) w4 fun p7 =>
  Calls Pg fn_cut_Forest_Least #[(.pointer p7), (.int .i64 na_1), (.int .i64 nb_2)] w4 fun e11 w10 => ∃ n8 : Int, ∃ v9 : Value, e11 = .returned (.tuple #[(.int .i64 n8), v9]) ∧
  isI v9 ∧ bif (!(nilI v9)) then (
  R (.tuple #[(.int .i64 (0 : Int)), v9]) w10) else (
  pt pw_0 fun a12 =>
  ldI .i64 (a12.add 2) w10 fun n13 =>
  bif (decide (n8 < n13)) then (
  R (.tuple #[(.int .i64 (-1 : Int)), .nilIface]) w10) else (
  pt pw_0 fun a14 =>
  ldI .i64 (a14.add 2) w10 fun n15 =>
  R (.tuple #[(.int .i64 (IntKind.wrap .i64 (n8 - n15))), .nilIface]) w10)))
theorem eq_web_Web_Weakest (pw_0 : Option Addr) (na_1 : Int) (nb_2 : Int) (w : World) (R : Value → World → Prop) : sh_web_Web_Weakest pw_0 na_1 nb_2 w R = denF Pg Eall Tryd.f6 (.seq (.leaf) (.seq (.seq (.leaf) (.seq (.leaf) (.cond (.seq (.leaf) (.leaf)) (.leaf)))) (.seq (.leaf) (.seq (.block (.seq (.leaf) (.cond (.seq (.leaf) (.leaf)) (.seq (.leaf) (.cond (.seq (.leaf) (.leaf)) (.leaf)))))) (.seq (.leaf) (.leaf)))))) [(.pointer pw_0), (.int .i64 na_1), (.int .i64 nb_2)] w R := by kernel_rfl
theorem calls_web_Web_Weakest (pw_0 : Option Addr) (na_1 : Int) (nb_2 : Int) (w : World) (R : Value → World → Prop) (h : sh_web_Web_Weakest pw_0 na_1 nb_2 w R) : Calls Pg fn_web_Web_Weakest #[(.pointer pw_0), (.int .i64 na_1), (.int .i64 nb_2)] w fun e w' => ∃ v, e = .returned v ∧ R v w' :=
  calls_of_den Eall_enter wide_mixed Tryd.func6 (by rw [← eq_web_Web_Weakest]; exact h)

/-- '(*plait/web.Web).Walk' -/
def sh_web_Web_Walk (pw_0 : Option Addr) (nx_1 : Int) (w : World) (R : Value → World → Prop) : Prop :=
  Calls Pg fn_web_Web_faces #[(.pointer pw_0)] w fun e4 w3 => ∃ p2 : Option Addr, e4 = .returned (.pointer p2) ∧
  Calls Pg fn_ring_Rings_Walk #[(.pointer p2), (.int .i64 nx_1)] w3 fun e8 w7 => ∃ s5b : Option Addr, ∃ s5l : Nat, ∃ s5c : Nat, ∃ v6 : Value, e8 = .returned (.tuple #[(.slice s5b s5l s5c), v6]) ∧
  R (.tuple #[(.slice s5b s5l s5c), v6]) w7
theorem eq_web_Web_Walk (pw_0 : Option Addr) (nx_1 : Int) (w : World) (R : Value → World → Prop) : sh_web_Web_Walk pw_0 nx_1 w R = denF Pg Eall Tryd.f7 (.seq (.leaf) (.seq (.leaf) (.leaf))) [(.pointer pw_0), (.int .i64 nx_1)] w R := by kernel_rfl
theorem calls_web_Web_Walk (pw_0 : Option Addr) (nx_1 : Int) (w : World) (R : Value → World → Prop) (h : sh_web_Web_Walk pw_0 nx_1 w R) : Calls Pg fn_web_Web_Walk #[(.pointer pw_0), (.int .i64 nx_1)] w fun e w' => ∃ v, e = .returned v ∧ R v w' :=
  calls_of_den Eall_enter wide_mixed Tryd.func7 (by rw [← eq_web_Web_Walk]; exact h)

/-- '(*plait/web.Web).Split' -/
def sh_web_Web_Split (pw_0 : Option Addr) (na_1 : Int) (nb_2 : Int) (w : World) (R : Value → World → Prop) : Prop :=
  Calls Pg fn_web_Web_Same #[(.pointer pw_0), (.int .i64 na_1), (.int .i64 nb_2)] w fun e6 w5 => ∃ b3 : Bool, ∃ v4 : Value, e6 = .returned (.tuple #[(.bool b3), v4]) ∧
  isI v4 ∧ bif (!(nilI v4)) then (
  R v4 w5) else (
  bif (na_1 == nb_2) then (
  R (.iface T_api_Errno (.int .i64 (20 : Int))) w5) else (
  bif (!b3) then (
  R (.iface T_api_Errno (.int .i64 (21 : Int))) w5) else (
  Calls Pg fn_web_Web_turn #[(.pointer pw_0), (.int .i64 na_1)] w5 fun e9 w8 => ∃ v7 : Value, e9 = .returned v7 ∧
  isI v7 ∧ bif (!(nilI v7)) then (
  R v7 w8) else (
  pt pw_0 fun a10 =>
  ldP a10 w8 fun p11 =>
  Calls Pg fn_ring_Rings_Prev #[(.pointer p11), (.int .i64 nb_2)] w8 fun e15 w14 => ∃ n12 : Int, ∃ v13 : Value, e15 = .returned (.tuple #[(.int .i64 n12), v13]) ∧
  isI v13 ∧ bif (!(nilI v13)) then (
  R v13 w14) else (
  pt pw_0 fun a16 =>
  ldP (a16.add 1) w14 fun p17 =>
  Calls Pg fn_cut_Forest_Cut #[(.pointer p17), (.int .i64 n12), (.int .i64 nb_2)] w14 fun e20 w19 => ∃ v18 : Value, e20 = .returned v18 ∧
  isI v18 ∧ bif (!(nilI v18)) then (
  R v18 w19) else (
  pt pw_0 fun a21 =>
  ldP a21 w19 fun p22 =>
  Calls Pg fn_ring_Rings_Split #[(.pointer p22), (.int .i64 na_1), (.int .i64 nb_2)] w19 fun e25 w24 => ∃ v23 : Value, e25 = .returned v23 ∧
  R v23 w24))))))
theorem eq_web_Web_Split (pw_0 : Option Addr) (na_1 : Int) (nb_2 : Int) (w : World) (R : Value → World → Prop) : sh_web_Web_Split pw_0 na_1 nb_2 w R = denF Pg Eall Tryd.f9 (.seq (.leaf) (.seq (.leaf) (.seq (.block (.seq (.leaf) (.cond (.seq (.leaf) (.leaf)) (.seq (.leaf) (.cond (.seq (.leaf) (.leaf)) (.seq (.leaf) (.cond (.seq (.leaf) (.leaf)) (.leaf)))))))) (.seq (.seq (.leaf) (.seq (.leaf) (.cond (.seq (.leaf) (.leaf)) (.leaf)))) (.seq (.leaf) (.seq (.seq (.leaf) (.cond (.seq (.leaf) (.leaf)) (.leaf))) (.seq (.seq (.leaf) (.seq (.leaf) (.cond (.seq (.leaf) (.leaf)) (.leaf)))) (.seq (.leaf) (.leaf))))))))) [(.pointer pw_0), (.int .i64 na_1), (.int .i64 nb_2)] w R := by kernel_rfl
theorem calls_web_Web_Split (pw_0 : Option Addr) (na_1 : Int) (nb_2 : Int) (w : World) (R : Value → World → Prop) (h : sh_web_Web_Split pw_0 na_1 nb_2 w R) : Calls Pg fn_web_Web_Split #[(.pointer pw_0), (.int .i64 na_1), (.int .i64 nb_2)] w fun e w' => ∃ v, e = .returned v ∧ R v w' :=
  calls_of_den Eall_enter wide_mixed Tryd.func9 (by rw [← eq_web_Web_Split]; exact h)

/-- '(*plait/web.Web).Merge' -/
def sh_web_Web_Merge (pw_0 : Option Addr) (na_1 : Int) (nb_2 : Int) (w : World) (R : Value → World → Prop) : Prop :=
  Calls Pg fn_web_Web_Linked #[(.pointer pw_0), (.int .i64 na_1), (.int .i64 nb_2)] w fun e6 w5 => ∃ b3 : Bool, ∃ v4 : Value, e6 = .returned (.tuple #[(.bool b3), v4]) ∧
  isI v4 ∧ bif (!(nilI v4)) then (
  R v4 w5) else (
  bif b3 then (
  R (.iface T_api_Errno (.int .i64 (20 : Int))) w5) else (
  Calls Pg fn_web_Web_turn #[(.pointer pw_0), (.int .i64 na_1)] w5 fun e9 w8 => ∃ v7 : Value, e9 = .returned v7 ∧
  isI v7 ∧ bif (!(nilI v7)) then (
  R v7 w8) else (
  Calls Pg fn_web_Web_turn #[(.pointer pw_0), (.int .i64 nb_2)] w8 fun e12 w11 => ∃ v10 : Value, e12 = .returned v10 ∧
  isI v10 ∧ bif (!(nilI v10)) then (
  R v10 w11) else (
  pt pw_0 fun a13 =>
  ldP a13 w11 fun p14 =>
  Calls Pg fn_ring_Rings_Prev #[(.pointer p14), (.int .i64 na_1)] w11 fun e18 w17 => ∃ n15 : Int, ∃ v16 : Value, e18 = .returned (.tuple #[(.int .i64 n15), v16]) ∧
  isI v16 ∧ bif (!(nilI v16)) then (
  R v16 w17) else (
  pt pw_0 fun a19 =>
  ldP (a19.add 1) w17 fun p20 =>
  Calls Pg fn_cut_Forest_Link #[(.pointer p20), (.int .i64 n15), (.int .i64 nb_2)] w17 fun e23 w22 => ∃ v21 : Value, e23 = .returned v21 ∧
  isI v21 ∧ bif (!(nilI v21)) then (
  R v21 w22) else (
  pt pw_0 fun a24 =>
  ldP a24 w22 fun p25 =>
  Calls Pg fn_ring_Rings_Merge #[(.pointer p25), (.int .i64 na_1), (.int .i64 nb_2)] w22 fun e28 w27 => ∃ v26 : Value, e28 = .returned v26 ∧
  R v26 w27))))))
theorem eq_web_Web_Merge (pw_0 : Option Addr) (na_1 : Int) (nb_2 : Int) (w : World) (R : Value → World → Prop) : sh_web_Web_Merge pw_0 na_1 nb_2 w R = denF Pg Eall Tryd.f10 (.seq (.leaf) (.seq (.leaf) (.seq (.block (.seq (.leaf) (.cond (.seq (.leaf) (.leaf)) (.seq (.leaf) (.cond (.seq (.leaf) (.leaf)) (.leaf)))))) (.seq (.seq (.leaf) (.seq (.leaf) (.cond (.seq (.leaf) (.leaf)) (.leaf)))) (.seq (.seq (.leaf) (.seq (.leaf) (.cond (.seq (.leaf) (.leaf)) (.leaf)))) (.seq (.leaf) (.seq (.seq (.leaf) (.cond (.seq (.leaf) (.leaf)) (.leaf))) (.seq (.seq (.leaf) (.seq (.leaf) (.cond (.seq (.leaf) (.leaf)) (.leaf)))) (.seq (.leaf) (.leaf)))))))))) [(.pointer pw_0), (.int .i64 na_1), (.int .i64 nb_2)] w R := by kernel_rfl
theorem calls_web_Web_Merge (pw_0 : Option Addr) (na_1 : Int) (nb_2 : Int) (w : World) (R : Value → World → Prop) (h : sh_web_Web_Merge pw_0 na_1 nb_2 w R) : Calls Pg fn_web_Web_Merge #[(.pointer pw_0), (.int .i64 na_1), (.int .i64 nb_2)] w fun e w' => ∃ v, e = .returned v ∧ R v w' :=
  calls_of_den Eall_enter wide_mixed Tryd.func10 (by rw [← eq_web_Web_Merge]; exact h)

/-- '(*plait/web.Web).Apart' -/
def sh_web_Web_Apart (pw_0 : Option Addr) (nx_1 : Int) (w : World) (R : Value → World → Prop) : Prop :=
  Calls Pg fn_web_Web_faces #[(.pointer pw_0)] w fun e4 w3 => ∃ p2 : Option Addr, e4 = .returned (.pointer p2) ∧
  Calls Pg fn_ring_Rings_Next #[(.pointer p2), (.int .i64 nx_1)] w3 fun e8 w7 => ∃ n5 : Int, ∃ v6 : Value, e8 = .returned (.tuple #[(.int .i64 n5), v6]) ∧
  isI v6 ∧ bif (!(nilI v6)) then (
  R v6 w7) else (
  bif (n5 == nx_1) then (
  R (.iface T_api_Errno (.int .i64 (20 : Int))) w7) else (
  Calls Pg fn_web_Web_Split #[(.pointer pw_0), (.int .i64 nx_1), (.int .i64 n5)] w7 fun e11 w10 => ∃ v9 : Value, e11 = .returned v9 ∧
  R v9 w10))
theorem eq_web_Web_Apart (pw_0 : Option Addr) (nx_1 : Int) (w : World) (R : Value → World → Prop) : sh_web_Web_Apart pw_0 nx_1 w R = denF Pg Eall Tryd.f11 (.seq (.leaf) (.seq (.leaf) (.seq (.block (.seq (.leaf) (.cond (.seq (.leaf) (.leaf)) (.seq (.leaf) (.cond (.seq (.leaf) (.leaf)) (.leaf)))))) (.seq (.leaf) (.leaf))))) [(.pointer pw_0), (.int .i64 nx_1)] w R := by kernel_rfl
theorem calls_web_Web_Apart (pw_0 : Option Addr) (nx_1 : Int) (w : World) (R : Value → World → Prop) (h : sh_web_Web_Apart pw_0 nx_1 w R) : Calls Pg fn_web_Web_Apart #[(.pointer pw_0), (.int .i64 nx_1)] w fun e w' => ∃ v, e = .returned v ∧ R v w' :=
  calls_of_den Eall_enter wide_mixed Tryd.func11 (by rw [← eq_web_Web_Apart]; exact h)

/-- '(*plait/web.Web).Tie' -/
def sh_web_Web_Tie (pw_0 : Option Addr) (ne_1 : Int) (na_2 : Int) (nb_3 : Int) (nkey_4 : Int) (w : World) (R : Value → World → Prop) : Prop :=
  Calls Pg fn_web_Web_check #[(.pointer pw_0), (.int .i64 ne_1)] w fun e7 w6 => ∃ v5 : Value, e7 = .returned v5 ∧
  isI v5 ∧ bif (!(nilI v5)) then (
  R v5 w6) else (
  Calls Pg fn_web_Web_Linked #[(.pointer pw_0), (.int .i64 na_2), (.int .i64 nb_3)] w6 fun e11 w10 => ∃ b8 : Bool, ∃ v9 : Value, e11 = .returned (.tuple #[(.bool b8), v9]) ∧
  isI v9 ∧ bif (!(nilI v9)) then (
  R v9 w10) else (
  bif (nkey_4 == (9223372036854775807 : Int)) then (
  R (.iface T_api_Errno (.int .i64 (1 : Int))) w10) else (
  bif b8 then (
  R (.iface T_api_Errno (.int .i64 (20 : Int))) w10) else (
  Calls Pg fn_web_Web_Tied #[(.pointer pw_0), (.int .i64 ne_1)] w10 fun e14 w13 => ∃ b12 : Bool, e14 = .returned (.bool b12) ∧
  bif b12 then (
  R (.iface T_api_Errno (.int .i64 (20 : Int))) w13) else (
  pt pw_0 fun a15 =>
  ldI .i64 (a15.add 2) w13 fun n16 =>
  pt pw_0 fun a17 =>
  ldP (a17.add 1) w13 fun p18 =>
  Calls Pg fn_cut_Forest_Set #[(.pointer p18), (.int .i64 (IntKind.wrap .i64 (n16 + ne_1))), (.int .i64 nkey_4)] w13 fun e21 w20 => ∃ v19 : Value, e21 = .returned v19 ∧
  isI v19 ∧ bif (!(nilI v19)) then (
  R v19 w20) else (
  pt pw_0 fun a22 =>
  ldP (a22.add 1) w20 fun p23 =>
  Calls Pg fn_cut_Forest_Link #[(.pointer p23), (.int .i64 na_2), (.int .i64 (IntKind.wrap .i64 (n16 + ne_1)))] w20 fun e26 w25 => ∃ v24 : Value, e26 = .returned v24 ∧
  isI v24 ∧ bif (!(nilI v24)) then (
  R v24 w25) else (
  pt pw_0 fun a27 =>
  ldS (a27.add 3) w25 fun s28b s28l s28c =>
  ixS s28b s28l ne_1 2 fun a29 =>
  sto a29 (.int .i32 (IntKind.wrap .i32 na_2)) w25 fun w30 =>
  sto (a29.add 1) (.int .i32 (IntKind.wrap .i32 nb_3)) w30 fun w31 =>
  pt pw_0 fun a32 =>
  ldP (a32.add 1) w31 fun p33 =>
  Calls Pg fn_cut_Forest_Link #[(.pointer p33), (.int .i64 (IntKind.wrap .i64 (n16 + ne_1))), (.int .i64 nb_3)] w31 fun e36 w35 => ∃ v34 : Value, e36 = .returned v34 ∧
  R v34 w35)))))))
theorem eq_web_Web_Tie (pw_0 : Option Addr) (ne_1 : Int) (na_2 : Int) (nb_3 : Int) (nkey_4 : Int) (w : World) (R : Value → World → Prop) : sh_web_Web_Tie pw_0 ne_1 na_2 nb_3 nkey_4 w R = denF Pg Eall Tryd.f12 (.seq (.leaf) (.seq (.seq (.leaf) (.seq (.leaf) (.cond (.seq (.leaf) (.leaf)) (.leaf)))) (.seq (.leaf) (.seq (.block (.seq (.leaf) (.cond (.seq (.leaf) (.leaf)) (.seq (.leaf) (.cond (.seq (.leaf) (.leaf)) (.seq (.leaf) (.cond (.seq (.leaf) (.leaf)) (.leaf)))))))) (.seq (.leaf) (.seq (.seq (.leaf) (.seq (.leaf) (.cond (.seq (.leaf) (.leaf)) (.leaf)))) (.seq (.seq (.leaf) (.seq (.leaf) (.cond (.seq (.leaf) (.leaf)) (.leaf)))) (.seq (.leaf) (.seq (.leaf) (.leaf)))))))))) [(.pointer pw_0), (.int .i64 ne_1), (.int .i64 na_2), (.int .i64 nb_3), (.int .i64 nkey_4)] w R := by kernel_rfl
theorem calls_web_Web_Tie (pw_0 : Option Addr) (ne_1 : Int) (na_2 : Int) (nb_3 : Int) (nkey_4 : Int) (w : World) (R : Value → World → Prop) (h : sh_web_Web_Tie pw_0 ne_1 na_2 nb_3 nkey_4 w R) : Calls Pg fn_web_Web_Tie #[(.pointer pw_0), (.int .i64 ne_1), (.int .i64 na_2), (.int .i64 nb_3), (.int .i64 nkey_4)] w fun e w' => ∃ v, e = .returned v ∧ R v w' :=
  calls_of_den Eall_enter wide_mixed Tryd.func12 (by rw [← eq_web_Web_Tie]; exact h)

/-- '(*plait/web.Web).Untie' -/
def sh_web_Web_Untie (pw_0 : Option Addr) (ne_1 : Int) (w : World) (R : Value → World → Prop) : Prop :=
  Calls Pg fn_web_Web_check #[(.pointer pw_0), (.int .i64 ne_1)] w fun e4 w3 => ∃ v2 : Value, e4 = .returned v2 ∧
  isI v2 ∧ bif (!(nilI v2)) then (
  R v2 w3) else (
  Calls Pg fn_web_Web_Tied #[(.pointer pw_0), (.int .i64 ne_1)] w3 fun e7 w6 => ∃ b5 : Bool, e7 = .returned (.bool b5) ∧
  bif (!b5) then (
  R (.iface T_api_Errno (.int .i64 (21 : Int))) w6) else (
  pt pw_0 fun a8 =>
  ldS (a8.add 3) w6 fun s9b s9l s9c =>
  ixS s9b s9l ne_1 2 fun a10 =>
  ldI .i32 a10 w6 fun n11 =>
  ldI .i32 (a10.add 1) w6 fun n12 =>
  ∃ n13 : Int, 0 ≤ (0 : Int) ∧ (0 : Int) < ((2 : Nat) : Int) ∧ #[(Value.int .i32 n11), (Value.int .i32 n12)][(Int.toNat (0 : Int)) * 1]? = some (Value.int .i32 n13) ∧
  pt pw_0 fun a14 =>
  ldP (a14.add 1) w6.drew fun p15 =>
  pt pw_0 fun a16 =>
  ldI .i64 (a16.add 2) w6.drew fun n17 =>
  Calls Pg fn_cut_Forest_Cut #[(.pointer p15), (.int .i64 (IntKind.wrap .i64 (n17 + ne_1))), (.int .i64 (IntKind.wrap .i64 n13))] w6.drew fun e20 w19 => ∃ v18 : Value, e20 = .returned v18 ∧
  isI v18 ∧ bif (!(nilI v18)) then (
  R v18 w19) else (
  ∃ n21 : Int, 0 ≤ (1 : Int) ∧ (1 : Int) < ((2 : Nat) : Int) ∧ #[(Value.int .i32 n11), (Value.int .i32 n12)][(Int.toNat (1 : Int)) * 1]? = some (Value.int .i32 n21) ∧
  pt pw_0 fun a22 =>
  ldP (a22.add 1) w19.drew fun p23 =>
  pt pw_0 fun a24 =>
  ldI .i64 (a24.add 2) w19.drew fun n25 =>
  Calls Pg fn_cut_Forest_Cut #[(.pointer p23), (.int .i64 (IntKind.wrap .i64 (n25 + ne_1))), (.int .i64 (IntKind.wrap .i64 n21))] w19.drew fun e28 w27 => ∃ v26 : Value, e28 = .returned v26 ∧
  isI v26 ∧ bif (!(nilI v26)) then (
  R v26 w27) else (
  pt pw_0 fun a29 =>
  ldS (a29.add 3) w27 fun s30b s30l s30c =>
  ixS s30b s30l ne_1 2 fun a31 =>
  sto a31 (.int .i32 (-1 : Int)) w27 fun w32 =>
  sto (a31.add 1) (.int .i32 (-1 : Int)) w32 fun w33 =>
  R .nilIface w33))))
theorem eq_web_Web_Untie (pw_0 : Option Addr) (ne_1 : Int) (w : World) (R : Value → World → Prop) : sh_web_Web_Untie pw_0 ne_1 w R = denF Pg Eall Tryd.f13 (.seq (.leaf) (.seq (.seq (.leaf) (.seq (.leaf) (.cond (.seq (.leaf) (.leaf)) (.leaf)))) (.seq (.seq (.leaf) (.cond (.seq (.leaf) (.leaf)) (.leaf))) (.seq (.seq (.leaf) (.block (.unr 3 (.seq (.leaf) (.seq (.cond (.leaf) (.leaf)) (.seq (.block (.seq (.leaf) (.seq (.reg (.tk 0 [] [] (.tk 1 [] [] (.tk 2 [] [] (.tk 3 [12, 13] [12] (.tk 4 [] [] (.tk 5 [] [] (.tk 6 [] [] (.tk 7 [9, 12, 13] [12] (.tk 8 [] [] (.tk 9 [] [] (.tk 10 [] [] (.tk 11 [] [] (.one 12 (.tk 13 [] [] (.fin)))))))))))))))) (.seq (.leaf) (.cond (.seq (.leaf) (.leaf)) (.leaf)))))) (.leaf))))))) (.seq (.leaf) (.seq (.leaf) (.leaf))))))) [(.pointer pw_0), (.int .i64 ne_1)] w R := by kernel_rfl
theorem calls_web_Web_Untie (pw_0 : Option Addr) (ne_1 : Int) (w : World) (R : Value → World → Prop) (h : sh_web_Web_Untie pw_0 ne_1 w R) : Calls Pg fn_web_Web_Untie #[(.pointer pw_0), (.int .i64 ne_1)] w fun e w' => ∃ v, e = .returned v ∧ R v w' :=
  calls_of_den Eall_enter wide_mixed Tryd.func13 (by rw [← eq_web_Web_Untie]; exact h)

/-- '(*plait/web.Web).Tied' -/
def sh_web_Web_Tied (pw_0 : Option Addr) (ne_1 : Int) (w : World) (R : Value → World → Prop) : Prop :=
  Calls Pg fn_web_Web_check #[(.pointer pw_0), (.int .i64 ne_1)] w fun e4 w3 => ∃ v2 : Value, e4 = .returned v2 ∧
  isI v2 ∧ bif (nilI v2) then (
  pt pw_0 fun a5 =>
  ldS (a5.add 3) w3 fun s6b s6l s6c =>
  ixS s6b s6l ne_1 2 fun a7 =>
  ldI .i32 a7 w3 fun n8 =>
  ldI .i32 (a7.add 1) w3 fun n9 =>
  ∃ b10 : Bool, ∃ w11 : World, (do eqGuard .neq T__2int32 (.tmp 16) (.tmp 17) (.agg #[(.int .i32 n8), (.int .i32 n9)]) (.agg #[(.int .i32 (-1 : Int)), (.int .i32 (-1 : Int))]); binOp .neq T__2int32 (.agg #[(.int .i32 n8), (.int .i32 n9)]) (.agg #[(.int .i32 (-1 : Int)), (.int .i32 (-1 : Int))]) : Sem Value).run Pg w3 = .ok (.bool b10) w11 ∧
  R (.bool b10) w11) else (
  R (.bool false) w3)
theorem eq_web_Web_Tied (pw_0 : Option Addr) (ne_1 : Int) (w : World) (R : Value → World → Prop) : sh_web_Web_Tied pw_0 ne_1 w R = denF Pg Eall Tryd.f14 (.seq (.leaf) (.seq (.leaf) (.leaf))) [(.pointer pw_0), (.int .i64 ne_1)] w R := by kernel_rfl
theorem calls_web_Web_Tied (pw_0 : Option Addr) (ne_1 : Int) (w : World) (R : Value → World → Prop) (h : sh_web_Web_Tied pw_0 ne_1 w R) : Calls Pg fn_web_Web_Tied #[(.pointer pw_0), (.int .i64 ne_1)] w fun e w' => ∃ v, e = .returned v ∧ R v w' :=
  calls_of_den Eall_enter wide_mixed Tryd.func14 (by rw [← eq_web_Web_Tied]; exact h)

/-- 'plait/web.New' -/
def sh_web_New (nitems_0 : Int) (nties_1 : Int) (w : World) (R : Value → World → Prop) : Prop :=
  ∃ J2 : List Value → World → Prop, (
  bif (decide (nitems_0 < (1 : Int))) then (
  R (.tuple #[(.pointer none), (.iface T_api_Errno (.int .i64 (1 : Int)))]) w) else (
  bif (decide (nitems_0 > (4194304 : Int))) then (
  R (.tuple #[(.pointer none), (.iface T_api_Errno (.int .i64 (1 : Int)))]) w) else (
  bif (decide (nties_1 < (1 : Int))) then (
  R (.tuple #[(.pointer none), (.iface T_api_Errno (.int .i64 (1 : Int)))]) w) else (
  bif (decide (nties_1 > (1048576 : Int))) then (
  R (.tuple #[(.pointer none), (.iface T_api_Errno (.int .i64 (1 : Int)))]) w) else (
  J2 [] w))))) ∧ ∀ _ : Env, ∀ w3 : World, J2 [] w3 →
  Calls Pg fn_ring_New #[(.int .i64 nitems_0)] w3 fun e7 w6 => ∃ p4 : Option Addr, ∃ v5 : Value, e7 = .returned (.tuple #[(.pointer p4), v5]) ∧
  isI v5 ∧ bif (!(nilI v5)) then (
  R (.tuple #[(.pointer none), v5]) w6) else (
  Calls Pg fn_cut_New #[(.int .i64 (IntKind.wrap .i64 (nitems_0 + nties_1)))] w6 fun e11 w10 => ∃ p8 : Option Addr, ∃ v9 : Value, e11 = .returned (.tuple #[(.pointer p8), v9]) ∧
  isI v9 ∧ bif (!(nilI v9)) then (
  R (.tuple #[(.pointer none), v9]) w10) else (
  0 ≤ nties_1 ∧ nties_1 ≤ nties_1 ∧ (8 : Int) * nties_1 ≤ 140737488355328 ∧ alo (zerosOf #[(.int .i32 (0 : Int)), (.int .i32 (0 : Int))] (Int.toNat nties_1)) T__2int32 w10 fun a12 w13 =>
  alo #[(.pointer p4), (.pointer p8), (.int .i64 nitems_0), (.slice (some a12) (Int.toNat nties_1) (Int.toNat nties_1))] T_web_Web w13 fun a14 w15 =>
  ∃ (I16 : List Value → World → Prop) (m17 : List Value → World → Nat), I16 [(.int .i64 (0 : Int))] w15 ∧
  ∀ _ : Env, ∀ n18 : Int, ∀ w19 : World, I16 [(.int .i64 n18)] w19 →
  bif (decide (n18 < nitems_0)) then (
  Calls Pg fn_cut_Forest_Set #[(.pointer p8), (.int .i64 n18), (.int .i64 (9223372036854775807 : Int))] w19 fun e22 w21 => ∃ v20 : Value, e22 = .returned v20 ∧
  isI v20 ∧ bif (!(nilI v20)) then (
  R (.tuple #[(.pointer none), v20]) w21) else (
  (I16 [(.int .i64 (IntKind.wrap .i64 (n18 + (1 : Int))))] w21 ∧ m17 [(.int .i64 (IntKind.wrap .i64 (n18 + (1 : Int))))] w21 < m17 [(.int .i64 n18)] w19))) else (
  ldS (a14.add 3) w19 fun s23b s23l s23c =>
  ∃ (I24 : List Value → World → Prop) (m25 : List Value → World → Nat), I24 [(.int .i64 (0 : Int))] w19 ∧
  ∀ _ : Env, ∀ n26 : Int, ∀ w27 : World, I24 [(.int .i64 n26)] w27 →
  bif (decide (n26 < (s23l : Int))) then (
  ldS (a14.add 3) w27 fun s28b s28l s28c =>
  ixS s28b s28l n26 2 fun a29 =>
  sto a29 (.int .i32 (-1 : Int)) w27 fun w30 =>
  sto (a29.add 1) (.int .i32 (-1 : Int)) w30 fun w31 =>
  (I24 [(.int .i64 (IntKind.wrap .i64 (n26 + (1 : Int))))] w31 ∧ m25 [(.int .i64 (IntKind.wrap .i64 (n26 + (1 : Int))))] w31 < m25 [(.int .i64 n26)] w27)) else (
  R (.tuple #[(.pointer (some a14)), .nilIface]) w27))))
theorem eq_web_New (nitems_0 : Int) (nties_1 : Int) (w : World) (R : Value → World → Prop) : sh_web_New nitems_0 nties_1 w R = denF Pg Eall Tryd.f16 (.seq (.leaf) (.join [] [] (.seq (.leaf) (.cond (.seq (.leaf) (.leaf)) (.leaf))) (.seq (.leaf) (.seq (.seq (.leaf) (.cond (.seq (.leaf) (.leaf)) (.leaf))) (.seq (.leaf) (.seq (.seq (.leaf) (.cond (.seq (.leaf) (.leaf)) (.leaf))) (.seq (.leaf) (.seq (.seq (.leaf) (.block (.loop [54] [.one (.int .i64)] (.seq (.leaf) (.seq (.cond (.leaf) (.leaf)) (.seq (.block (.seq (.leaf) (.seq (.leaf) (.seq (.leaf) (.cond (.seq (.leaf) (.leaf)) (.leaf)))))) (.leaf))))))) (.seq (.seq (.leaf) (.block (.loop [69] [.one (.int .i64)] (.seq (.leaf) (.seq (.cond (.leaf) (.leaf)) (.seq (.block (.seq (.leaf) (.leaf))) (.leaf))))))) (.seq (.leaf) (.leaf))))))))))) [(.int .i64 nitems_0), (.int .i64 nties_1)] w R := by kernel_rfl
theorem calls_web_New (nitems_0 : Int) (nties_1 : Int) (w : World) (R : Value → World → Prop) (h : sh_web_New nitems_0 nties_1 w R) : Calls Pg fn_web_New #[(.int .i64 nitems_0), (.int .i64 nties_1)] w fun e w' => ∃ v, e = .returned v ∧ R v w' :=
  calls_of_den Eall_enter wide_mixed Tryd.func16 (by rw [← eq_web_New]; exact h)

/-- '(*plait/web.Web).faces' -/
def sh_web_Web_faces (pw_0 : Option Addr) (w : World) (R : Value → World → Prop) : Prop :=
  bif (Option.isNone pw_0) then (
  R (.pointer none) w) else (
  pt pw_0 fun a1 =>
  ldP a1 w fun p2 =>
  R (.pointer p2) w)
theorem eq_web_Web_faces (pw_0 : Option Addr) (w : World) (R : Value → World → Prop) : sh_web_Web_faces pw_0 w R = denF Pg Eall Tryd.f18 (.seq (.leaf) (.seq (.seq (.leaf) (.cond (.seq (.leaf) (.leaf)) (.leaf))) (.seq (.leaf) (.leaf)))) [(.pointer pw_0)] w R := by kernel_rfl
theorem calls_web_Web_faces (pw_0 : Option Addr) (w : World) (R : Value → World → Prop) (h : sh_web_Web_faces pw_0 w R) : Calls Pg fn_web_Web_faces #[(.pointer pw_0)] w fun e w' => ∃ v, e = .returned v ∧ R v w' :=
  calls_of_den Eall_enter wide_mixed Tryd.func18 (by rw [← eq_web_Web_faces]; exact h)

/-- '(*plait/web.Web).two' -/
def sh_web_Web_two (pw_0 : Option Addr) (na_1 : Int) (nb_2 : Int) (w : World) (R : Value → World → Prop) : Prop :=
  bif (Option.isNone pw_0) then (
  R (.iface T_api_Errno (.int .i64 (1 : Int))) w) else (
  bif (decide (na_1 < (0 : Int))) then (
  R (.iface T_api_Errno (.int .i64 (12 : Int))) w) else (
  pt pw_0 fun a3 =>
  ldI .i64 (a3.add 2) w fun n4 =>
  bif (decide (na_1 ≥ n4)) then (
  R (.iface T_api_Errno (.int .i64 (12 : Int))) w) else (
  bif (decide (nb_2 < (0 : Int))) then (
  R (.iface T_api_Errno (.int .i64 (12 : Int))) w) else (
  pt pw_0 fun a5 =>
  ldI .i64 (a5.add 2) w fun n6 =>
  bif (decide (nb_2 ≥ n6)) then (
  R (.iface T_api_Errno (.int .i64 (12 : Int))) w) else (
  R .nilIface w)))))
theorem eq_web_Web_two (pw_0 : Option Addr) (na_1 : Int) (nb_2 : Int) (w : World) (R : Value → World → Prop) : sh_web_Web_two pw_0 na_1 nb_2 w R = denF Pg Eall Tryd.f20 (.seq (.leaf) (.seq (.block (.seq (.leaf) (.cond (.seq (.leaf) (.leaf)) (.seq (.leaf) (.cond (.seq (.leaf) (.leaf)) (.leaf)))))) (.seq (.leaf) (.leaf)))) [(.pointer pw_0), (.int .i64 na_1), (.int .i64 nb_2)] w R := by kernel_rfl
theorem calls_web_Web_two (pw_0 : Option Addr) (na_1 : Int) (nb_2 : Int) (w : World) (R : Value → World → Prop) (h : sh_web_Web_two pw_0 na_1 nb_2 w R) : Calls Pg fn_web_Web_two #[(.pointer pw_0), (.int .i64 na_1), (.int .i64 nb_2)] w fun e w' => ∃ v, e = .returned v ∧ R v w' :=
  calls_of_den Eall_enter wide_mixed Tryd.func20 (by rw [← eq_web_Web_two]; exact h)

/-- '(*plait/web.Web).turn' -/
def sh_web_Web_turn (pw_0 : Option Addr) (nx_1 : Int) (w : World) (R : Value → World → Prop) : Prop :=
  Calls Pg fn_web_Web_faces #[(.pointer pw_0)] w fun e4 w3 => ∃ p2 : Option Addr, e4 = .returned (.pointer p2) ∧
  Calls Pg fn_ring_Rings_Front #[(.pointer p2), (.int .i64 nx_1)] w3 fun e8 w7 => ∃ n5 : Int, ∃ v6 : Value, e8 = .returned (.tuple #[(.int .i64 n5), v6]) ∧
  ∃ J9 : List Value → World → Prop, (
  isI v6 ∧ bif (!(nilI v6)) then (
  R v6 w7) else (
  bif (n5 == nx_1) then (
  R v6 w7) else (
  J9 [] w7))) ∧ ∀ _ : Env, ∀ w10 : World, J9 [] w10 →
  pt pw_0 fun a11 =>
  ldP a11 w10 fun p12 =>
  Calls Pg fn_ring_Rings_Prev #[(.pointer p12), (.int .i64 n5)] w10 fun e16 w15 => ∃ n13 : Int, ∃ v14 : Value, e16 = .returned (.tuple #[(.int .i64 n13), v14]) ∧
  isI v14 ∧ bif (!(nilI v14)) then (
  R v14 w15) else (
  pt pw_0 fun a17 =>
  ldP a17 w15 fun p18 =>
  Calls Pg fn_ring_Rings_Prev #[(.pointer p18), (.int .i64 nx_1)] w15 fun e22 w21 => ∃ n19 : Int, ∃ v20 : Value, e22 = .returned (.tuple #[(.int .i64 n19), v20]) ∧
  isI v20 ∧ bif (!(nilI v20)) then (
  R v20 w21) else (
  pt pw_0 fun a23 =>
  ldP (a23.add 1) w21 fun p24 =>
  Calls Pg fn_cut_Forest_Cut #[(.pointer p24), (.int .i64 n19), (.int .i64 nx_1)] w21 fun e27 w26 => ∃ v25 : Value, e27 = .returned v25 ∧
  isI v25 ∧ bif (!(nilI v25)) then (
  R v25 w26) else (
  pt pw_0 fun a28 =>
  ldP (a28.add 1) w26 fun p29 =>
  Calls Pg fn_cut_Forest_Link #[(.pointer p29), (.int .i64 n13), (.int .i64 n5)] w26 fun e32 w31 => ∃ v30 : Value, e32 = .returned v30 ∧
  isI v30 ∧ bif (!(nilI v30)) then (
  R v30 w31) else (
  pt pw_0 fun a33 =>
  ldP a33 w31 fun p34 =>
  Calls Pg fn_ring_Rings_Turn #[(.pointer p34), (.int .i64 nx_1)] w31 fun e37 w36 => ∃ v35 : Value, e37 = .returned v35 ∧
  R v35 w36))))
theorem eq_web_Web_turn (pw_0 : Option Addr) (nx_1 : Int) (w : World) (R : Value → World → Prop) : sh_web_Web_turn pw_0 nx_1 w R = denF Pg Eall Tryd.f25 (.seq (.leaf) (.seq (.leaf) (.join [] [] (.seq (.leaf) (.cond (.seq (.leaf) (.leaf)) (.leaf))) (.seq (.leaf) (.seq (.seq (.leaf) (.cond (.seq (.leaf) (.leaf)) (.leaf))) (.seq (.leaf) (.seq (.seq (.leaf) (.cond (.seq (.leaf) (.leaf)) (.leaf))) (.seq (.seq (.leaf) (.seq (.leaf) (.cond (.seq (.leaf) (.leaf)) (.leaf)))) (.seq (.seq (.leaf) (.seq (.leaf) (.cond (.seq (.leaf) (.leaf)) (.leaf)))) (.seq (.leaf) (.leaf))))))))))) [(.pointer pw_0), (.int .i64 nx_1)] w R := by kernel_rfl
theorem calls_web_Web_turn (pw_0 : Option Addr) (nx_1 : Int) (w : World) (R : Value → World → Prop) (h : sh_web_Web_turn pw_0 nx_1 w R) : Calls Pg fn_web_Web_turn #[(.pointer pw_0), (.int .i64 nx_1)] w fun e w' => ∃ v, e = .returned v ∧ R v w' :=
  calls_of_den Eall_enter wide_mixed Tryd.func25 (by rw [← eq_web_Web_turn]; exact h)

/-- '(*plait/web.Web).check' -/
def sh_web_Web_check (pw_0 : Option Addr) (ne_1 : Int) (w : World) (R : Value → World → Prop) : Prop :=
  bif (Option.isNone pw_0) then (
  R (.iface T_api_Errno (.int .i64 (1 : Int))) w) else (
  bif (decide (ne_1 < (0 : Int))) then (
  R (.iface T_api_Errno (.int .i64 (12 : Int))) w) else (
  pt pw_0 fun a2 =>
  ldS (a2.add 3) w fun s3b s3l s3c =>
  bif (decide (ne_1 ≥ (s3l : Int))) then (
  R (.iface T_api_Errno (.int .i64 (12 : Int))) w) else (
  R .nilIface w)))
theorem eq_web_Web_check (pw_0 : Option Addr) (ne_1 : Int) (w : World) (R : Value → World → Prop) : sh_web_Web_check pw_0 ne_1 w R = denF Pg Eall Tryd.f32 (.seq (.leaf) (.seq (.block (.seq (.leaf) (.cond (.seq (.leaf) (.leaf)) (.seq (.leaf) (.cond (.seq (.leaf) (.leaf)) (.leaf)))))) (.seq (.leaf) (.leaf)))) [(.pointer pw_0), (.int .i64 ne_1)] w R := by kernel_rfl
theorem calls_web_Web_check (pw_0 : Option Addr) (ne_1 : Int) (w : World) (R : Value → World → Prop) (h : sh_web_Web_check pw_0 ne_1 w R) : Calls Pg fn_web_Web_check #[(.pointer pw_0), (.int .i64 ne_1)] w fun e w' => ∃ v, e = .returned v ∧ R v w' :=
  calls_of_den Eall_enter wide_mixed Tryd.func32 (by rw [← eq_web_Web_check]; exact h)

end Go.Proofs.YtaoemljoiahapaaDoor
