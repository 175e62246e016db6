/-
What each function does, as one formula, printed by a program of this session out of the translation; the kernel holds each print against the translation.
Conditions: none.
-/
import Derived.Test.YtaoemljoiahapaaDoorSn
namespace Go.Proofs.YtaoemljoiahapaaDoor
open Go
set_option linter.unusedVariables false
set_option maxRecDepth 100000
/-- '(*plait/ring.Rings).Same' -/
def sh_ring_Rings_Same (pr_0 : Option Addr) (na_1 : Int) (nb_2 : Int) (w : World) (R : Value → World → Prop) : Prop :=
  Calls Pg fn_ring_Rings_seqs #[(.pointer pr_0)] w fun e5 w4 => ∃ p3 : Option Addr, e5 = .returned (.pointer p3) ∧
  Calls Pg fn_seq_Forest_Same #[(.pointer p3), (.int .i64 na_1), (.int .i64 nb_2)] w4 fun e9 w8 => ∃ b6 : Bool, ∃ v7 : Value, e9 = .returned (.tuple #[(.bool b6), v7]) ∧
  R (.tuple #[(.bool b6), v7]) w8
theorem eq_ring_Rings_Same (pr_0 : Option Addr) (na_1 : Int) (nb_2 : Int) (w : World) (R : Value → World → Prop) : sh_ring_Rings_Same pr_0 na_1 nb_2 w R = denF Pg Eall Tryd.f19 (.seq (.leaf) (.seq (.leaf) (.leaf))) [(.pointer pr_0), (.int .i64 na_1), (.int .i64 nb_2)] w R := by kernel_rfl
theorem calls_ring_Rings_Same (pr_0 : Option Addr) (na_1 : Int) (nb_2 : Int) (w : World) (R : Value → World → Prop) (h : sh_ring_Rings_Same pr_0 na_1 nb_2 w R) : Calls Pg fn_ring_Rings_Same #[(.pointer pr_0), (.int .i64 na_1), (.int .i64 nb_2)] w fun e w' => ∃ v, e = .returned v ∧ R v w' :=
  calls_of_den Eall_enter wide_mixed Tryd.func19 (by rw [← eq_ring_Rings_Same]; exact h)

/-- '(*plait/ring.Rings).Walk' -/
def sh_ring_Rings_Walk (pr_0 : Option Addr) (nx_1 : Int) (w : World) (R : Value → World → Prop) : Prop :=
  Calls Pg fn_ring_Rings_seqs #[(.pointer pr_0)] w fun e4 w3 => ∃ p2 : Option Addr, e4 = .returned (.pointer p2) ∧
  Calls Pg fn_seq_Forest_List #[(.pointer p2), (.int .i64 nx_1)] w3 fun e8 w7 => ∃ s5b : Option Addr, ∃ s5l : Nat, ∃ s5c : Nat, ∃ v6 : Value, e8 = .returned (.tuple #[(.slice s5b s5l s5c), v6]) ∧
  isI v6 ∧ bif (!(nilI v6)) then (
  R (.tuple #[(.slice none 0 0), v6]) w7) else (
  Calls Pg fn_slices_Index__intint #[(.slice s5b s5l s5c), (.int .i64 nx_1)] w7 fun e11 w10 => ∃ n9 : Int, e11 = .returned (.int .i64 n9) ∧
  0 ≤ n9 ∧ n9 ≤ ((s5l : Nat) : Int) ∧ 0 ≤ n9 ∧ n9 ≤ ((s5c : Nat) : Int) ∧ alo #[(.slice (if s5c = (Int.toNat n9) then s5b else Option.map (fun a => Addr.add a ((Int.toNat n9) * 1)) s5b) (s5l - (Int.toNat n9)) (s5c - (Int.toNat n9))), (.slice (if s5c = 0 then s5b else Option.map (fun a => Addr.add a (0 * 1)) s5b) ((Int.toNat n9) - 0) (s5c - 0))] T_sl_int w10.drew fun a12 w13 =>
  Calls Pg fn_slices_Concat__intint #[(.slice (some a12) 2 2)] w13 fun e16 w15 => ∃ s14b : Option Addr, ∃ s14l : Nat, ∃ s14c : Nat, e16 = .returned (.slice s14b s14l s14c) ∧
  R (.tuple #[(.slice s14b s14l s14c), .nilIface]) w15)
theorem eq_ring_Rings_Walk (pr_0 : Option Addr) (nx_1 : Int) (w : World) (R : Value → World → Prop) : sh_ring_Rings_Walk pr_0 nx_1 w R = denF Pg Eall Tryd.f23 (.seq (.leaf) (.seq (.leaf) (.seq (.seq (.leaf) (.cond (.seq (.leaf) (.leaf)) (.leaf))) (.seq (.leaf) (.seq (.reg (.tk 0 [] [] (.tk 1 [] [] (.tk 2 [] [] (.tk 3 [] [] (.tk 4 [] [] (.tk 5 [] [] (.one 6 (.one 7 (.tk 8 [] [] (.tk 9 [] [] (.fin)))))))))))) (.leaf)))))) [(.pointer pr_0), (.int .i64 nx_1)] w R := by kernel_rfl
theorem calls_ring_Rings_Walk (pr_0 : Option Addr) (nx_1 : Int) (w : World) (R : Value → World → Prop) (h : sh_ring_Rings_Walk pr_0 nx_1 w R) : Calls Pg fn_ring_Rings_Walk #[(.pointer pr_0), (.int .i64 nx_1)] w fun e w' => ∃ v, e = .returned v ∧ R v w' :=
  calls_of_den Eall_enter wide_mixed Tryd.func23 (by rw [← eq_ring_Rings_Walk]; exact h)

/-- '(*plait/ring.Rings).Prev' -/
def sh_ring_Rings_Prev (pr_0 : Option Addr) (nx_1 : Int) (w : World) (R : Value → World → Prop) : Prop :=
  Calls Pg fn_ring_Rings_step #[(.pointer pr_0), (.int .i64 nx_1), (.int .i64 (-1 : Int))] w fun e5 w4 => ∃ n2 : Int, ∃ v3 : Value, e5 = .returned (.tuple #[(.int .i64 n2), v3]) ∧
  R (.tuple #[(.int .i64 n2), v3]) w4
theorem eq_ring_Rings_Prev (pr_0 : Option Addr) (nx_1 : Int) (w : World) (R : Value → World → Prop) : sh_ring_Rings_Prev pr_0 nx_1 w R = denF Pg Eall Tryd.f26 (.seq (.leaf) (.seq (.leaf) (.leaf))) [(.pointer pr_0), (.int .i64 nx_1)] w R := by kernel_rfl
theorem calls_ring_Rings_Prev (pr_0 : Option Addr) (nx_1 : Int) (w : World) (R : Value → World → Prop) (h : sh_ring_Rings_Prev pr_0 nx_1 w R) : Calls Pg fn_ring_Rings_Prev #[(.pointer pr_0), (.int .i64 nx_1)] w fun e w' => ∃ v, e = .returned v ∧ R v w' :=
  calls_of_den Eall_enter wide_mixed Tryd.func26 (by rw [← eq_ring_Rings_Prev]; exact h)

/-- '(*plait/ring.Rings).Merge' -/
def sh_ring_Rings_Merge (pr_0 : Option Addr) (na_1 : Int) (nb_2 : Int) (w : World) (R : Value → World → Prop) : Prop :=
  Calls Pg fn_ring_Rings_Same #[(.pointer pr_0), (.int .i64 na_1), (.int .i64 nb_2)] w fun e6 w5 => ∃ b3 : Bool, ∃ v4 : Value, e6 = .returned (.tuple #[(.bool b3), v4]) ∧
  isI v4 ∧ bif (!(nilI v4)) then (
  R v4 w5) else (
  bif b3 then (
  R (.iface T_api_Errno (.int .i64 (20 : Int))) w5) else (
  Calls Pg fn_ring_Rings_Turn #[(.pointer pr_0), (.int .i64 na_1)] w5 fun e9 w8 => ∃ v7 : Value, e9 = .returned v7 ∧
  isI v7 ∧ bif (!(nilI v7)) then (
  R v7 w8) else (
  Calls Pg fn_ring_Rings_Turn #[(.pointer pr_0), (.int .i64 nb_2)] w8 fun e12 w11 => ∃ v10 : Value, e12 = .returned v10 ∧
  isI v10 ∧ bif (!(nilI v10)) then (
  R v10 w11) else (
  pt pr_0 fun a13 =>
  ldP a13 w11 fun p14 =>
  Calls Pg fn_seq_Forest_Join #[(.pointer p14), (.int .i64 na_1), (.int .i64 nb_2)] w11 fun e17 w16 => ∃ v15 : Value, e17 = .returned v15 ∧
  R v15 w16))))
theorem eq_ring_Rings_Merge (pr_0 : Option Addr) (na_1 : Int) (nb_2 : Int) (w : World) (R : Value → World → Prop) : sh_ring_Rings_Merge pr_0 na_1 nb_2 w R = denF Pg Eall Tryd.f30 (.seq (.leaf) (.seq (.leaf) (.seq (.block (.seq (.leaf) (.cond (.seq (.leaf) (.leaf)) (.seq (.leaf) (.cond (.seq (.leaf) (.leaf)) (.leaf)))))) (.seq (.seq (.leaf) (.seq (.leaf) (.cond (.seq (.leaf) (.leaf)) (.leaf)))) (.seq (.seq (.leaf) (.seq (.leaf) (.cond (.seq (.leaf) (.leaf)) (.leaf)))) (.seq (.leaf) (.leaf))))))) [(.pointer pr_0), (.int .i64 na_1), (.int .i64 nb_2)] w R := by kernel_rfl
theorem calls_ring_Rings_Merge (pr_0 : Option Addr) (na_1 : Int) (nb_2 : Int) (w : World) (R : Value → World → Prop) (h : sh_ring_Rings_Merge pr_0 na_1 nb_2 w R) : Calls Pg fn_ring_Rings_Merge #[(.pointer pr_0), (.int .i64 na_1), (.int .i64 nb_2)] w fun e w' => ∃ v, e = .returned v ∧ R v w' :=
  calls_of_den Eall_enter wide_mixed Tryd.func30 (by rw [← eq_ring_Rings_Merge]; exact h)

/-- '(*plait/ring.Rings).Next' -/
def sh_ring_Rings_Next (pr_0 : Option Addr) (nx_1 : Int) (w : World) (R : Value → World → Prop) : Prop :=
  Calls Pg fn_ring_Rings_step #[(.pointer pr_0), (.int .i64 nx_1), (.int .i64 (1 : Int))] w fun e5 w4 => ∃ n2 : Int, ∃ v3 : Value, e5 = .returned (.tuple #[(.int .i64 n2), v3]) ∧
  R (.tuple #[(.int .i64 n2), v3]) w4
theorem eq_ring_Rings_Next (pr_0 : Option Addr) (nx_1 : Int) (w : World) (R : Value → World → Prop) : sh_ring_Rings_Next pr_0 nx_1 w R = denF Pg Eall Tryd.f31 (.seq (.leaf) (.seq (.leaf) (.leaf))) [(.pointer pr_0), (.int .i64 nx_1)] w R := by kernel_rfl
theorem calls_ring_Rings_Next (pr_0 : Option Addr) (nx_1 : Int) (w : World) (R : Value → World → Prop) (h : sh_ring_Rings_Next pr_0 nx_1 w R) : Calls Pg fn_ring_Rings_Next #[(.pointer pr_0), (.int .i64 nx_1)] w fun e w' => ∃ v, e = .returned v ∧ R v w' :=
  calls_of_den Eall_enter wide_mixed Tryd.func31 (by rw [← eq_ring_Rings_Next]; exact h)

/-- 'plait/ring.New' -/
def sh_ring_New (nn_0 : Int) (w : World) (R : Value → World → Prop) : Prop :=
  Calls Pg fn_seq_New #[(.int .i64 nn_0)] w fun e4 w3 => ∃ p1 : Option Addr, ∃ v2 : Value, e4 = .returned (.tuple #[(.pointer p1), v2]) ∧
  isI v2 ∧ bif (!(nilI v2)) then (
  R (.tuple #[(.pointer none), v2]) w3) else (
  alo #[(.pointer p1)] T_ring_Rings w3 fun a5 w6 =>
  R (.tuple #[(.pointer (some a5)), .nilIface]) w6)
theorem eq_ring_New (nn_0 : Int) (w : World) (R : Value → World → Prop) : sh_ring_New nn_0 w R = denF Pg Eall Tryd.f34 (.seq (.leaf) (.seq (.leaf) (.seq (.seq (.leaf) (.cond (.seq (.leaf) (.leaf)) (.leaf))) (.seq (.leaf) (.leaf))))) [(.int .i64 nn_0)] w R := by kernel_rfl
theorem calls_ring_New (nn_0 : Int) (w : World) (R : Value → World → Prop) (h : sh_ring_New nn_0 w R) : Calls Pg fn_ring_New #[(.int .i64 nn_0)] w fun e w' => ∃ v, e = .returned v ∧ R v w' :=
  calls_of_den Eall_enter wide_mixed Tryd.func34 (by rw [← eq_ring_New]; exact h)

/-- '(*plait/ring.Rings).seqs' -/
def sh_ring_Rings_seqs (pr_0 : Option Addr) (w : World) (R : Value → World → Prop) : Prop :=
  bif (Option.isNone pr_0) then (
  R (.pointer none) w) else (
  pt pr_0 fun a1 =>
  ldP a1 w fun p2 =>
  R (.pointer p2) w)
theorem eq_ring_Rings_seqs (pr_0 : Option Addr) (w : World) (R : Value → World → Prop) : sh_ring_Rings_seqs pr_0 w R = denF Pg Eall Tryd.f36 (.seq (.leaf) (.seq (.seq (.leaf) (.cond (.seq (.leaf) (.leaf)) (.leaf))) (.seq (.leaf) (.leaf)))) [(.pointer pr_0)] w R := by kernel_rfl
theorem calls_ring_Rings_seqs (pr_0 : Option Addr) (w : World) (R : Value → World → Prop) (h : sh_ring_Rings_seqs pr_0 w R) : Calls Pg fn_ring_Rings_seqs #[(.pointer pr_0)] w fun e w' => ∃ v, e = .returned v ∧ R v w' :=
  calls_of_den Eall_enter wide_mixed Tryd.func36 (by rw [← eq_ring_Rings_seqs]; exact h)

/-- '(*plait/ring.Rings).Front' -/
def sh_ring_Rings_Front (pr_0 : Option Addr) (nx_1 : Int) (w : World) (R : Value → World → Prop) : Prop :=
  Calls Pg fn_ring_Rings_seqs #[(.pointer pr_0)] w fun e4 w3 => ∃ p2 : Option Addr, e4 = .returned (.pointer p2) ∧
  Calls Pg fn_seq_Forest_At #[(.pointer p2), (.int .i64 nx_1), (.int .i64 (0 : Int))] w3 fun e8 w7 => ∃ n5 : Int, ∃ v6 : Value, e8 = .returned (.tuple #[(.int .i64 n5), v6]) ∧
  R (.tuple #[(.int .i64 n5), v6]) w7
theorem eq_ring_Rings_Front (pr_0 : Option Addr) (nx_1 : Int) (w : World) (R : Value → World → Prop) : sh_ring_Rings_Front pr_0 nx_1 w R = denF Pg Eall Tryd.f50 (.seq (.leaf) (.seq (.leaf) (.leaf))) [(.pointer pr_0), (.int .i64 nx_1)] w R := by kernel_rfl
theorem calls_ring_Rings_Front (pr_0 : Option Addr) (nx_1 : Int) (w : World) (R : Value → World → Prop) (h : sh_ring_Rings_Front pr_0 nx_1 w R) : Calls Pg fn_ring_Rings_Front #[(.pointer pr_0), (.int .i64 nx_1)] w fun e w' => ∃ v, e = .returned v ∧ R v w' :=
  calls_of_den Eall_enter wide_mixed Tryd.func50 (by rw [← eq_ring_Rings_Front]; exact h)

/-- '(*plait/ring.Rings).Turn' -/
def sh_ring_Rings_Turn (pr_0 : Option Addr) (nx_1 : Int) (w : World) (R : Value → World → Prop) : Prop :=
  Calls Pg fn_ring_Rings_Front #[(.pointer pr_0), (.int .i64 nx_1)] w fun e5 w4 => ∃ n2 : Int, ∃ v3 : Value, e5 = .returned (.tuple #[(.int .i64 n2), v3]) ∧
  isI v3 ∧ bif (!(nilI v3)) then (
  R v3 w4) else (
  bif (n2 == nx_1) then (
  R v3 w4) else (
  pt pr_0 fun a6 =>
  ldP a6 w4 fun p7 =>
  Calls Pg fn_seq_Forest_Cut #[(.pointer p7), (.int .i64 nx_1)] w4 fun e11 w10 => ∃ b8 : Bool, ∃ v9 : Value, e11 = .returned (.tuple #[(.bool b8), v9]) ∧
  isI v9 ∧ bif (!(nilI v9)) then (
  R v9 w10) else (
  pt pr_0 fun a12 =>
  ldP a12 w10 fun p13 =>
  Calls Pg fn_seq_Forest_Join #[(.pointer p13), (.int .i64 nx_1), (.int .i64 n2)] w10 fun e16 w15 => ∃ v14 : Value, e16 = .returned v14 ∧
  R v14 w15)))
theorem eq_ring_Rings_Turn (pr_0 : Option Addr) (nx_1 : Int) (w : World) (R : Value → World → Prop) : sh_ring_Rings_Turn pr_0 nx_1 w R = denF Pg Eall Tryd.f51 (.seq (.leaf) (.seq (.leaf) (.seq (.seq (.leaf) (.cond (.seq (.leaf) (.leaf)) (.leaf))) (.seq (.seq (.leaf) (.seq (.leaf) (.cond (.seq (.leaf) (.leaf)) (.leaf)))) (.seq (.leaf) (.leaf)))))) [(.pointer pr_0), (.int .i64 nx_1)] w R := by kernel_rfl
theorem calls_ring_Rings_Turn (pr_0 : Option Addr) (nx_1 : Int) (w : World) (R : Value → World → Prop) (h : sh_ring_Rings_Turn pr_0 nx_1 w R) : Calls Pg fn_ring_Rings_Turn #[(.pointer pr_0), (.int .i64 nx_1)] w fun e w' => ∃ v, e = .returned v ∧ R v w' :=
  calls_of_den Eall_enter wide_mixed Tryd.func51 (by rw [← eq_ring_Rings_Turn]; exact h)

/-- '(*plait/ring.Rings).step' -/
def sh_ring_Rings_step (pr_0 : Option Addr) (nx_1 : Int) (nby_2 : Int) (w : World) (R : Value → World → Prop) : Prop :=
  Calls Pg fn_ring_Rings_Len #[(.pointer pr_0), (.int .i64 nx_1)] w fun e6 w5 => ∃ n3 : Int, ∃ v4 : Value, e6 = .returned (.tuple #[(.int .i64 n3), v4]) ∧
  isI v4 ∧ bif (!(nilI v4)) then (
  R (.tuple #[(.int .i64 (0 : Int)), v4]) w5) else (
  pt pr_0 fun a7 =>
  ldP a7 w5 fun p8 =>
  Calls Pg fn_seq_Forest_Rank #[(.pointer p8), (.int .i64 nx_1)] w5 fun e12 w11 => ∃ n9 : Int, ∃ v10 : Value, e12 = .returned (.tuple #[(.int .i64 n9), v10]) ∧
  isI v10 ∧ bif (!(nilI v10)) then (
  R (.tuple #[(.int .i64 (0 : Int)), v10]) w11) else (
  pt pr_0 fun a13 =>
  ldP a13 w11.drew fun p14 =>
  n3 ≠ 0 ∧ Calls Pg fn_seq_Forest_At #[(.pointer p14), (.int .i64 nx_1), (.int .i64 (Int.tmod (IntKind.wrap .i64 ((IntKind.wrap .i64 (n9 + nby_2)) + n3)) n3))] w11.drew fun e18 w17 => ∃ n15 : Int, ∃ v16 : Value, e18 = .returned (.tuple #[(.int .i64 n15), v16]) ∧
  R (.tuple #[(.int .i64 n15), v16]) w17))
theorem eq_ring_Rings_step (pr_0 : Option Addr) (nx_1 : Int) (nby_2 : Int) (w : World) (R : Value → World → Prop) : sh_ring_Rings_step pr_0 nx_1 nby_2 w R = denF Pg Eall Tryd.f52 (.seq (.leaf) (.seq (.leaf) (.seq (.seq (.leaf) (.cond (.seq (.leaf) (.leaf)) (.leaf))) (.seq (.leaf) (.seq (.seq (.leaf) (.cond (.seq (.leaf) (.leaf)) (.leaf))) (.seq (.reg (.tk 0 [] [] (.tk 1 [] [] (.tk 2 [] [] (.tk 3 [12, 13, 14, 15, 16] [12] (.tk 4 [] [] (.tk 5 [] [] (.tk 6 [] [] (.tk 7 [] [] (.tk 8 [] [] (.tk 9 [] [] (.tk 10 [] [] (.tk 11 [] [] (.one 12 (.tk 13 [] [] (.tk 14 [] [] (.tk 15 [] [] (.tk 16 [] [] (.fin))))))))))))))))))) (.leaf))))))) [(.pointer pr_0), (.int .i64 nx_1), (.int .i64 nby_2)] w R := by kernel_rfl
theorem calls_ring_Rings_step (pr_0 : Option Addr) (nx_1 : Int) (nby_2 : Int) (w : World) (R : Value → World → Prop) (h : sh_ring_Rings_step pr_0 nx_1 nby_2 w R) : Calls Pg fn_ring_Rings_step #[(.pointer pr_0), (.int .i64 nx_1), (.int .i64 nby_2)] w fun e w' => ∃ v, e = .returned v ∧ R v w' :=
  calls_of_den Eall_enter wide_mixed Tryd.func52 (by rw [← eq_ring_Rings_step]; exact h)

/-- '(*plait/ring.Rings).Len' -/
def sh_ring_Rings_Len (pr_0 : Option Addr) (nx_1 : Int) (w : World) (R : Value → World → Prop) : Prop :=
  Calls Pg fn_ring_Rings_seqs #[(.pointer pr_0)] w fun e4 w3 => ∃ p2 : Option Addr, e4 = .returned (.pointer p2) ∧
  Calls Pg fn_seq_Forest_Size #[(.pointer p2), (.int .i64 nx_1)] w3 fun e8 w7 => ∃ n5 : Int, ∃ v6 : Value, e8 = .returned (.tuple #[(.int .i64 n5), v6]) ∧
  R (.tuple #[(.int .i64 n5), v6]) w7
theorem eq_ring_Rings_Len (pr_0 : Option Addr) (nx_1 : Int) (w : World) (R : Value → World → Prop) : sh_ring_Rings_Len pr_0 nx_1 w R = denF Pg Eall Tryd.f71 (.seq (.leaf) (.seq (.leaf) (.leaf))) [(.pointer pr_0), (.int .i64 nx_1)] w R := by kernel_rfl
theorem calls_ring_Rings_Len (pr_0 : Option Addr) (nx_1 : Int) (w : World) (R : Value → World → Prop) (h : sh_ring_Rings_Len pr_0 nx_1 w R) : Calls Pg fn_ring_Rings_Len #[(.pointer pr_0), (.int .i64 nx_1)] w fun e w' => ∃ v, e = .returned v ∧ R v w' :=
  calls_of_den Eall_enter wide_mixed Tryd.func71 (by rw [← eq_ring_Rings_Len]; exact h)

end Go.Proofs.YtaoemljoiahapaaDoor
