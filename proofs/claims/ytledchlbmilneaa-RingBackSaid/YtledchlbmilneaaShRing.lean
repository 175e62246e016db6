/-
What each function does, as one formula, printed by a program of this session out of the translation; the kernel holds each print against the translation.
Conditions: none.
-/
import Derived.Test.YtledchlbmilneaaSn
namespace Go.Proofs.Ytledchlbmilneaa
open Go
set_option linter.unusedVariables false
set_option maxRecDepth 100000
/-- 'plait/ring.New' -/
def sh_ring_New (nn_0 : Int) (w : World) (R : Value → World → Prop) : Prop :=
  Calls Pg fn_seq_New #[(Value.int .i64 nn_0)] w fun e4 w3 => ∃ p8_1 : Option Addr, ∃ v8_2 : Value, e4 = .returned (Value.tuple #[(Value.pointer p8_1), v8_2]) ∧
  isI v8_2 ∧ bif (!(nilI v8_2)) then (
  R (Value.tuple #[(Value.pointer none), v8_2]) w3) else (
  alo #[(Value.pointer p8_1)] T_ring_Rings w3 fun a5 w6 =>
  R (Value.tuple #[(Value.pointer (some a5)), Value.nilIface]) w6)
theorem eq_ring_New (nn_0 : Int) (w : World) (R : Value → World → Prop) : sh_ring_New nn_0 w R = denF Pg Eall Try.f5 (.seq (.leaf) (.seq (.leaf) (.seq (.seq (.leaf) (.cond (.seq (.leaf) (.leaf)) (.leaf))) (.seq (.leaf) (.leaf))))) [(Value.int .i64 nn_0)] w R := by kernel_rfl
theorem calls_ring_New (nn_0 : Int) (w : World) (R : Value → World → Prop) (h : sh_ring_New nn_0 w R) : Calls Pg fn_ring_New #[(Value.int .i64 nn_0)] w fun e w' => ∃ v, e = .returned v ∧ R v w' :=
  calls_of_den Eall_enter wide_mixed Try.func5 (by rw [← eq_ring_New]; exact h)

/-- '(*plait/ring.Rings).Split' -/
def sh_ring_Rings_Split (pr_0 : Option Addr) (na_1 : Int) (nb_2 : Int) (w : World) (R : Value → World → Prop) : Prop :=
  Calls Pg fn_ring_Rings_Same #[(Value.pointer pr_0), (Value.int .i64 na_1), (Value.int .i64 nb_2)] w fun e6 w5 => ∃ b14_3 : Bool, ∃ v14_4 : Value, e6 = .returned (Value.tuple #[(Value.bool b14_3), v14_4]) ∧
  isI v14_4 ∧ bif (!(nilI v14_4)) then (
  R v14_4 w5) else (
  bif (na_1 == nb_2) then (
  R (Value.iface T_api_Errno (Value.int .i64 (20 : Int))) w5) else (
  bif (!b14_3) then (
  R (Value.iface T_api_Errno (Value.int .i64 (21 : Int))) w5) else (
  Calls Pg fn_ring_Rings_Turn #[(Value.pointer pr_0), (Value.int .i64 na_1)] w5 fun e9 w8 => ∃ v32_7 : Value, e9 = .returned v32_7 ∧
  isI v32_7 ∧ bif (!(nilI v32_7)) then (
  R v32_7 w8) else (
  pt pr_0 fun a38_10 =>
  ldP a38_10 w8 fun p40_11 =>
  Calls Pg fn_seq_Forest_Cut #[(Value.pointer p40_11), (Value.int .i64 nb_2)] w8 fun e15 w14 => ∃ b42_12 : Bool, ∃ v42_13 : Value, e15 = .returned (Value.tuple #[(Value.bool b42_12), v42_13]) ∧
  R v42_13 w14))))
theorem eq_ring_Rings_Split (pr_0 : Option Addr) (na_1 : Int) (nb_2 : Int) (w : World) (R : Value → World → Prop) : sh_ring_Rings_Split pr_0 na_1 nb_2 w R = denF Pg Eall Try.f6 (.seq (.leaf) (.seq (.leaf) (.seq (.block (.seq (.leaf) (.cond (.seq (.leaf) (.leaf)) (.seq (.leaf) (.cond (.seq (.leaf) (.leaf)) (.seq (.leaf) (.cond (.seq (.leaf) (.leaf)) (.leaf)))))))) (.seq (.seq (.leaf) (.seq (.leaf) (.cond (.seq (.leaf) (.leaf)) (.leaf)))) (.seq (.leaf) (.seq (.leaf) (.leaf))))))) [(Value.pointer pr_0), (Value.int .i64 na_1), (Value.int .i64 nb_2)] w R := by kernel_rfl
theorem calls_ring_Rings_Split (pr_0 : Option Addr) (na_1 : Int) (nb_2 : Int) (w : World) (R : Value → World → Prop) (h : sh_ring_Rings_Split pr_0 na_1 nb_2 w R) : Calls Pg fn_ring_Rings_Split #[(Value.pointer pr_0), (Value.int .i64 na_1), (Value.int .i64 nb_2)] w fun e w' => ∃ v, e = .returned v ∧ R v w' :=
  calls_of_den Eall_enter wide_mixed Try.func6 (by rw [← eq_ring_Rings_Split]; exact h)

/-- '(*plait/ring.Rings).Merge' -/
def sh_ring_Rings_Merge (pr_0 : Option Addr) (na_1 : Int) (nb_2 : Int) (w : World) (R : Value → World → Prop) : Prop :=
  Calls Pg fn_ring_Rings_Same #[(Value.pointer pr_0), (Value.int .i64 na_1), (Value.int .i64 nb_2)] w fun e6 w5 => ∃ b15_3 : Bool, ∃ v15_4 : Value, e6 = .returned (Value.tuple #[(Value.bool b15_3), v15_4]) ∧
  isI v15_4 ∧ bif (!(nilI v15_4)) then (
  R v15_4 w5) else (
  bif b15_3 then (
  R (Value.iface T_api_Errno (Value.int .i64 (20 : Int))) w5) else (
  Calls Pg fn_ring_Rings_Turn #[(Value.pointer pr_0), (Value.int .i64 na_1)] w5 fun e9 w8 => ∃ v27_7 : Value, e9 = .returned v27_7 ∧
  isI v27_7 ∧ bif (!(nilI v27_7)) then (
  R v27_7 w8) else (
  Calls Pg fn_ring_Rings_Turn #[(Value.pointer pr_0), (Value.int .i64 nb_2)] w8 fun e12 w11 => ∃ v33_10 : Value, e12 = .returned v33_10 ∧
  isI v33_10 ∧ bif (!(nilI v33_10)) then (
  R v33_10 w11) else (
  pt pr_0 fun a38_13 =>
  ldP a38_13 w11 fun p40_14 =>
  Calls Pg fn_seq_Forest_Join #[(Value.pointer p40_14), (Value.int .i64 na_1), (Value.int .i64 nb_2)] w11 fun e17 w16 => ∃ v43_15 : Value, e17 = .returned v43_15 ∧
  R v43_15 w16))))
theorem eq_ring_Rings_Merge (pr_0 : Option Addr) (na_1 : Int) (nb_2 : Int) (w : World) (R : Value → World → Prop) : sh_ring_Rings_Merge pr_0 na_1 nb_2 w R = denF Pg Eall Try.f7 (.seq (.leaf) (.seq (.leaf) (.seq (.block (.seq (.leaf) (.cond (.seq (.leaf) (.leaf)) (.seq (.leaf) (.cond (.seq (.leaf) (.leaf)) (.leaf)))))) (.seq (.seq (.leaf) (.seq (.leaf) (.cond (.seq (.leaf) (.leaf)) (.leaf)))) (.seq (.seq (.leaf) (.seq (.leaf) (.cond (.seq (.leaf) (.leaf)) (.leaf)))) (.seq (.leaf) (.leaf))))))) [(Value.pointer pr_0), (Value.int .i64 na_1), (Value.int .i64 nb_2)] w R := by kernel_rfl
theorem calls_ring_Rings_Merge (pr_0 : Option Addr) (na_1 : Int) (nb_2 : Int) (w : World) (R : Value → World → Prop) (h : sh_ring_Rings_Merge pr_0 na_1 nb_2 w R) : Calls Pg fn_ring_Rings_Merge #[(Value.pointer pr_0), (Value.int .i64 na_1), (Value.int .i64 nb_2)] w fun e w' => ∃ v, e = .returned v ∧ R v w' :=
  calls_of_den Eall_enter wide_mixed Try.func7 (by rw [← eq_ring_Rings_Merge]; exact h)

/-- '(*plait/ring.Rings).Walk' -/
def sh_ring_Rings_Walk (pr_0 : Option Addr) (nx_1 : Int) (w : World) (R : Value → World → Prop) : Prop :=
  Calls Pg fn_ring_Rings_seqs #[(Value.pointer pr_0)] w fun e4 w3 => ∃ p11_2 : Option Addr, e4 = .returned (Value.pointer p11_2) ∧
  Calls Pg fn_seq_Forest_List #[(Value.pointer p11_2), (Value.int .i64 nx_1)] w3 fun e8 w7 => ∃ s13_5b : Option Addr, ∃ s13_5l : Nat, ∃ s13_5c : Nat, ∃ v13_6 : Value, e8 = .returned (Value.tuple #[(Value.slice s13_5b s13_5l s13_5c), v13_6]) ∧
  isI v13_6 ∧ bif (!(nilI v13_6)) then (
  R (Value.tuple #[(Value.slice none 0 0), v13_6]) w7) else (
  Calls Pg fn_slices_Index__intint #[(Value.slice s13_5b s13_5l s13_5c), (Value.int .i64 nx_1)] w7 fun e11 w10 => ∃ n21_9 : Int, e11 = .returned (Value.int .i64 n21_9) ∧
  0 ≤ n21_9 ∧ n21_9 ≤ ((s13_5l : Nat) : Int) ∧ 0 ≤ n21_9 ∧ n21_9 ≤ ((s13_5c : Nat) : Int) ∧ alo #[(Value.slice (if s13_5c = (Int.toNat n21_9) then s13_5b else Option.map (fun a => Addr.add a ((Int.toNat n21_9) * 1)) s13_5b) (s13_5l - (Int.toNat n21_9)) (s13_5c - (Int.toNat n21_9))), (Value.slice (if s13_5c = 0 then s13_5b else Option.map (fun a => Addr.add a (0 * 1)) s13_5b) ((Int.toNat n21_9) - 0) (s13_5c - 0))] T_sl_int (World.drew w10) fun a12 w13 =>
  Calls Pg fn_slices_Concat__intint #[(Value.slice (some a12) 2 2)] w13 fun e16 w15 => ∃ s29_14b : Option Addr, ∃ s29_14l : Nat, ∃ s29_14c : Nat, e16 = .returned (Value.slice s29_14b s29_14l s29_14c) ∧
  R (Value.tuple #[(Value.slice s29_14b s29_14l s29_14c), Value.nilIface]) w15)
theorem eq_ring_Rings_Walk (pr_0 : Option Addr) (nx_1 : Int) (w : World) (R : Value → World → Prop) : sh_ring_Rings_Walk pr_0 nx_1 w R = denF Pg Eall Try.f8 (.seq (.leaf) (.seq (.leaf) (.seq (.seq (.leaf) (.cond (.seq (.leaf) (.leaf)) (.leaf))) (.seq (.leaf) (.seq (.reg (.tk 0 [] [] (.tk 1 [] [] (.tk 2 [] [] (.tk 3 [] [] (.tk 4 [] [] (.tk 5 [] [] (.one 6 (.one 7 (.tk 8 [] [] (.tk 9 [] [] (.fin)))))))))))) (.leaf)))))) [(Value.pointer pr_0), (Value.int .i64 nx_1)] w R := by kernel_rfl
theorem calls_ring_Rings_Walk (pr_0 : Option Addr) (nx_1 : Int) (w : World) (R : Value → World → Prop) (h : sh_ring_Rings_Walk pr_0 nx_1 w R) : Calls Pg fn_ring_Rings_Walk #[(Value.pointer pr_0), (Value.int .i64 nx_1)] w fun e w' => ∃ v, e = .returned v ∧ R v w' :=
  calls_of_den Eall_enter wide_mixed Try.func8 (by rw [← eq_ring_Rings_Walk]; exact h)

/-- '(*plait/ring.Rings).Same' -/
def sh_ring_Rings_Same (pr_0 : Option Addr) (na_1 : Int) (nb_2 : Int) (w : World) (R : Value → World → Prop) : Prop :=
  Calls Pg fn_ring_Rings_seqs #[(Value.pointer pr_0)] w fun e5 w4 => ∃ p9_3 : Option Addr, e5 = .returned (Value.pointer p9_3) ∧
  Calls Pg fn_seq_Forest_Same #[(Value.pointer p9_3), (Value.int .i64 na_1), (Value.int .i64 nb_2)] w4 fun e9 w8 => ∃ b12_6 : Bool, ∃ v12_7 : Value, e9 = .returned (Value.tuple #[(Value.bool b12_6), v12_7]) ∧
  R (Value.tuple #[(Value.bool b12_6), v12_7]) w8
theorem eq_ring_Rings_Same (pr_0 : Option Addr) (na_1 : Int) (nb_2 : Int) (w : World) (R : Value → World → Prop) : sh_ring_Rings_Same pr_0 na_1 nb_2 w R = denF Pg Eall Try.f9 (.seq (.leaf) (.seq (.leaf) (.leaf))) [(Value.pointer pr_0), (Value.int .i64 na_1), (Value.int .i64 nb_2)] w R := by kernel_rfl
theorem calls_ring_Rings_Same (pr_0 : Option Addr) (na_1 : Int) (nb_2 : Int) (w : World) (R : Value → World → Prop) (h : sh_ring_Rings_Same pr_0 na_1 nb_2 w R) : Calls Pg fn_ring_Rings_Same #[(Value.pointer pr_0), (Value.int .i64 na_1), (Value.int .i64 nb_2)] w fun e w' => ∃ v, e = .returned v ∧ R v w' :=
  calls_of_den Eall_enter wide_mixed Try.func9 (by rw [← eq_ring_Rings_Same]; exact h)

/-- '(*plait/ring.Rings).Len' -/
def sh_ring_Rings_Len (pr_0 : Option Addr) (nx_1 : Int) (w : World) (R : Value → World → Prop) : Prop :=
  Calls Pg fn_ring_Rings_seqs #[(Value.pointer pr_0)] w fun e4 w3 => ∃ p7_2 : Option Addr, e4 = .returned (Value.pointer p7_2) ∧
  Calls Pg fn_seq_Forest_Size #[(Value.pointer p7_2), (Value.int .i64 nx_1)] w3 fun e8 w7 => ∃ n9_5 : Int, ∃ v9_6 : Value, e8 = .returned (Value.tuple #[(Value.int .i64 n9_5), v9_6]) ∧
  R (Value.tuple #[(Value.int .i64 n9_5), v9_6]) w7
theorem eq_ring_Rings_Len (pr_0 : Option Addr) (nx_1 : Int) (w : World) (R : Value → World → Prop) : sh_ring_Rings_Len pr_0 nx_1 w R = denF Pg Eall Try.f12 (.seq (.leaf) (.seq (.leaf) (.leaf))) [(Value.pointer pr_0), (Value.int .i64 nx_1)] w R := by kernel_rfl
theorem calls_ring_Rings_Len (pr_0 : Option Addr) (nx_1 : Int) (w : World) (R : Value → World → Prop) (h : sh_ring_Rings_Len pr_0 nx_1 w R) : Calls Pg fn_ring_Rings_Len #[(Value.pointer pr_0), (Value.int .i64 nx_1)] w fun e w' => ∃ v, e = .returned v ∧ R v w' :=
  calls_of_den Eall_enter wide_mixed Try.func12 (by rw [← eq_ring_Rings_Len]; exact h)

/-- '(*plait/ring.Rings).Next' -/
def sh_ring_Rings_Next (pr_0 : Option Addr) (nx_1 : Int) (w : World) (R : Value → World → Prop) : Prop :=
  Calls Pg fn_ring_Rings_step #[(Value.pointer pr_0), (Value.int .i64 nx_1), (Value.int .i64 (1 : Int))] w fun e5 w4 => ∃ n8_2 : Int, ∃ v8_3 : Value, e5 = .returned (Value.tuple #[(Value.int .i64 n8_2), v8_3]) ∧
  R (Value.tuple #[(Value.int .i64 n8_2), v8_3]) w4
theorem eq_ring_Rings_Next (pr_0 : Option Addr) (nx_1 : Int) (w : World) (R : Value → World → Prop) : sh_ring_Rings_Next pr_0 nx_1 w R = denF Pg Eall Try.f13 (.seq (.leaf) (.seq (.leaf) (.leaf))) [(Value.pointer pr_0), (Value.int .i64 nx_1)] w R := by kernel_rfl
theorem calls_ring_Rings_Next (pr_0 : Option Addr) (nx_1 : Int) (w : World) (R : Value → World → Prop) (h : sh_ring_Rings_Next pr_0 nx_1 w R) : Calls Pg fn_ring_Rings_Next #[(Value.pointer pr_0), (Value.int .i64 nx_1)] w fun e w' => ∃ v, e = .returned v ∧ R v w' :=
  calls_of_den Eall_enter wide_mixed Try.func13 (by rw [← eq_ring_Rings_Next]; exact h)

/-- '(*plait/ring.Rings).Prev' -/
def sh_ring_Rings_Prev (pr_0 : Option Addr) (nx_1 : Int) (w : World) (R : Value → World → Prop) : Prop :=
  Calls Pg fn_ring_Rings_step #[(Value.pointer pr_0), (Value.int .i64 nx_1), (Value.int .i64 (-1 : Int))] w fun e5 w4 => ∃ n8_2 : Int, ∃ v8_3 : Value, e5 = .returned (Value.tuple #[(Value.int .i64 n8_2), v8_3]) ∧
  R (Value.tuple #[(Value.int .i64 n8_2), v8_3]) w4
theorem eq_ring_Rings_Prev (pr_0 : Option Addr) (nx_1 : Int) (w : World) (R : Value → World → Prop) : sh_ring_Rings_Prev pr_0 nx_1 w R = denF Pg Eall Try.f14 (.seq (.leaf) (.seq (.leaf) (.leaf))) [(Value.pointer pr_0), (Value.int .i64 nx_1)] w R := by kernel_rfl
theorem calls_ring_Rings_Prev (pr_0 : Option Addr) (nx_1 : Int) (w : World) (R : Value → World → Prop) (h : sh_ring_Rings_Prev pr_0 nx_1 w R) : Calls Pg fn_ring_Rings_Prev #[(Value.pointer pr_0), (Value.int .i64 nx_1)] w fun e w' => ∃ v, e = .returned v ∧ R v w' :=
  calls_of_den Eall_enter wide_mixed Try.func14 (by rw [← eq_ring_Rings_Prev]; exact h)

/-- '(*plait/ring.Rings).Turn' -/
def sh_ring_Rings_Turn (pr_0 : Option Addr) (nx_1 : Int) (w : World) (R : Value → World → Prop) : Prop :=
  Calls Pg fn_ring_Rings_Front #[(Value.pointer pr_0), (Value.int .i64 nx_1)] w fun e5 w4 => ∃ n12_2 : Int, ∃ v12_3 : Value, e5 = .returned (Value.tuple #[(Value.int .i64 n12_2), v12_3]) ∧
  isI v12_3 ∧ bif (!(nilI v12_3)) then (
  R v12_3 w4) else (
  bif (n12_2 == nx_1) then (
  R v12_3 w4) else (
  pt pr_0 fun a25_6 =>
  ldP a25_6 w4 fun p27_7 =>
  Calls Pg fn_seq_Forest_Cut #[(Value.pointer p27_7), (Value.int .i64 nx_1)] w4 fun e11 w10 => ∃ b29_8 : Bool, ∃ v29_9 : Value, e11 = .returned (Value.tuple #[(Value.bool b29_8), v29_9]) ∧
  isI v29_9 ∧ bif (!(nilI v29_9)) then (
  R v29_9 w10) else (
  pt pr_0 fun a36_12 =>
  ldP a36_12 w10 fun p38_13 =>
  Calls Pg fn_seq_Forest_Join #[(Value.pointer p38_13), (Value.int .i64 nx_1), (Value.int .i64 n12_2)] w10 fun e16 w15 => ∃ v41_14 : Value, e16 = .returned v41_14 ∧
  R v41_14 w15)))
theorem eq_ring_Rings_Turn (pr_0 : Option Addr) (nx_1 : Int) (w : World) (R : Value → World → Prop) : sh_ring_Rings_Turn pr_0 nx_1 w R = denF Pg Eall Try.f16 (.seq (.leaf) (.seq (.leaf) (.seq (.seq (.leaf) (.cond (.seq (.leaf) (.leaf)) (.leaf))) (.seq (.seq (.leaf) (.seq (.leaf) (.cond (.seq (.leaf) (.leaf)) (.leaf)))) (.seq (.leaf) (.leaf)))))) [(Value.pointer pr_0), (Value.int .i64 nx_1)] w R := by kernel_rfl
theorem calls_ring_Rings_Turn (pr_0 : Option Addr) (nx_1 : Int) (w : World) (R : Value → World → Prop) (h : sh_ring_Rings_Turn pr_0 nx_1 w R) : Calls Pg fn_ring_Rings_Turn #[(Value.pointer pr_0), (Value.int .i64 nx_1)] w fun e w' => ∃ v, e = .returned v ∧ R v w' :=
  calls_of_den Eall_enter wide_mixed Try.func16 (by rw [← eq_ring_Rings_Turn]; exact h)

/-- '(*plait/ring.Rings).seqs' -/
def sh_ring_Rings_seqs (pr_0 : Option Addr) (w : World) (R : Value → World → Prop) : Prop :=
  bif (Option.isNone pr_0) then (
  R (Value.pointer none) w) else (
  pt pr_0 fun a6_1 =>
  ldP a6_1 w fun p8_2 =>
  R (Value.pointer p8_2) w)
theorem eq_ring_Rings_seqs (pr_0 : Option Addr) (w : World) (R : Value → World → Prop) : sh_ring_Rings_seqs pr_0 w R = denF Pg Eall Try.f19 (.seq (.leaf) (.seq (.seq (.leaf) (.cond (.seq (.leaf) (.leaf)) (.leaf))) (.seq (.leaf) (.leaf)))) [(Value.pointer pr_0)] w R := by kernel_rfl
theorem calls_ring_Rings_seqs (pr_0 : Option Addr) (w : World) (R : Value → World → Prop) (h : sh_ring_Rings_seqs pr_0 w R) : Calls Pg fn_ring_Rings_seqs #[(Value.pointer pr_0)] w fun e w' => ∃ v, e = .returned v ∧ R v w' :=
  calls_of_den Eall_enter wide_mixed Try.func19 (by rw [← eq_ring_Rings_seqs]; exact h)

/-- '(*plait/ring.Rings).step' -/
def sh_ring_Rings_step (pr_0 : Option Addr) (nx_1 : Int) (nby_2 : Int) (w : World) (R : Value → World → Prop) : Prop :=
  Calls Pg fn_ring_Rings_Len #[(Value.pointer pr_0), (Value.int .i64 nx_1)] w fun e6 w5 => ∃ n14_3 : Int, ∃ v14_4 : Value, e6 = .returned (Value.tuple #[(Value.int .i64 n14_3), v14_4]) ∧
  isI v14_4 ∧ bif (!(nilI v14_4)) then (
  R (Value.tuple #[(Value.int .i64 (0 : Int)), v14_4]) w5) else (
  pt pr_0 fun a22_7 =>
  ldP a22_7 w5 fun p24_8 =>
  Calls Pg fn_seq_Forest_Rank #[(Value.pointer p24_8), (Value.int .i64 nx_1)] w5 fun e12 w11 => ∃ n26_9 : Int, ∃ v26_10 : Value, e12 = .returned (Value.tuple #[(Value.int .i64 n26_9), v26_10]) ∧
  isI v26_10 ∧ bif (!(nilI v26_10)) then (
  R (Value.tuple #[(Value.int .i64 (0 : Int)), v26_10]) w11) else (
  pt pr_0 fun a33_13 =>
  ldP a33_13 (World.drew w11) fun p35_14 =>
  n14_3 ≠ 0 ∧ Calls Pg fn_seq_Forest_At #[(Value.pointer p35_14), (Value.int .i64 nx_1), (Value.int .i64 (Int.tmod (IntKind.wrap .i64 ((IntKind.wrap .i64 (n26_9 + nby_2)) + n14_3)) n14_3))] (World.drew w11) fun e18 w17 => ∃ n44_15 : Int, ∃ v44_16 : Value, e18 = .returned (Value.tuple #[(Value.int .i64 n44_15), v44_16]) ∧
  R (Value.tuple #[(Value.int .i64 n44_15), v44_16]) w17))
theorem eq_ring_Rings_step (pr_0 : Option Addr) (nx_1 : Int) (nby_2 : Int) (w : World) (R : Value → World → Prop) : sh_ring_Rings_step pr_0 nx_1 nby_2 w R = denF Pg Eall Try.f25 (.seq (.leaf) (.seq (.leaf) (.seq (.seq (.leaf) (.cond (.seq (.leaf) (.leaf)) (.leaf))) (.seq (.leaf) (.seq (.seq (.leaf) (.cond (.seq (.leaf) (.leaf)) (.leaf))) (.seq (.reg (.tk 0 [] [] (.tk 1 [] [] (.tk 2 [] [] (.tk 3 [12, 13, 14, 15, 16] [12] (.tk 4 [] [] (.tk 5 [] [] (.tk 6 [] [] (.tk 7 [] [] (.tk 8 [] [] (.tk 9 [] [] (.tk 10 [] [] (.tk 11 [] [] (.one 12 (.tk 13 [] [] (.tk 14 [] [] (.tk 15 [] [] (.tk 16 [] [] (.fin))))))))))))))))))) (.leaf))))))) [(Value.pointer pr_0), (Value.int .i64 nx_1), (Value.int .i64 nby_2)] w R := by kernel_rfl
theorem calls_ring_Rings_step (pr_0 : Option Addr) (nx_1 : Int) (nby_2 : Int) (w : World) (R : Value → World → Prop) (h : sh_ring_Rings_step pr_0 nx_1 nby_2 w R) : Calls Pg fn_ring_Rings_step #[(Value.pointer pr_0), (Value.int .i64 nx_1), (Value.int .i64 nby_2)] w fun e w' => ∃ v, e = .returned v ∧ R v w' :=
  calls_of_den Eall_enter wide_mixed Try.func25 (by rw [← eq_ring_Rings_step]; exact h)

/-- '(*plait/ring.Rings).Front' -/
def sh_ring_Rings_Front (pr_0 : Option Addr) (nx_1 : Int) (w : World) (R : Value → World → Prop) : Prop :=
  Calls Pg fn_ring_Rings_seqs #[(Value.pointer pr_0)] w fun e4 w3 => ∃ p7_2 : Option Addr, e4 = .returned (Value.pointer p7_2) ∧
  Calls Pg fn_seq_Forest_At #[(Value.pointer p7_2), (Value.int .i64 nx_1), (Value.int .i64 (0 : Int))] w3 fun e8 w7 => ∃ n9_5 : Int, ∃ v9_6 : Value, e8 = .returned (Value.tuple #[(Value.int .i64 n9_5), v9_6]) ∧
  R (Value.tuple #[(Value.int .i64 n9_5), v9_6]) w7
theorem eq_ring_Rings_Front (pr_0 : Option Addr) (nx_1 : Int) (w : World) (R : Value → World → Prop) : sh_ring_Rings_Front pr_0 nx_1 w R = denF Pg Eall Try.f26 (.seq (.leaf) (.seq (.leaf) (.leaf))) [(Value.pointer pr_0), (Value.int .i64 nx_1)] w R := by kernel_rfl
theorem calls_ring_Rings_Front (pr_0 : Option Addr) (nx_1 : Int) (w : World) (R : Value → World → Prop) (h : sh_ring_Rings_Front pr_0 nx_1 w R) : Calls Pg fn_ring_Rings_Front #[(Value.pointer pr_0), (Value.int .i64 nx_1)] w fun e w' => ∃ v, e = .returned v ∧ R v w' :=
  calls_of_den Eall_enter wide_mixed Try.func26 (by rw [← eq_ring_Rings_Front]; exact h)

end Go.Proofs.Ytledchlbmilneaa
