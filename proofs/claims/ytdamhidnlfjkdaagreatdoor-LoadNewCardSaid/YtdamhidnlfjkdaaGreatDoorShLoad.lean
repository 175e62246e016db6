/-
What each function does, as one formula, printed by a program of this session out of the translation; the kernel holds each print against the translation.
Conditions: none.
-/
import Derived.Test.YtdamhidnlfjkdaaGreatDoorSn
namespace Go.Proofs.YtdamhidnlfjkdaaGreatDoor
open Go
set_option linter.unusedVariables false
set_option maxRecDepth 100000
def sh_load_State_Model (p0 : OA) (w : World) (R : RV) : Prop :=
  alo #[.int .i64 0, .slice none 0 0, .slice none 0 0, .slice none 0 0] T_model_Model w fun a1 w2 =>
 Calls Pg fn_load_State_whole #[.pointer p0] w2 fun e5 w4 => ∃ b3, e5 = .returned (.bool b3) ∧
 bif (!b3) then (
 sto a1 (.int .i64 0) w4 fun w6 =>
 sto (a1.add 1) (.slice none 0 0) w6 fun w7 =>
 sto (a1.add 2) (.slice none 0 0) w7 fun w8 =>
 sto (a1.add 3) (.slice none 0 0) w8 fun w9 =>
 ldI .i64 a1 w9 fun n10 =>
 ldS (a1.add 1) w9 fun s11b s11l s11c =>
 ldS (a1.add 2) w9 fun s12b s12l s12c =>
 ldS (a1.add 3) w9 fun s13b s13l s13c =>
 R (.tuple #[.agg #[.int .i64 n10, .slice s11b s11l s11c, .slice s12b s12l s12c, .slice s13b s13l s13c], .iface T_api_Errno (.int .i64 1)]) w9) else (
 pt p0 fun a14 =>
 ldP (a14.add 2) w4 fun p15 =>
 Calls Pg fn_core_Map_Room #[.pointer p15] w4 fun e18 w17 => ∃ n16, e18 = .returned (.int .i64 n16) ∧
 ∃ J19 : JP, (
 pt p0 fun a20 =>
 ldP a20 w17.drew fun p21 =>
 pt p0 fun a22 =>
 ldP (a22.add 1) w17.drew fun p23 =>
 (Calls Pg fn_arena_Arena_Places #[.pointer p21] w17.drew fun e26 w25 => ∃ s24b s24l s24c, e26 = .returned (.slice s24b s24l s24c) ∧
 w25.cell? (a22.add 1) = some (.pointer p23) ∧ (Calls Pg fn_arena_Arena_Places #[.pointer p23] w25 fun e29 w28 => ∃ s27b s27l s27c, e29 = .returned (.slice s27b s27l s27c) ∧
 alo #[.int .i64 0, .slice none 0 0, .slice none 0 0, .slice none 0 0] T_model_Model w28 fun a30 w31 =>
 sto a30 (.int .i64 n16) w31 fun w32 =>
 sto (a30.add 1) (.slice s24b s24l s24c) w32 fun w33 =>
 sto (a30.add 2) (.slice s27b s27l s27c) w33 fun w34 =>
 sto (a30.add 3) (.slice none 0 0) w34 fun w35 =>
 J19 [.pointer (some a30)] w35) ∧ (
 alo #[.int .i64 0, .slice none 0 0, .slice none 0 0, .slice none 0 0] T_model_Model w25 fun a36 w37 =>
 w37.cell? (a22.add 1) = some (.pointer p23) ∧ Calls Pg fn_arena_Arena_Places #[.pointer p23] w37 fun e40 w39 => ∃ s38b s38l s38c, e40 = .returned (.slice s38b s38l s38c) ∧
 sto a36 (.int .i64 n16) w39 fun w41 =>
 sto (a36.add 1) (.slice s24b s24l s24c) w41 fun w42 =>
 sto (a36.add 2) (.slice s38b s38l s38c) w42 fun w43 =>
 sto (a36.add 3) (.slice none 0 0) w43 fun w44 =>
 J19 [.pointer (some a36)] w44)) ∧ (
 alo #[.int .i64 0, .slice none 0 0, .slice none 0 0, .slice none 0 0] T_model_Model w17.drew fun a45 w46 =>
 w46.cell? (a22.add 1) = some (.pointer p23) ∧ w46.cell? a20 = some (.pointer p21) ∧ Calls Pg fn_arena_Arena_Places #[.pointer p21] w46 fun e49 w48 => ∃ s47b s47l s47c, e49 = .returned (.slice s47b s47l s47c) ∧
 w48.cell? (a22.add 1) = some (.pointer p23) ∧ Calls Pg fn_arena_Arena_Places #[.pointer p23] w48 fun e52 w51 => ∃ s50b s50l s50c, e52 = .returned (.slice s50b s50l s50c) ∧
 sto a45 (.int .i64 n16) w51 fun w53 =>
 sto (a45.add 1) (.slice s47b s47l s47c) w53 fun w54 =>
 sto (a45.add 2) (.slice s50b s50l s50c) w54 fun w55 =>
 sto (a45.add 3) (.slice none 0 0) w55 fun w56 =>
 J19 [.pointer (some a45)] w56)) ∧ ∀ _ : Env, ∀ p57 w58, J19 [.pointer p57] w58 →
 pt p57 fun a59 =>
 ldS (a59.add 2) w58 fun s60b s60l s60c =>
 ∃ (I61 : JP) (m62 : JN), I61 [.int .i64 0] w58 ∧
 ∀ _ : Env, ∀ n63 w64, I61 [.int .i64 n63] w64 →
 bif (decide (n63 < (s60l : Int))) then (
 ixS s60b s60l n63 2 fun a65 =>
 ldI .u32 a65 w64 fun n66 =>
 ldI .i64 (a65.add 1) w64 fun n67 =>
 alo #[.int .u32 0, .int .i64 0] T_arena_Place w64 fun a68 w69 =>
 sto a68 (.int .u32 n66) w69 fun w70 =>
 sto (a68.add 1) (.int .i64 n67) w70 fun w71 =>
 alo #[.int .u32 0, .int .u32 0, .int .u32 0, .int .u32 0, .int .i32 0] T_model_Edge w71 fun a72 w73 =>
 ldI .i64 (a68.add 1) w73 fun n74 =>
 bif (n74 == 1) then (
 Calls Pg fn_load_State_edge #[.pointer p0, .int .i64 n63] w73 fun e82 w81 => ∃ n75 n76 n77 n78 n79 v80, e82 = .returned (.tuple #[.agg #[.int .u32 n75, .int .u32 n76, .int .u32 n77, .int .u32 n78, .int .i32 n79], v80]) ∧
 alo #[.int .u32 0, .int .u32 0, .int .u32 0, .int .u32 0, .int .i32 0] T_model_Edge w81 fun a83 w84 =>
 sto a83 (.int .u32 n75) w84 fun w85 =>
 sto (a83.add 1) (.int .u32 n76) w85 fun w86 =>
 sto (a83.add 2) (.int .u32 n77) w86 fun w87 =>
 sto (a83.add 3) (.int .u32 n78) w87 fun w88 =>
 sto (a83.add 4) (.int .i32 n79) w88 fun w89 =>
 isI v80 ∧ bif (!(nilI v80)) then (
 sto a1 (.int .i64 0) w89 fun w90 =>
 sto (a1.add 1) (.slice none 0 0) w90 fun w91 =>
 sto (a1.add 2) (.slice none 0 0) w91 fun w92 =>
 sto (a1.add 3) (.slice none 0 0) w92 fun w93 =>
 ldI .i64 a1 w93 fun n94 =>
 ldS (a1.add 1) w93 fun s95b s95l s95c =>
 ldS (a1.add 2) w93 fun s96b s96l s96c =>
 ldS (a1.add 3) w93 fun s97b s97l s97c =>
 R (.tuple #[.agg #[.int .i64 n94, .slice s95b s95l s95c, .slice s96b s96l s96c, .slice s97b s97l s97c], .iface T_api_Errno (.int .i64 17)]) w93) else (
 ldI .u32 a83 w89 fun n98 =>
 ldI .u32 (a83.add 1) w89 fun n99 =>
 ldI .u32 (a83.add 2) w89 fun n100 =>
 ldI .u32 (a83.add 3) w89 fun n101 =>
 ldI .i32 (a83.add 4) w89 fun n102 =>
 sto a72 (.int .u32 n98) w89 fun w103 =>
 sto (a72.add 1) (.int .u32 n99) w103 fun w104 =>
 sto (a72.add 2) (.int .u32 n100) w104 fun w105 =>
 sto (a72.add 3) (.int .u32 n101) w105 fun w106 =>
 sto (a72.add 4) (.int .i32 n102) w106 fun w107 =>
 pt p57 fun a108 =>
 ldS (a108.add 3) w107 fun s109b s109l s109c =>
 ldI .u32 a72 w107 fun n110 =>
 ldI .u32 (a72.add 1) w107 fun n111 =>
 ldI .u32 (a72.add 2) w107 fun n112 =>
 ldI .u32 (a72.add 3) w107 fun n113 =>
 ldI .i32 (a72.add 4) w107 fun n114 =>
 alo #[.int .u32 n110, .int .u32 n111, .int .u32 n112, .int .u32 n113, .int .i32 n114] T_model_Edge w107 fun a115 w116 =>
 ∃ s117b s117l s117c w118, (Builtin.append_ #[T_sl_model_Edge, T_sl_model_Edge] T_sl_model_Edge #[.slice s109b s109l s109c, .slice (some a115) 1 1]).run Pg w116 = .ok (.slice s117b s117l s117c) w118 ∧
 pt p57 fun a119 =>
 sto (a119.add 3) (.slice s117b s117l s117c) w118 fun w120 =>
 (I61 [.int .i64 (IntKind.wrap .i64 (n63 + 1))] w120 ∧ m62 [.int .i64 (IntKind.wrap .i64 (n63 + 1))] w120 < m62 [.int .i64 n63] w64))) else (
 pt p57 fun a121 =>
 ldS (a121.add 3) w73 fun s122b s122l s122c =>
 ldI .u32 a72 w73 fun n123 =>
 ldI .u32 (a72.add 1) w73 fun n124 =>
 ldI .u32 (a72.add 2) w73 fun n125 =>
 ldI .u32 (a72.add 3) w73 fun n126 =>
 ldI .i32 (a72.add 4) w73 fun n127 =>
 alo #[.int .u32 n123, .int .u32 n124, .int .u32 n125, .int .u32 n126, .int .i32 n127] T_model_Edge w73 fun a128 w129 =>
 ∃ s130b s130l s130c w131, (Builtin.append_ #[T_sl_model_Edge, T_sl_model_Edge] T_sl_model_Edge #[.slice s122b s122l s122c, .slice (some a128) 1 1]).run Pg w129 = .ok (.slice s130b s130l s130c) w131 ∧
 pt p57 fun a132 =>
 sto (a132.add 3) (.slice s130b s130l s130c) w131 fun w133 =>
 (I61 [.int .i64 (IntKind.wrap .i64 (n63 + 1))] w133 ∧ m62 [.int .i64 (IntKind.wrap .i64 (n63 + 1))] w133 < m62 [.int .i64 n63] w64))) else (
 pt p0 fun a134 =>
 ldP (a134.add 2) w64 fun p135 =>
 Calls Pg fn_core_Map_Counts #[.pointer p135] w64 fun e141 w140 => ∃ n136 n137 n138 n139, e141 = .returned (.agg #[.int .i64 n136, .int .i64 n137, .int .i64 n138, .int .i64 n139]) ∧
 alo #[.int .i64 0, .int .i64 0, .int .i64 0, .int .i64 0] T_sphere_Counts w140 fun a142 w143 =>
 sto a142 (.int .i64 n136) w143 fun w144 =>
 sto (a142.add 1) (.int .i64 n137) w144 fun w145 =>
 sto (a142.add 2) (.int .i64 n138) w145 fun w146 =>
 sto (a142.add 3) (.int .i64 n139) w146 fun w147 =>
 ldI .i64 a142 w147.drew fun n148 =>
 pt p0 fun a149 =>
 ldP a149 w147.drew fun p150 =>
 Calls Pg fn_arena_Arena_Len #[.pointer p150] w147.drew fun e153 w152 => ∃ n151, e153 = .returned (.int .i64 n151) ∧
 w152.cell? a142 = some (.int .i64 n148) ∧ bif (n148 != n151) then (
 sto a1 (.int .i64 0) w152 fun w154 =>
 sto (a1.add 1) (.slice none 0 0) w154 fun w155 =>
 sto (a1.add 2) (.slice none 0 0) w155 fun w156 =>
 sto (a1.add 3) (.slice none 0 0) w156 fun w157 =>
 ldI .i64 a1 w157 fun n158 =>
 ldS (a1.add 1) w157 fun s159b s159l s159c =>
 ldS (a1.add 2) w157 fun s160b s160l s160c =>
 ldS (a1.add 3) w157 fun s161b s161l s161c =>
 R (.tuple #[.agg #[.int .i64 n158, .slice s159b s159l s159c, .slice s160b s160l s160c, .slice s161b s161l s161c], .iface T_api_Errno (.int .i64 17)]) w157) else (
 ldI .i64 (a142.add 1) w152 fun n162 =>
 pt p0 fun a163 =>
 ldP (a163.add 1) w152 fun p164 =>
 Calls Pg fn_arena_Arena_Len #[.pointer p164] w152 fun e167 w166 => ∃ n165, e167 = .returned (.int .i64 n165) ∧
 w166.cell? (a142.add 1) = some (.int .i64 n162) ∧ bif (n162 != n165) then (
 sto a1 (.int .i64 0) w166 fun w168 =>
 sto (a1.add 1) (.slice none 0 0) w168 fun w169 =>
 sto (a1.add 2) (.slice none 0 0) w169 fun w170 =>
 sto (a1.add 3) (.slice none 0 0) w170 fun w171 =>
 ldI .i64 a1 w171 fun n172 =>
 ldS (a1.add 1) w171 fun s173b s173l s173c =>
 ldS (a1.add 2) w171 fun s174b s174l s174c =>
 ldS (a1.add 3) w171 fun s175b s175l s175c =>
 R (.tuple #[.agg #[.int .i64 n172, .slice s173b s173l s173c, .slice s174b s174l s174c, .slice s175b s175l s175c], .iface T_api_Errno (.int .i64 17)]) w171) else (
 pt p57 fun a176 =>
 ldI .i64 a176 w166 fun n177 =>
 ldS (a176.add 1) w166 fun s178b s178l s178c =>
 ldS (a176.add 2) w166 fun s179b s179l s179c =>
 ldS (a176.add 3) w166 fun s180b s180l s180c =>
 Calls Pg fn_model_Check #[.agg #[.int .i64 n177, .slice s178b s178l s178c, .slice s179b s179l s179c, .slice s180b s180l s180c]] w166 fun e183 w182 => ∃ v181, e183 = .returned v181 ∧
 isI v181 ∧ bif (!(nilI v181)) then (
 sto a1 (.int .i64 0) w182 fun w184 =>
 sto (a1.add 1) (.slice none 0 0) w184 fun w185 =>
 sto (a1.add 2) (.slice none 0 0) w185 fun w186 =>
 sto (a1.add 3) (.slice none 0 0) w186 fun w187 =>
 ldI .i64 a1 w187 fun n188 =>
 ldS (a1.add 1) w187 fun s189b s189l s189c =>
 ldS (a1.add 2) w187 fun s190b s190l s190c =>
 ldS (a1.add 3) w187 fun s191b s191l s191c =>
 R (.tuple #[.agg #[.int .i64 n188, .slice s189b s189l s189c, .slice s190b s190l s190c, .slice s191b s191l s191c], .iface T_api_Errno (.int .i64 17)]) w187) else (
 pt p57 fun a192 =>
 ldI .i64 a192 w182 fun n193 =>
 ldS (a192.add 1) w182 fun s194b s194l s194c =>
 ldS (a192.add 2) w182 fun s195b s195l s195c =>
 ldS (a192.add 3) w182 fun s196b s196l s196c =>
 sto a1 (.int .i64 n193) w182 fun w197 =>
 sto (a1.add 1) (.slice s194b s194l s194c) w197 fun w198 =>
 sto (a1.add 2) (.slice s195b s195l s195c) w198 fun w199 =>
 sto (a1.add 3) (.slice s196b s196l s196c) w199 fun w200 =>
 ldI .i64 a1 w200 fun n201 =>
 ldS (a1.add 1) w200 fun s202b s202l s202c =>
 ldS (a1.add 2) w200 fun s203b s203l s203c =>
 ldS (a1.add 3) w200 fun s204b s204l s204c =>
 R (.tuple #[.agg #[.int .i64 n201, .slice s202b s202l s202c, .slice s203b s203l s203c, .slice s204b s204l s204c], .nilIface]) w200)))))
theorem calls_load_State_Model (p0 : OA) : SH fn_load_State_Model [.pointer p0] (sh_load_State_Model p0) := cdnR Tryz.func5 (.s .L (.s (.s .L (.c (.s .L .L) .L)) (.s .L (.j [5] [.one .ptr] (.r (.t 0 4 (.tk 4 [5, 10, 11, 13] [5, 10, 13] (.t 6 3 (.tk 9 [10, 11, 13] [10, 13] (.two 5 (.two 10 (.t 11 1 (.one 12 (.one 13 .fin))) 12 (.one 10 (.t 11 1 (.one 13 .fin)))) 12 (.one 5 (.one 10 (.t 11 1 (.one 13 .fin)))))))))) (.s (.s .L (.b (.o [37] [.one (.int .i64)] (.s .L (.s (.c .L .L) (.s (.b (.s .L (.s .L (.s (.s .L (.c (.s .L (.s (.s .L (.c (.s .L .L) .L)) .L)) .L)) .L)))) .L)))))) (.s .L (.s (.s (.r (.t 0 1 (.tk 1 [7, 8, 9, 10, 11, 12, 13, 14, 15, 16, 17, 18, 19, 20, 21, 22] [15, 20] (.t 2 3 (.tk 5 [6, 7, 8, 9, 10, 11, 12, 13, 14, 15, 16, 17, 18, 19, 20, 21, 22] [6, 15, 20] (.one 6 (.t 7 3 (.tk 10 [16, 17, 18, 19, 20, 21, 22] [20] (.t 11 3 (.tk 14 [15, 16, 17, 18, 19, 20, 21, 22] [15, 20] (.one 15 (.t 16 3 (.tk 19 [20, 21, 22] [20] (.one 20 (.t 21 2 .fin))))))))))))))) (.c (.s .L .L) .L)) (.s .L .L)))))))) fun _ _ => by kernel_rfl

def sh_load_State_Dump (p0 : OA) (w : World) (R : RV) : Prop :=
  Calls Pg fn_load_State_Model #[.pointer p0] w fun e7 w6 => ∃ n1 s2b s2l s2c s3b s3l s3c s4b s4l s4c v5, e7 = .returned (.tuple #[.agg #[.int .i64 n1, .slice s2b s2l s2c, .slice s3b s3l s3c, .slice s4b s4l s4c], v5]) ∧
 alo #[.int .i64 0, .slice none 0 0, .slice none 0 0, .slice none 0 0] T_model_Model w6 fun a8 w9 =>
 sto a8 (.int .i64 n1) w9 fun w10 =>
 sto (a8.add 1) (.slice s2b s2l s2c) w10 fun w11 =>
 sto (a8.add 2) (.slice s3b s3l s3c) w11 fun w12 =>
 sto (a8.add 3) (.slice s4b s4l s4c) w12 fun w13 =>
 isI v5 ∧ bif (!(nilI v5)) then (
 R (.tuple #[.slice none 0 0, v5]) w13) else (
 ldI .i64 a8 w13 fun n14 =>
 ldS (a8.add 1) w13 fun s15b s15l s15c =>
 ldS (a8.add 2) w13 fun s16b s16l s16c =>
 ldS (a8.add 3) w13 fun s17b s17l s17c =>
 Calls Pg fn_model_Encode #[.agg #[.int .i64 n14, .slice s15b s15l s15c, .slice s16b s16l s16c, .slice s17b s17l s17c]] w13 fun e21 w20 => ∃ s18b s18l s18c v19, e21 = .returned (.tuple #[.slice s18b s18l s18c, v19]) ∧
 R (.tuple #[.slice s18b s18l s18c, v19]) w20)
theorem calls_load_State_Dump (p0 : OA) : SH fn_load_State_Dump [.pointer p0] (sh_load_State_Dump p0) := cdn Tryz.func6 (.s .L (.s .L (.s (.s .L (.c (.s .L .L) .L)) (.s .L .L)))) fun _ _ => by kernel_rfl

def sh_load_New (n0 : Int) (w : World) (R : RV) : Prop :=
  Calls Pg fn_arena_New #[.int .i64 n0] w fun e4 w3 => ∃ p1 v2, e4 = .returned (.tuple #[.pointer p1, v2]) ∧
 isI v2 ∧ bif (!(nilI v2)) then (
 R (.tuple #[.pointer none, v2]) w3) else (
 Calls Pg fn_arena_New #[.int .i64 n0] w3 fun e8 w7 => ∃ p5 v6, e8 = .returned (.tuple #[.pointer p5, v6]) ∧
 isI v6 ∧ bif (!(nilI v6)) then (
 R (.tuple #[.pointer none, v6]) w7) else (
 Calls Pg fn_core_New #[.int .i64 n0] w7 fun e12 w11 => ∃ p9 v10, e12 = .returned (.tuple #[.pointer p9, v10]) ∧
 isI v10 ∧ bif (!(nilI v10)) then (
 R (.tuple #[.pointer none, v10]) w11) else (
 alo #[.pointer p1, .pointer p5, .pointer p9] T_load_State w11 fun a13 w14 =>
 R (.tuple #[.pointer (some a13), .nilIface]) w14)))
theorem calls_load_New (n0 : Int) : SH fn_load_New [.int .i64 n0] (sh_load_New n0) := cdn Tryz.func8 (.s .L (.s .L (.s (.s .L (.c (.s .L .L) .L)) (.s .L (.s (.s .L (.c (.s .L .L) .L)) (.s .L (.s (.s .L (.c (.s .L .L) .L)) (.s .L .L)))))))) fun _ _ => by kernel_rfl

def sh_load_State_whole (p0 : OA) (w : World) (R : RV) : Prop :=
  bif (!(Option.isNone p0)) then (
 pt p0 fun a1 =>
 ldP a1 w fun p2 =>
 bif (!(Option.isNone p2)) then (
 pt p0 fun a3 =>
 ldP (a3.add 1) w fun p4 =>
 bif (!(Option.isNone p4)) then (
 pt p0 fun a5 =>
 ldP (a5.add 2) w fun p6 =>
 R (.bool (!(Option.isNone p6))) w) else (
 R (.bool false) w)) else (
 R (.bool false) w)) else (
 R (.bool false) w)
theorem calls_load_State_whole (p0 : OA) : SH fn_load_State_whole [.pointer p0] (sh_load_State_whole p0) := cdn Tryz.func17 (.s .L (.s .L .L)) fun _ _ => by kernel_rfl

end Go.Proofs.YtdamhidnlfjkdaaGreatDoor
