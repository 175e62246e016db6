/-
What a function does, as one formula, printed by a program of this session out of the translation; the kernel holds the print against the translation.
Conditions: none.
-/
import Derived.Test.YtpmicakdjhoafaaGreatDoorSn
set_option linter.unusedVariables false
namespace Go.Proofs.YtpmicakdjhoafaaGreatDoor
open Go
set_option maxRecDepth 100000
def Qiv (n0:Int) (s1b:OA) (s1l s1c:Nat) (n2 n3 n4 n5 n6 n7 n8:Int) (w:World) (R:RV):Prop:=
 alo #[.int .i64 n2,.int .i64 n3,.int .i64 n4,.int .i64 n5,.int .i64 n6,.int .i64 n7,.int .i32 n8] Qfi w fun a9 w10=>
 (9:Int)≠0∧Calls Pg Qkt #[.int .i64 (IntKind.wrap .i64 (2+(IntKind.wrap .i64 (Int.tmod (IntKind.wrap .u64 n0) (9:Int)))))] w10 fun e14 w13=>∃p11 v12,e14=.returned (.tuple #[.pointer p11,v12])∧
 ∃J15:JP,(
 isI v12∧bif (!(nilI v12)) then (
 R (.bool false) w13) else (
 bif (Option.isNone p11) then (
 R (.bool false) w13) else (
 J15 [] w13)))∧∀_:Env,∀w16,J15 [] w16→
 Calls Pg Qgs #[.int .i64 (IntKind.wrap .i64 ((IntKind.wrap .i64 (2+(IntKind.wrap .i64 (Int.tmod (IntKind.wrap .u64 n0) (9:Int)))))-1))] w16 fun e23 w22=>∃n17 s18b s18l s18c n19 s20b s20l s20c s21b s21l s21c,e23=.returned (.agg #[.int .i64 n17,.slice s18b s18l s18c,.int .i64 n19,.slice s20b s20l s20c,.slice s21b s21l s21c])∧
 alo #[.int .i64 0,.slice none 0 0,.int .i64 0,.slice none 0 0,.slice none 0 0] Qal w22 fun a24 w25=>
 sts a24 0 [.int .i64 n17,.slice s18b s18l s18c,.int .i64 n19,.slice s20b s20l s20c,.slice s21b s21l s21c] w25 fun w26=>
 ∃J27:JP,(
 ∃(I28:JP) (m29:JN),I28 [.int .i64 0] w26∧
 ∀_:Env,∀n30 w31,I28 [.int .i64 n30] w31→
 ∃J32:JP,(
 bif (decide (n30<(s1l:Int))) then (
 bif (decide (n30<40)) then (
 J32 [] w31) else (
 J27 [] w31)) else (
 J27 [] w31))∧∀_:Env,∀w33,J32 [] w33→
 ixS s1b s1l n30 7 fun a34=>
 ldI .i64 (a34.add 1) w33 fun n35=>
 bif (decide (n35 ≥ 0)) then (
 ixS s1b s1l n30 7 fun a36=>
 ldI .i64 (a36.add 1) w33 fun n37=>
 bif (decide (n37<(IntKind.wrap .i64 ((IntKind.wrap .i64 (2+(IntKind.wrap .i64 (Int.tmod (IntKind.wrap .u64 n0) (9:Int)))))-1)))) then (
 Qaa a24 w33.drew fun n38 s39b s39l s39c n40 s41b s41l s41c s42b s42l s42c=>
 ixS s1b s1l n30 7 fun a43=>
 Qi8 a43 w33.drew fun n44 n45 n46 n47 n48 n49 n50=>
 Calls Pg Qff #[.pointer p11,.agg #[.int .i64 n38,.slice s39b s39l s39c,.int .i64 n40,.slice s41b s41l s41c,.slice s42b s42l s42c],.agg #[.int .i64 n44,.int .i64 n45,.int .i64 n46,.int .i64 n47,.int .i64 n48,.int .i64 n49,.int .i32 n50]] w33.drew fun e58 w57=>∃n51 s52b s52l s52c n53 s54b s54l s54c s55b s55l s55c b56,e58=.returned (.tuple #[.agg #[.int .i64 n51,.slice s52b s52l s52c,.int .i64 n53,.slice s54b s54l s54c,.slice s55b s55l s55c],.bool b56])∧
 sts a24 0 [.int .i64 n51,.slice s52b s52l s52c,.int .i64 n53,.slice s54b s54l s54c,.slice s55b s55l s55c] w57 fun w59=>
 (I28 [.int .i64 (IntKind.wrap .i64 (n30+1))] w59∧m29 [.int .i64 (IntKind.wrap .i64 (n30+1))] w59<m29 [.int .i64 n30] w31)) else (
 (I28 [.int .i64 (IntKind.wrap .i64 (n30+1))] w33∧m29 [.int .i64 (IntKind.wrap .i64 (n30+1))] w33<m29 [.int .i64 n30] w31))) else (
 (I28 [.int .i64 (IntKind.wrap .i64 (n30+1))] w33∧m29 [.int .i64 (IntKind.wrap .i64 (n30+1))] w33<m29 [.int .i64 n30] w31)))∧∀_:Env,∀w60,J27 [] w60→
 ∃J61:JP,(
 Qaa a24 w60.drew fun n62 s63b s63l s63c n64 s65b s65l s65c s66b s66l s66c=>
 ldI .i64 (a9.add 2) w60.drew fun n67=>
 ldI .i64 ((a9.add 2).add 1) w60.drew fun n68=>
 Qaa a24 w60.drew fun n69 s70b s70l s70c n71 s72b s72l s72c s73b s73l s73c=>
 ldI .i64 (a9.add 4) w60.drew fun n74=>
 ldI .i64 ((a9.add 4).add 1) w60.drew fun n75=>
 (Calls Pg Qai #[.agg #[.int .i64 n62,.slice s63b s63l s63c,.int .i64 n64,.slice s65b s65l s65c,.slice s66b s66l s66c],.agg #[.int .i64 n67,.int .i64 n68],.bool false] w60.drew fun e79 w78=>∃n76 n77,e79=.returned (.agg #[.int .i64 n76,.int .i64 n77])∧
 w78.cell? (a9.add 4)=some (.int .i64 n74)∧w78.cell? ((a9.add 4).add 1)=some (.int .i64 n75)∧kps w78 a24 0 [.int .i64 n69,.slice s70b s70l s70c,.int .i64 n71,.slice s72b s72l s72c,.slice s73b s73l s73c] (
 (Calls Pg Qai #[.agg #[.int .i64 n69,.slice s70b s70l s70c,.int .i64 n71,.slice s72b s72l s72c,.slice s73b s73l s73c],.agg #[.int .i64 n74,.int .i64 n75],.bool false] w78 fun e83 w82=>∃n80 n81,e83=.returned (.agg #[.int .i64 n80,.int .i64 n81])∧
 (alo #[.int .i64 0,.int .i64 0] Qat w82 fun a84 w85=>
 alo #[.int .i64 0,.int .i64 0] Qat w85 fun a86 w87=>
 sto a84 (.int .i64 n76) w87 fun w88=>
 sto (a84.add 1) (.int .i64 n77) w88 fun w89=>
 sto a86 (.int .i64 n80) w89 fun w90=>
 sto (a86.add 1) (.int .i64 n81) w90 fun w91=>
 J61 [.pointer (some a84),.pointer (some a86)] w91)∧(
 alo #[.int .i64 0,.int .i64 0] Qat w82 fun a92 w93=>
 alo #[.int .i64 0,.int .i64 0] Qat w93 fun a94 w95=>
 sto a94 (.int .i64 n76) w95 fun w96=>
 sto (a94.add 1) (.int .i64 n77) w96 fun w97=>
 sto a92 (.int .i64 n80) w97 fun w98=>
 sto (a92.add 1) (.int .i64 n81) w98 fun w99=>
 J61 [.pointer (some a94),.pointer (some a92)] w99))∧(
 alo #[.int .i64 0,.int .i64 0] Qat w78 fun a100 w101=>
 w101.cell? (a9.add 4)=some (.int .i64 n74)∧w101.cell? ((a9.add 4).add 1)=some (.int .i64 n75)∧kps w101 a24 0 [.int .i64 n69,.slice s70b s70l s70c,.int .i64 n71,.slice s72b s72l s72c,.slice s73b s73l s73c] (
 (Calls Pg Qai #[.agg #[.int .i64 n69,.slice s70b s70l s70c,.int .i64 n71,.slice s72b s72l s72c,.slice s73b s73l s73c],.agg #[.int .i64 n74,.int .i64 n75],.bool false] w101 fun e105 w104=>∃n102 n103,e105=.returned (.agg #[.int .i64 n102,.int .i64 n103])∧
 alo #[.int .i64 0,.int .i64 0] Qat w104 fun a106 w107=>
 sto a100 (.int .i64 n76) w107 fun w108=>
 sto (a100.add 1) (.int .i64 n77) w108 fun w109=>
 sto a106 (.int .i64 n102) w109 fun w110=>
 sto (a106.add 1) (.int .i64 n103) w110 fun w111=>
 J61 [.pointer (some a100),.pointer (some a106)] w111)∧(
 alo #[.int .i64 0,.int .i64 0] Qat w101 fun a112 w113=>
 w113.cell? (a9.add 4)=some (.int .i64 n74)∧w113.cell? ((a9.add 4).add 1)=some (.int .i64 n75)∧kps w113 a24 0 [.int .i64 n69,.slice s70b s70l s70c,.int .i64 n71,.slice s72b s72l s72c,.slice s73b s73l s73c] (
 Calls Pg Qai #[.agg #[.int .i64 n69,.slice s70b s70l s70c,.int .i64 n71,.slice s72b s72l s72c,.slice s73b s73l s73c],.agg #[.int .i64 n74,.int .i64 n75],.bool false] w113 fun e117 w116=>∃n114 n115,e117=.returned (.agg #[.int .i64 n114,.int .i64 n115])∧
 sto a100 (.int .i64 n76) w116 fun w118=>
 sto (a100.add 1) (.int .i64 n77) w118 fun w119=>
 sto a112 (.int .i64 n114) w119 fun w120=>
 sto (a112.add 1) (.int .i64 n115) w120 fun w121=>
 J61 [.pointer (some a100),.pointer (some a112)] w121))))∧(
 alo #[.int .i64 0,.int .i64 0] Qat w78 fun a122 w123=>
 w123.cell? (a9.add 4)=some (.int .i64 n74)∧w123.cell? ((a9.add 4).add 1)=some (.int .i64 n75)∧kps w123 a24 0 [.int .i64 n69,.slice s70b s70l s70c,.int .i64 n71,.slice s72b s72l s72c,.slice s73b s73l s73c] (
 (Calls Pg Qai #[.agg #[.int .i64 n69,.slice s70b s70l s70c,.int .i64 n71,.slice s72b s72l s72c,.slice s73b s73l s73c],.agg #[.int .i64 n74,.int .i64 n75],.bool false] w123 fun e127 w126=>∃n124 n125,e127=.returned (.agg #[.int .i64 n124,.int .i64 n125])∧
 alo #[.int .i64 0,.int .i64 0] Qat w126 fun a128 w129=>
 sto a128 (.int .i64 n76) w129 fun w130=>
 sto (a128.add 1) (.int .i64 n77) w130 fun w131=>
 sto a122 (.int .i64 n124) w131 fun w132=>
 sto (a122.add 1) (.int .i64 n125) w132 fun w133=>
 J61 [.pointer (some a128),.pointer (some a122)] w133)∧(
 alo #[.int .i64 0,.int .i64 0] Qat w123 fun a134 w135=>
 w135.cell? (a9.add 4)=some (.int .i64 n74)∧w135.cell? ((a9.add 4).add 1)=some (.int .i64 n75)∧kps w135 a24 0 [.int .i64 n69,.slice s70b s70l s70c,.int .i64 n71,.slice s72b s72l s72c,.slice s73b s73l s73c] (
 Calls Pg Qai #[.agg #[.int .i64 n69,.slice s70b s70l s70c,.int .i64 n71,.slice s72b s72l s72c,.slice s73b s73l s73c],.agg #[.int .i64 n74,.int .i64 n75],.bool false] w135 fun e139 w138=>∃n136 n137,e139=.returned (.agg #[.int .i64 n136,.int .i64 n137])∧
 sto a134 (.int .i64 n76) w138 fun w140=>
 sto (a134.add 1) (.int .i64 n77) w140 fun w141=>
 sto a122 (.int .i64 n136) w141 fun w142=>
 sto (a122.add 1) (.int .i64 n137) w142 fun w143=>
 J61 [.pointer (some a134),.pointer (some a122)] w143))))))∧(
 alo #[.int .i64 0,.int .i64 0] Qat w60.drew fun a144 w145=>
 w145.cell? (a9.add 4)=some (.int .i64 n74)∧w145.cell? ((a9.add 4).add 1)=some (.int .i64 n75)∧kps w145 a24 0 [.int .i64 n69,.slice s70b s70l s70c,.int .i64 n71,.slice s72b s72l s72c,.slice s73b s73l s73c] (
 w145.cell? (a9.add 2)=some (.int .i64 n67)∧w145.cell? ((a9.add 2).add 1)=some (.int .i64 n68)∧kps w145 a24 0 [.int .i64 n62,.slice s63b s63l s63c,.int .i64 n64,.slice s65b s65l s65c,.slice s66b s66l s66c] (
 (Calls Pg Qai #[.agg #[.int .i64 n62,.slice s63b s63l s63c,.int .i64 n64,.slice s65b s65l s65c,.slice s66b s66l s66c],.agg #[.int .i64 n67,.int .i64 n68],.bool false] w145 fun e149 w148=>∃n146 n147,e149=.returned (.agg #[.int .i64 n146,.int .i64 n147])∧
 w148.cell? (a9.add 4)=some (.int .i64 n74)∧w148.cell? ((a9.add 4).add 1)=some (.int .i64 n75)∧kps w148 a24 0 [.int .i64 n69,.slice s70b s70l s70c,.int .i64 n71,.slice s72b s72l s72c,.slice s73b s73l s73c] (
 (Calls Pg Qai #[.agg #[.int .i64 n69,.slice s70b s70l s70c,.int .i64 n71,.slice s72b s72l s72c,.slice s73b s73l s73c],.agg #[.int .i64 n74,.int .i64 n75],.bool false] w148 fun e153 w152=>∃n150 n151,e153=.returned (.agg #[.int .i64 n150,.int .i64 n151])∧
 alo #[.int .i64 0,.int .i64 0] Qat w152 fun a154 w155=>
 sto a144 (.int .i64 n146) w155 fun w156=>
 sto (a144.add 1) (.int .i64 n147) w156 fun w157=>
 sto a154 (.int .i64 n150) w157 fun w158=>
 sto (a154.add 1) (.int .i64 n151) w158 fun w159=>
 J61 [.pointer (some a144),.pointer (some a154)] w159)∧(
 alo #[.int .i64 0,.int .i64 0] Qat w148 fun a160 w161=>
 w161.cell? (a9.add 4)=some (.int .i64 n74)∧w161.cell? ((a9.add 4).add 1)=some (.int .i64 n75)∧kps w161 a24 0 [.int .i64 n69,.slice s70b s70l s70c,.int .i64 n71,.slice s72b s72l s72c,.slice s73b s73l s73c] (
 Calls Pg Qai #[.agg #[.int .i64 n69,.slice s70b s70l s70c,.int .i64 n71,.slice s72b s72l s72c,.slice s73b s73l s73c],.agg #[.int .i64 n74,.int .i64 n75],.bool false] w161 fun e165 w164=>∃n162 n163,e165=.returned (.agg #[.int .i64 n162,.int .i64 n163])∧
 sto a144 (.int .i64 n146) w164 fun w166=>
 sto (a144.add 1) (.int .i64 n147) w166 fun w167=>
 sto a160 (.int .i64 n162) w167 fun w168=>
 sto (a160.add 1) (.int .i64 n163) w168 fun w169=>
 J61 [.pointer (some a144),.pointer (some a160)] w169))))∧(
 alo #[.int .i64 0,.int .i64 0] Qat w145 fun a170 w171=>
 w171.cell? (a9.add 4)=some (.int .i64 n74)∧w171.cell? ((a9.add 4).add 1)=some (.int .i64 n75)∧kps w171 a24 0 [.int .i64 n69,.slice s70b s70l s70c,.int .i64 n71,.slice s72b s72l s72c,.slice s73b s73l s73c] (
 w171.cell? (a9.add 2)=some (.int .i64 n67)∧w171.cell? ((a9.add 2).add 1)=some (.int .i64 n68)∧kps w171 a24 0 [.int .i64 n62,.slice s63b s63l s63c,.int .i64 n64,.slice s65b s65l s65c,.slice s66b s66l s66c] (
 Calls Pg Qai #[.agg #[.int .i64 n62,.slice s63b s63l s63c,.int .i64 n64,.slice s65b s65l s65c,.slice s66b s66l s66c],.agg #[.int .i64 n67,.int .i64 n68],.bool false] w171 fun e175 w174=>∃n172 n173,e175=.returned (.agg #[.int .i64 n172,.int .i64 n173])∧
 w174.cell? (a9.add 4)=some (.int .i64 n74)∧w174.cell? ((a9.add 4).add 1)=some (.int .i64 n75)∧kps w174 a24 0 [.int .i64 n69,.slice s70b s70l s70c,.int .i64 n71,.slice s72b s72l s72c,.slice s73b s73l s73c] (
 Calls Pg Qai #[.agg #[.int .i64 n69,.slice s70b s70l s70c,.int .i64 n71,.slice s72b s72l s72c,.slice s73b s73l s73c],.agg #[.int .i64 n74,.int .i64 n75],.bool false] w174 fun e179 w178=>∃n176 n177,e179=.returned (.agg #[.int .i64 n176,.int .i64 n177])∧
 sto a144 (.int .i64 n172) w178 fun w180=>
 sto (a144.add 1) (.int .i64 n173) w180 fun w181=>
 sto a170 (.int .i64 n176) w181 fun w182=>
 sto (a170.add 1) (.int .i64 n177) w182 fun w183=>
 J61 [.pointer (some a144),.pointer (some a170)] w183)))))))∧(
 alo #[.int .i64 0,.int .i64 0] Qat w60.drew fun a184 w185=>
 w185.cell? (a9.add 4)=some (.int .i64 n74)∧w185.cell? ((a9.add 4).add 1)=some (.int .i64 n75)∧kps w185 a24 0 [.int .i64 n69,.slice s70b s70l s70c,.int .i64 n71,.slice s72b s72l s72c,.slice s73b s73l s73c] (
 w185.cell? (a9.add 2)=some (.int .i64 n67)∧w185.cell? ((a9.add 2).add 1)=some (.int .i64 n68)∧kps w185 a24 0 [.int .i64 n62,.slice s63b s63l s63c,.int .i64 n64,.slice s65b s65l s65c,.slice s66b s66l s66c] (
 (Calls Pg Qai #[.agg #[.int .i64 n62,.slice s63b s63l s63c,.int .i64 n64,.slice s65b s65l s65c,.slice s66b s66l s66c],.agg #[.int .i64 n67,.int .i64 n68],.bool false] w185 fun e189 w188=>∃n186 n187,e189=.returned (.agg #[.int .i64 n186,.int .i64 n187])∧
 w188.cell? (a9.add 4)=some (.int .i64 n74)∧w188.cell? ((a9.add 4).add 1)=some (.int .i64 n75)∧kps w188 a24 0 [.int .i64 n69,.slice s70b s70l s70c,.int .i64 n71,.slice s72b s72l s72c,.slice s73b s73l s73c] (
 (Calls Pg Qai #[.agg #[.int .i64 n69,.slice s70b s70l s70c,.int .i64 n71,.slice s72b s72l s72c,.slice s73b s73l s73c],.agg #[.int .i64 n74,.int .i64 n75],.bool false] w188 fun e193 w192=>∃n190 n191,e193=.returned (.agg #[.int .i64 n190,.int .i64 n191])∧
 alo #[.int .i64 0,.int .i64 0] Qat w192 fun a194 w195=>
 sto a194 (.int .i64 n186) w195 fun w196=>
 sto (a194.add 1) (.int .i64 n187) w196 fun w197=>
 sto a184 (.int .i64 n190) w197 fun w198=>
 sto (a184.add 1) (.int .i64 n191) w198 fun w199=>
 J61 [.pointer (some a194),.pointer (some a184)] w199)∧(
 alo #[.int .i64 0,.int .i64 0] Qat w188 fun a200 w201=>
 w201.cell? (a9.add 4)=some (.int .i64 n74)∧w201.cell? ((a9.add 4).add 1)=some (.int .i64 n75)∧kps w201 a24 0 [.int .i64 n69,.slice s70b s70l s70c,.int .i64 n71,.slice s72b s72l s72c,.slice s73b s73l s73c] (
 Calls Pg Qai #[.agg #[.int .i64 n69,.slice s70b s70l s70c,.int .i64 n71,.slice s72b s72l s72c,.slice s73b s73l s73c],.agg #[.int .i64 n74,.int .i64 n75],.bool false] w201 fun e205 w204=>∃n202 n203,e205=.returned (.agg #[.int .i64 n202,.int .i64 n203])∧
 sto a200 (.int .i64 n186) w204 fun w206=>
 sto (a200.add 1) (.int .i64 n187) w206 fun w207=>
 sto a184 (.int .i64 n202) w207 fun w208=>
 sto (a184.add 1) (.int .i64 n203) w208 fun w209=>
 J61 [.pointer (some a200),.pointer (some a184)] w209))))∧(
 alo #[.int .i64 0,.int .i64 0] Qat w185 fun a210 w211=>
 w211.cell? (a9.add 4)=some (.int .i64 n74)∧w211.cell? ((a9.add 4).add 1)=some (.int .i64 n75)∧kps w211 a24 0 [.int .i64 n69,.slice s70b s70l s70c,.int .i64 n71,.slice s72b s72l s72c,.slice s73b s73l s73c] (
 w211.cell? (a9.add 2)=some (.int .i64 n67)∧w211.cell? ((a9.add 2).add 1)=some (.int .i64 n68)∧kps w211 a24 0 [.int .i64 n62,.slice s63b s63l s63c,.int .i64 n64,.slice s65b s65l s65c,.slice s66b s66l s66c] (
 Calls Pg Qai #[.agg #[.int .i64 n62,.slice s63b s63l s63c,.int .i64 n64,.slice s65b s65l s65c,.slice s66b s66l s66c],.agg #[.int .i64 n67,.int .i64 n68],.bool false] w211 fun e215 w214=>∃n212 n213,e215=.returned (.agg #[.int .i64 n212,.int .i64 n213])∧
 w214.cell? (a9.add 4)=some (.int .i64 n74)∧w214.cell? ((a9.add 4).add 1)=some (.int .i64 n75)∧kps w214 a24 0 [.int .i64 n69,.slice s70b s70l s70c,.int .i64 n71,.slice s72b s72l s72c,.slice s73b s73l s73c] (
 Calls Pg Qai #[.agg #[.int .i64 n69,.slice s70b s70l s70c,.int .i64 n71,.slice s72b s72l s72c,.slice s73b s73l s73c],.agg #[.int .i64 n74,.int .i64 n75],.bool false] w214 fun e219 w218=>∃n216 n217,e219=.returned (.agg #[.int .i64 n216,.int .i64 n217])∧
 sto a210 (.int .i64 n212) w218 fun w220=>
 sto (a210.add 1) (.int .i64 n213) w220 fun w221=>
 sto a184 (.int .i64 n216) w221 fun w222=>
 sto (a184.add 1) (.int .i64 n217) w222 fun w223=>
 J61 [.pointer (some a210),.pointer (some a184)] w223))))))))∧∀_:Env,∀p224 p225 w226,J61 [.pointer p224,.pointer p225] w226→
 Calls Pg Qe1 #[.pointer p11] w226 fun e229 w228=>∃n227,e229=.returned (.int .i64 n227)∧
 Calls Pg Qee #[.pointer p11] w228 fun e235 w234=>∃n230 n231 n232 n233,e235=.returned (.agg #[.int .i64 n230,.int .i64 n231,.int .i64 n232,.int .i64 n233])∧
 alo #[.int .i64 0,.int .i64 0,.int .i64 0,.int .i64 0] Qa8 w234 fun a236 w237=>
 sto a236 (.int .i64 n230) w237 fun w238=>
 sto (a236.add 1) (.int .i64 n231) w238 fun w239=>
 sto (a236.add 2) (.int .i64 n232) w239 fun w240=>
 sto (a236.add 3) (.int .i64 n233) w240 fun w241=>
 ∃(I242:JP) (m243:JN),I242 [.slice none 0 0,.slice none 0 0,.int .i64 0] w241∧
 ∀_:Env,∀s244b s244l s244c s245b s245l s245c n246 w247,I242 [.slice s244b s244l s244c,.slice s245b s245l s245c,.int .i64 n246] w247→
 bif (decide (n246<(IntKind.wrap .i64 ((IntKind.wrap .i64 (2*(IntKind.wrap .i64 (2+(IntKind.wrap .i64 (Int.tmod (IntKind.wrap .u64 n0) (9:Int)))))))-2)))) then (
 Calls Pg Qhe #[.pointer p11,.int .i64 n246] w247 fun e251 w250=>∃s248b s248l s248c v249,e251=.returned (.tuple #[.slice s248b s248l s248c,v249])∧
 (2:Int)≠0∧Calls Pg Qed #[.pointer p11,.int .i64 (IntKind.wrap .i64 (Int.tdiv n246 (2:Int)))] w250 fun e255 w254=>∃b252 v253,e255=.returned (.tuple #[.bool b252,v253])∧
 alo #[.slice s248b s248l s248c] Qam w254 fun a256 w257=>
 ∃s258b s258l s258c w259,(Builtin.append_ #[Qbp,Qbp] Qbp #[.slice s244b s244l s244c,.slice (some a256) 1 1]).run Pg w257=.ok (.slice s258b s258l s258c) w259∧
 alo #[.bool b252] Qna w259 fun a260 w261=>
 ∃s262b s262l s262c w263,(Builtin.append_ #[Qjs,Qjs] Qjs #[.slice s245b s245l s245c,.slice (some a260) 1 1]).run Pg w261=.ok (.slice s262b s262l s262c) w263∧
 (I242 [.slice s258b s258l s258c,.slice s262b s262l s262c,.int .i64 (IntKind.wrap .i64 (n246+1))] w263∧m243 [.slice s258b s258l s258c,.slice s262b s262l s262c,.int .i64 (IntKind.wrap .i64 (n246+1))] w263<m243 [.slice s244b s244l s244c,.slice s245b s245l s245c,.int .i64 n246] w247)) else (
 ∃J264:JP,(
 pt p224 fun a265=>
 ixA a265 2 (0:Int) 1 fun a266=>
 ldI .i64 a266 w247 fun n267=>
 pt p224 fun a268=>
 ixA a268 2 (1:Int) 1 fun a269=>
 ldI .i64 a269 w247 fun n270=>
 pt p225 fun a271=>
 ixA a271 2 (0:Int) 1 fun a272=>
 ldI .i64 a272 w247 fun n273=>
 pt p225 fun a274=>
 ixA a274 2 (1:Int) 1 fun a275=>
 ldI .i64 a275 w247 fun n276=>
 ldI .i32 (a9.add 6) w247 fun n277=>
 Calls Pg Qcq #[.pointer p11,.int .i64 (IntKind.wrap .i64 ((IntKind.wrap .i64 (2+(IntKind.wrap .i64 (Int.tmod (IntKind.wrap .u64 n0) (9:Int)))))-1)),.agg #[.int .i64 n267,.int .i64 n270],.agg #[.int .i64 n273,.int .i64 n276],.int .i32 n277] w247 fun e280 w279=>∃v278,e280=.returned v278∧
 isI v278∧bif (nilI v278) then (
 Calls Pg Qfh #[.pointer p11,.int .i64 (IntKind.wrap .i64 ((IntKind.wrap .i64 (2+(IntKind.wrap .i64 (Int.tmod (IntKind.wrap .u64 n0) (9:Int)))))-1))] w279 fun e283 w282=>∃v281,e283=.returned v281∧
 isI v281∧bif (!(nilI v281)) then (
 R (.bool false) w282) else (
 J264 [] w282)) else (
 J264 [] w279))∧∀_:Env,∀w284,J264 [] w284→
 ldI .i64 (a9.add 1) w284 fun n285=>
 Calls Pg Qim #[.pointer p11,.int .i64 n285] w284 fun e289 w288=>∃n286 v287,e289=.returned (.tuple #[.int .i32 n286,v287])∧
 ∃J290:JP,(
 isI v287∧bif (nilI v287) then (
 ldI .i64 (a9.add 1) w288 fun n291=>
 ldI .i32 (a9.add 6) w288 fun n292=>
 Calls Pg Qe0 #[.pointer p11,.int .i64 n291,.int .i32 n292] w288 fun e295 w294=>∃v293,e295=.returned v293∧
 isI v293∧bif (!(nilI v293)) then (
 R (.bool false) w294) else (
 ldI .i64 (a9.add 1) w294 fun n296=>
 Calls Pg Qe0 #[.pointer p11,.int .i64 n296,.int .i32 n286] w294 fun e299 w298=>∃v297,e299=.returned v297∧
 isI v297∧bif (!(nilI v297)) then (
 R (.bool false) w298) else (
 J290 [] w298))) else (
 J290 [] w288))∧∀_:Env,∀w300,J290 [] w300→
 ∃(I301:JP) (m302:JN),I301 [.int .i64 0] w300∧
 ∀_:Env,∀n303 w304,I301 [.int .i64 n303] w304→
 bif (decide (n303<(IntKind.wrap .i64 ((IntKind.wrap .i64 (2*(IntKind.wrap .i64 (2+(IntKind.wrap .i64 (Int.tmod (IntKind.wrap .u64 n0) (9:Int)))))))-2)))) then (
 Calls Pg Qhe #[.pointer p11,.int .i64 n303] w304 fun e308 w307=>∃s305b s305l s305c v306,e308=.returned (.tuple #[.slice s305b s305l s305c,v306])∧
 (2:Int)≠0∧Calls Pg Qed #[.pointer p11,.int .i64 (IntKind.wrap .i64 (Int.tdiv n303 (2:Int)))] w307 fun e312 w311=>∃b309 v310,e312=.returned (.tuple #[.bool b309,v310])∧
 ixS s244b s244l n303 1 fun a313=>
 ldS a313 w311 fun s314b s314l s314c=>
 Calls Pg Qij #[.slice s305b s305l s305c,.slice s314b s314l s314c] w311 fun e317 w316=>∃b315,e317=.returned (.bool b315)∧
 bif (!b315) then (
 R (.bool false) w316) else (
 ixS s245b s245l n303 1 fun a318=>
 ldB a318 w316 fun b319=>
 bif (!(b309==b319)) then (
 R (.bool false) w316) else (
 (I301 [.int .i64 (IntKind.wrap .i64 (n303+1))] w316∧m302 [.int .i64 (IntKind.wrap .i64 (n303+1))] w316<m302 [.int .i64 n303] w304)))) else (
 Calls Pg Qe1 #[.pointer p11] w304.drew fun e322 w321=>∃n320,e322=.returned (.int .i64 n320)∧
 bif (n320==n227) then (
 ldI .i64 a236 w321 fun n323=>
 ldI .i64 (a236.add 1) w321 fun n324=>
 ldI .i64 (a236.add 2) w321 fun n325=>
 ldI .i64 (a236.add 3) w321 fun n326=>
 Calls Pg Qee #[.pointer p11] w321 fun e332 w331=>∃n327 n328 n329 n330,e332=.returned (.agg #[.int .i64 n327,.int .i64 n328,.int .i64 n329,.int .i64 n330])∧
 w331.cell? a236=some (.int .i64 n323)∧w331.cell? (a236.add 1)=some (.int .i64 n324)∧w331.cell? (a236.add 2)=some (.int .i64 n325)∧w331.cell? (a236.add 3)=some (.int .i64 n326)∧∃b333 w334,(do eqGuard .eql Qa8 (.tmp 214) (.tmp 215) (.agg #[.int .i64 n327,.int .i64 n328,.int .i64 n329,.int .i64 n330]) (.agg #[.int .i64 n323,.int .i64 n324,.int .i64 n325,.int .i64 n326]);binOp .eql Qa8 (.agg #[.int .i64 n327,.int .i64 n328,.int .i64 n329,.int .i64 n330]) (.agg #[.int .i64 n323,.int .i64 n324,.int .i64 n325,.int .i64 n326]):Sem Value).run Pg w331=.ok (.bool b333) w334∧
 bif b333 then (
 Calls Pg Qii #[] w334 fun e337 w336=>∃b335,e337=.returned (.bool b335)∧
 R (.bool b335) w336) else (
 R (.bool false) w334)) else (
 R (.bool false) w321)))
theorem Qml (n0:Int) (s1b:OA) (s1l s1c:Nat) (n2 n3 n4 n5 n6 n7 n8:Int):SH Qix [.int .i64 n0,.slice s1b s1l s1c,.agg #[.int .i64 n2,.int .i64 n3,.int .i64 n4,.int .i64 n5,.int .i64 n6,.int .i64 n7,.int .i32 n8]] (Qiv n0 s1b s1l s1c n2 n3 n4 n5 n6 n7 n8):=cdn Tryz.func6 (.s .L (.s .L (.s .L (.j [] [] (.s .L (.c (.s .L .L) .L)) (.s .L (.j [] [] (.s .L (.b (.o [11] [.one (.int .i64)] (.j [] [] (.s .L (.c .L .L)) (.s (.b (.s .L (.c (.r (.t 0 1 (.tk 1 [6,7,8,9,10] [6,10] (.t 2 3 (.tk 5 [6,7,8,9,10] [6,10] (.one 6 (.t 7 3 (.one 10 .fin)))))))) .L))) .L))))) (.j [12,13] [.one .ptr,.one .ptr] (.r (.tk 0 [3,7,10,11] [3,7,10,11] (.t 1 1 (.tk 2 [3,7,10,11] [3,7,10,11] (.tk 4 [7,10,11] [7,10,11] (.t 5 1 (.tk 6 [7,10,11] [7,10,11] (.thr 3 (.thr 7 (.two 8 (.one 9 (.one 10 (.one 11 .fin))) 9 (.one 8 (.one 10 (.one 11 .fin)))) 8 (.two 7 (.one 9 (.one 10 (.one 11 .fin))) 9 (.one 7 (.one 10 (.one 11 .fin)))) 9 (.two 7 (.one 8 (.one 10 (.one 11 .fin))) 8 (.one 7 (.one 10 (.one 11 .fin))))) 8 (.two 3 (.two 7 (.one 9 (.one 10 (.one 11 .fin))) 9 (.one 7 (.one 10 (.one 11 .fin)))) 9 (.one 3 (.one 7 (.one 10 (.one 11 .fin))))) 9 (.two 3 (.two 7 (.one 8 (.one 10 (.one 11 .fin))) 8 (.one 7 (.one 10 (.one 11 .fin)))) 8 (.one 3 (.one 7 (.one 10 (.one 11 .fin))))))))))))) (.s .L (.s .L (.s .L (.s (.s .L (.b (.o [16,17,18] [.one .slc,.one .slc,.one (.int .i64)] (.s (.s .L (.c .L .L)) (.s (.b (.s .L (.s .L .L))) .L))))) (.j [] [] (.s .L (.c (.s .L (.c (.s .L .L) .L)) .L)) (.s .L (.j [] [] (.s .L (.c (.s .L .L) .L)) (.s (.s .L (.b (.o [25] [.one (.int .i64)] (.s (.s .L (.c .L .L)) (.s (.b (.s .L (.s .L (.s .L (.c (.s .L .L) .L))))) .L))))) (.s (.r (.t 0 1 (.t 2 1 (.one 1 (.t 3 3 (.tk 7 [8,9,10,11,12,13] [8,11] (.one 6 (.one 8 (.t 9 2 (.one 11 (.t 12 2 .fin))))))))))) .L)))))))))))))))) fun _ _=>by kernel_rfl
end Go.Proofs.YtpmicakdjhoafaaGreatDoor
