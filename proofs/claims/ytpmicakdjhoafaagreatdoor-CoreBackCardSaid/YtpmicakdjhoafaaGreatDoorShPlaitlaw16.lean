/-
What each function does, as one formula, printed by a program of this session out of the translation; the kernel holds each print against the translation.
Conditions: none.
-/
import Derived.Test.YtpmicakdjhoafaaGreatDoorSn
set_option linter.unusedVariables false
namespace Go.Proofs.YtpmicakdjhoafaaGreatDoor
open Go
set_option maxRecDepth 100000
def Qjv (p0:OA) (n1:Int) (s2b:OA) (s2l s2c:Nat) (n3:Int) (s4b:OA) (s4l s4c:Nat) (s5b:OA) (s5l s5c:Nat) (n6 n7 n8 n9 n10 n11 n12:Int) (w:World) (R:RV):Prop:=
 alo #[.int .i64 n1,.slice s2b s2l s2c,.int .i64 n3,.slice s4b s4l s4c,.slice s5b s5l s5c] Qal w fun a13 w14=>
 alo #[.int .i64 n6,.int .i64 n7,.int .i64 n8,.int .i64 n9,.int .i64 n10,.int .i64 n11,.int .i32 n12] Qfi w14 fun a15 w16=>
 alo #[.int .i64 0,.slice none 0 0,.int .i64 0,.slice none 0 0,.slice none 0 0] Qal w16 fun a17 w18=>
 ldI .i64 a15 w18 fun n19=>
 (13:Int)≠0∧bif (decide ((IntKind.wrap .i64 (Int.tmod (IntKind.wrap .u64 n19) (13:Int)))<2)) then (
 Qaa a13 w18 fun n20 s21b s21l s21c n22 s23b s23l s23c s24b s24l s24c=>
 ldI .i64 (a15.add 1) w18 fun n25=>
 Calls Pg Qe7 #[.agg #[.int .i64 n20,.slice s21b s21l s21c,.int .i64 n22,.slice s23b s23l s23c,.slice s24b s24l s24c],.int .i64 n25] w18 fun e33 w32=>∃n26 s27b s27l s27c n28 s29b s29l s29c s30b s30l s30c n31,e33=.returned (.tuple #[.agg #[.int .i64 n26,.slice s27b s27l s27c,.int .i64 n28,.slice s29b s29l s29c,.slice s30b s30l s30c],.int .i64 n31])∧
 alo #[.int .i64 0,.slice none 0 0,.int .i64 0,.slice none 0 0,.slice none 0 0] Qal w32 fun a34 w35=>
 sts a34 0 [.int .i64 n26,.slice s27b s27l s27c,.int .i64 n28,.slice s29b s29l s29c,.slice s30b s30l s30c] w35 fun w36=>
 Qaa a34 w36.drew fun n37 s38b s38l s38c n39 s40b s40l s40c s41b s41l s41c=>
 ldI .i64 (a15.add 1) w36.drew fun n42=>
 Calls Pg Qbk #[.pointer p0,.int .i64 n42] w36.drew fun e45 w44=>∃v43,e45=.returned v43∧
 kps w44 a34 0 [.int .i64 n37,.slice s38b s38l s38c,.int .i64 n39,.slice s40b s40l s40c,.slice s41b s41l s41c] (
 Calls Pg Qbj #[v43] w44 fun e48 w47=>∃n46,e48=.returned (.int .i64 n46)∧
 kps w47 a34 0 [.int .i64 n37,.slice s38b s38l s38c,.int .i64 n39,.slice s40b s40l s40c,.slice s41b s41l s41c] (
 sts a17 0 [.int .i64 n37,.slice s38b s38l s38c,.int .i64 n39,.slice s40b s40l s40c,.slice s41b s41l s41c] w47 fun w49=>
 Qaa a17 w49 fun n50 s51b s51l s51c n52 s53b s53l s53c s54b s54l s54c=>
 R (.tuple #[.agg #[.int .i64 n50,.slice s51b s51l s51c,.int .i64 n52,.slice s53b s53l s53c,.slice s54b s54l s54c],.bool (n46==n31)]) w49))) else (
 bif ((IntKind.wrap .i64 (Int.tmod (IntKind.wrap .u64 n19) (13:Int)))==2) then (
 Qaa a13 w18 fun n55 s56b s56l s56c n57 s58b s58l s58c s59b s59l s59c=>
 ldI .i64 (a15.add 1) w18 fun n60=>
 Calls Pg Qey #[.agg #[.int .i64 n55,.slice s56b s56l s56c,.int .i64 n57,.slice s58b s58l s58c,.slice s59b s59l s59c],.int .i64 n60] w18 fun e68 w67=>∃n61 s62b s62l s62c n63 s64b s64l s64c s65b s65l s65c n66,e68=.returned (.tuple #[.agg #[.int .i64 n61,.slice s62b s62l s62c,.int .i64 n63,.slice s64b s64l s64c,.slice s65b s65l s65c],.int .i64 n66])∧
 alo #[.int .i64 0,.slice none 0 0,.int .i64 0,.slice none 0 0,.slice none 0 0] Qal w67 fun a69 w70=>
 sts a69 0 [.int .i64 n61,.slice s62b s62l s62c,.int .i64 n63,.slice s64b s64l s64c,.slice s65b s65l s65c] w70 fun w71=>
 Qaa a69 w71.drew fun n72 s73b s73l s73c n74 s75b s75l s75c s76b s76l s76c=>
 ldI .i64 (a15.add 1) w71.drew fun n77=>
 Calls Pg Qfm #[.pointer p0,.int .i64 n77] w71.drew fun e80 w79=>∃v78,e80=.returned v78∧
 kps w79 a69 0 [.int .i64 n72,.slice s73b s73l s73c,.int .i64 n74,.slice s75b s75l s75c,.slice s76b s76l s76c] (
 Calls Pg Qbj #[v78] w79 fun e83 w82=>∃n81,e83=.returned (.int .i64 n81)∧
 kps w82 a69 0 [.int .i64 n72,.slice s73b s73l s73c,.int .i64 n74,.slice s75b s75l s75c,.slice s76b s76l s76c] (
 sts a17 0 [.int .i64 n72,.slice s73b s73l s73c,.int .i64 n74,.slice s75b s75l s75c,.slice s76b s76l s76c] w82 fun w84=>
 Qaa a17 w84 fun n85 s86b s86l s86c n87 s88b s88l s88c s89b s89l s89c=>
 R (.tuple #[.agg #[.int .i64 n85,.slice s86b s86l s86c,.int .i64 n87,.slice s88b s88l s88c,.slice s89b s89l s89c],.bool (n81==n66)]) w84))) else (
 bif (decide ((IntKind.wrap .i64 (Int.tmod (IntKind.wrap .u64 n19) (13:Int)))<9)) then (
 ∃J90:JP,(
 Qaa a13 w18.drew fun n91 s92b s92l s92c n93 s94b s94l s94c s95b s95l s95c=>
 ldI .i64 (a15.add 2) w18.drew fun n96=>
 ldI .i64 ((a15.add 2).add 1) w18.drew fun n97=>
 Qaa a13 w18.drew fun n98 s99b s99l s99c n100 s101b s101l s101c s102b s102l s102c=>
 ldI .i64 (a15.add 4) w18.drew fun n103=>
 ldI .i64 ((a15.add 4).add 1) w18.drew fun n104=>
 (Calls Pg Qai #[.agg #[.int .i64 n91,.slice s92b s92l s92c,.int .i64 n93,.slice s94b s94l s94c,.slice s95b s95l s95c],.agg #[.int .i64 n96,.int .i64 n97],.bool ((IntKind.wrap .i64 (Int.tmod (IntKind.wrap .u64 n19) (13:Int)))==8)] w18.drew fun e108 w107=>∃n105 n106,e108=.returned (.agg #[.int .i64 n105,.int .i64 n106])∧
 w107.cell? (a15.add 4)=some (.int .i64 n103)∧w107.cell? ((a15.add 4).add 1)=some (.int .i64 n104)∧kps w107 a13 0 [.int .i64 n98,.slice s99b s99l s99c,.int .i64 n100,.slice s101b s101l s101c,.slice s102b s102l s102c] (
 (Calls Pg Qai #[.agg #[.int .i64 n98,.slice s99b s99l s99c,.int .i64 n100,.slice s101b s101l s101c,.slice s102b s102l s102c],.agg #[.int .i64 n103,.int .i64 n104],.bool ((IntKind.wrap .i64 (Int.tmod (IntKind.wrap .u64 n19) (13:Int)))==8)] w107 fun e112 w111=>∃n109 n110,e112=.returned (.agg #[.int .i64 n109,.int .i64 n110])∧
 (alo #[.int .i64 0,.int .i64 0] Qat w111 fun a113 w114=>
 alo #[.int .i64 0,.int .i64 0] Qat w114 fun a115 w116=>
 sto a113 (.int .i64 n105) w116 fun w117=>
 sto (a113.add 1) (.int .i64 n106) w117 fun w118=>
 sto a115 (.int .i64 n109) w118 fun w119=>
 sto (a115.add 1) (.int .i64 n110) w119 fun w120=>
 J90 [.pointer (some a113),.pointer (some a115)] w120)∧(
 alo #[.int .i64 0,.int .i64 0] Qat w111 fun a121 w122=>
 alo #[.int .i64 0,.int .i64 0] Qat w122 fun a123 w124=>
 sto a123 (.int .i64 n105) w124 fun w125=>
 sto (a123.add 1) (.int .i64 n106) w125 fun w126=>
 sto a121 (.int .i64 n109) w126 fun w127=>
 sto (a121.add 1) (.int .i64 n110) w127 fun w128=>
 J90 [.pointer (some a123),.pointer (some a121)] w128))∧(
 alo #[.int .i64 0,.int .i64 0] Qat w107 fun a129 w130=>
 w130.cell? (a15.add 4)=some (.int .i64 n103)∧w130.cell? ((a15.add 4).add 1)=some (.int .i64 n104)∧kps w130 a13 0 [.int .i64 n98,.slice s99b s99l s99c,.int .i64 n100,.slice s101b s101l s101c,.slice s102b s102l s102c] (
 (Calls Pg Qai #[.agg #[.int .i64 n98,.slice s99b s99l s99c,.int .i64 n100,.slice s101b s101l s101c,.slice s102b s102l s102c],.agg #[.int .i64 n103,.int .i64 n104],.bool ((IntKind.wrap .i64 (Int.tmod (IntKind.wrap .u64 n19) (13:Int)))==8)] w130 fun e134 w133=>∃n131 n132,e134=.returned (.agg #[.int .i64 n131,.int .i64 n132])∧
 alo #[.int .i64 0,.int .i64 0] Qat w133 fun a135 w136=>
 sto a129 (.int .i64 n105) w136 fun w137=>
 sto (a129.add 1) (.int .i64 n106) w137 fun w138=>
 sto a135 (.int .i64 n131) w138 fun w139=>
 sto (a135.add 1) (.int .i64 n132) w139 fun w140=>
 J90 [.pointer (some a129),.pointer (some a135)] w140)∧(
 alo #[.int .i64 0,.int .i64 0] Qat w130 fun a141 w142=>
 w142.cell? (a15.add 4)=some (.int .i64 n103)∧w142.cell? ((a15.add 4).add 1)=some (.int .i64 n104)∧kps w142 a13 0 [.int .i64 n98,.slice s99b s99l s99c,.int .i64 n100,.slice s101b s101l s101c,.slice s102b s102l s102c] (
 Calls Pg Qai #[.agg #[.int .i64 n98,.slice s99b s99l s99c,.int .i64 n100,.slice s101b s101l s101c,.slice s102b s102l s102c],.agg #[.int .i64 n103,.int .i64 n104],.bool ((IntKind.wrap .i64 (Int.tmod (IntKind.wrap .u64 n19) (13:Int)))==8)] w142 fun e146 w145=>∃n143 n144,e146=.returned (.agg #[.int .i64 n143,.int .i64 n144])∧
 sto a129 (.int .i64 n105) w145 fun w147=>
 sto (a129.add 1) (.int .i64 n106) w147 fun w148=>
 sto a141 (.int .i64 n143) w148 fun w149=>
 sto (a141.add 1) (.int .i64 n144) w149 fun w150=>
 J90 [.pointer (some a129),.pointer (some a141)] w150))))∧(
 alo #[.int .i64 0,.int .i64 0] Qat w107 fun a151 w152=>
 w152.cell? (a15.add 4)=some (.int .i64 n103)∧w152.cell? ((a15.add 4).add 1)=some (.int .i64 n104)∧kps w152 a13 0 [.int .i64 n98,.slice s99b s99l s99c,.int .i64 n100,.slice s101b s101l s101c,.slice s102b s102l s102c] (
 (Calls Pg Qai #[.agg #[.int .i64 n98,.slice s99b s99l s99c,.int .i64 n100,.slice s101b s101l s101c,.slice s102b s102l s102c],.agg #[.int .i64 n103,.int .i64 n104],.bool ((IntKind.wrap .i64 (Int.tmod (IntKind.wrap .u64 n19) (13:Int)))==8)] w152 fun e156 w155=>∃n153 n154,e156=.returned (.agg #[.int .i64 n153,.int .i64 n154])∧
 alo #[.int .i64 0,.int .i64 0] Qat w155 fun a157 w158=>
 sto a157 (.int .i64 n105) w158 fun w159=>
 sto (a157.add 1) (.int .i64 n106) w159 fun w160=>
 sto a151 (.int .i64 n153) w160 fun w161=>
 sto (a151.add 1) (.int .i64 n154) w161 fun w162=>
 J90 [.pointer (some a157),.pointer (some a151)] w162)∧(
 alo #[.int .i64 0,.int .i64 0] Qat w152 fun a163 w164=>
 w164.cell? (a15.add 4)=some (.int .i64 n103)∧w164.cell? ((a15.add 4).add 1)=some (.int .i64 n104)∧kps w164 a13 0 [.int .i64 n98,.slice s99b s99l s99c,.int .i64 n100,.slice s101b s101l s101c,.slice s102b s102l s102c] (
 Calls Pg Qai #[.agg #[.int .i64 n98,.slice s99b s99l s99c,.int .i64 n100,.slice s101b s101l s101c,.slice s102b s102l s102c],.agg #[.int .i64 n103,.int .i64 n104],.bool ((IntKind.wrap .i64 (Int.tmod (IntKind.wrap .u64 n19) (13:Int)))==8)] w164 fun e168 w167=>∃n165 n166,e168=.returned (.agg #[.int .i64 n165,.int .i64 n166])∧
 sto a163 (.int .i64 n105) w167 fun w169=>
 sto (a163.add 1) (.int .i64 n106) w169 fun w170=>
 sto a151 (.int .i64 n165) w170 fun w171=>
 sto (a151.add 1) (.int .i64 n166) w171 fun w172=>
 J90 [.pointer (some a163),.pointer (some a151)] w172))))))∧(
 alo #[.int .i64 0,.int .i64 0] Qat w18.drew fun a173 w174=>
 w174.cell? (a15.add 4)=some (.int .i64 n103)∧w174.cell? ((a15.add 4).add 1)=some (.int .i64 n104)∧kps w174 a13 0 [.int .i64 n98,.slice s99b s99l s99c,.int .i64 n100,.slice s101b s101l s101c,.slice s102b s102l s102c] (
 w174.cell? (a15.add 2)=some (.int .i64 n96)∧w174.cell? ((a15.add 2).add 1)=some (.int .i64 n97)∧kps w174 a13 0 [.int .i64 n91,.slice s92b s92l s92c,.int .i64 n93,.slice s94b s94l s94c,.slice s95b s95l s95c] (
 (Calls Pg Qai #[.agg #[.int .i64 n91,.slice s92b s92l s92c,.int .i64 n93,.slice s94b s94l s94c,.slice s95b s95l s95c],.agg #[.int .i64 n96,.int .i64 n97],.bool ((IntKind.wrap .i64 (Int.tmod (IntKind.wrap .u64 n19) (13:Int)))==8)] w174 fun e178 w177=>∃n175 n176,e178=.returned (.agg #[.int .i64 n175,.int .i64 n176])∧
 w177.cell? (a15.add 4)=some (.int .i64 n103)∧w177.cell? ((a15.add 4).add 1)=some (.int .i64 n104)∧kps w177 a13 0 [.int .i64 n98,.slice s99b s99l s99c,.int .i64 n100,.slice s101b s101l s101c,.slice s102b s102l s102c] (
 (Calls Pg Qai #[.agg #[.int .i64 n98,.slice s99b s99l s99c,.int .i64 n100,.slice s101b s101l s101c,.slice s102b s102l s102c],.agg #[.int .i64 n103,.int .i64 n104],.bool ((IntKind.wrap .i64 (Int.tmod (IntKind.wrap .u64 n19) (13:Int)))==8)] w177 fun e182 w181=>∃n179 n180,e182=.returned (.agg #[.int .i64 n179,.int .i64 n180])∧
 alo #[.int .i64 0,.int .i64 0] Qat w181 fun a183 w184=>
 sto a173 (.int .i64 n175) w184 fun w185=>
 sto (a173.add 1) (.int .i64 n176) w185 fun w186=>
 sto a183 (.int .i64 n179) w186 fun w187=>
 sto (a183.add 1) (.int .i64 n180) w187 fun w188=>
 J90 [.pointer (some a173),.pointer (some a183)] w188)∧(
 alo #[.int .i64 0,.int .i64 0] Qat w177 fun a189 w190=>
 w190.cell? (a15.add 4)=some (.int .i64 n103)∧w190.cell? ((a15.add 4).add 1)=some (.int .i64 n104)∧kps w190 a13 0 [.int .i64 n98,.slice s99b s99l s99c,.int .i64 n100,.slice s101b s101l s101c,.slice s102b s102l s102c] (
 Calls Pg Qai #[.agg #[.int .i64 n98,.slice s99b s99l s99c,.int .i64 n100,.slice s101b s101l s101c,.slice s102b s102l s102c],.agg #[.int .i64 n103,.int .i64 n104],.bool ((IntKind.wrap .i64 (Int.tmod (IntKind.wrap .u64 n19) (13:Int)))==8)] w190 fun e194 w193=>∃n191 n192,e194=.returned (.agg #[.int .i64 n191,.int .i64 n192])∧
 sto a173 (.int .i64 n175) w193 fun w195=>
 sto (a173.add 1) (.int .i64 n176) w195 fun w196=>
 sto a189 (.int .i64 n191) w196 fun w197=>
 sto (a189.add 1) (.int .i64 n192) w197 fun w198=>
 J90 [.pointer (some a173),.pointer (some a189)] w198))))∧(
 alo #[.int .i64 0,.int .i64 0] Qat w174 fun a199 w200=>
 w200.cell? (a15.add 4)=some (.int .i64 n103)∧w200.cell? ((a15.add 4).add 1)=some (.int .i64 n104)∧kps w200 a13 0 [.int .i64 n98,.slice s99b s99l s99c,.int .i64 n100,.slice s101b s101l s101c,.slice s102b s102l s102c] (
 w200.cell? (a15.add 2)=some (.int .i64 n96)∧w200.cell? ((a15.add 2).add 1)=some (.int .i64 n97)∧kps w200 a13 0 [.int .i64 n91,.slice s92b s92l s92c,.int .i64 n93,.slice s94b s94l s94c,.slice s95b s95l s95c] (
 Calls Pg Qai #[.agg #[.int .i64 n91,.slice s92b s92l s92c,.int .i64 n93,.slice s94b s94l s94c,.slice s95b s95l s95c],.agg #[.int .i64 n96,.int .i64 n97],.bool ((IntKind.wrap .i64 (Int.tmod (IntKind.wrap .u64 n19) (13:Int)))==8)] w200 fun e204 w203=>∃n201 n202,e204=.returned (.agg #[.int .i64 n201,.int .i64 n202])∧
 w203.cell? (a15.add 4)=some (.int .i64 n103)∧w203.cell? ((a15.add 4).add 1)=some (.int .i64 n104)∧kps w203 a13 0 [.int .i64 n98,.slice s99b s99l s99c,.int .i64 n100,.slice s101b s101l s101c,.slice s102b s102l s102c] (
 Calls Pg Qai #[.agg #[.int .i64 n98,.slice s99b s99l s99c,.int .i64 n100,.slice s101b s101l s101c,.slice s102b s102l s102c],.agg #[.int .i64 n103,.int .i64 n104],.bool ((IntKind.wrap .i64 (Int.tmod (IntKind.wrap .u64 n19) (13:Int)))==8)] w203 fun e208 w207=>∃n205 n206,e208=.returned (.agg #[.int .i64 n205,.int .i64 n206])∧
 sto a173 (.int .i64 n201) w207 fun w209=>
 sto (a173.add 1) (.int .i64 n202) w209 fun w210=>
 sto a199 (.int .i64 n205) w210 fun w211=>
 sto (a199.add 1) (.int .i64 n206) w211 fun w212=>
 J90 [.pointer (some a173),.pointer (some a199)] w212)))))))∧(
 alo #[.int .i64 0,.int .i64 0] Qat w18.drew fun a213 w214=>
 w214.cell? (a15.add 4)=some (.int .i64 n103)∧w214.cell? ((a15.add 4).add 1)=some (.int .i64 n104)∧kps w214 a13 0 [.int .i64 n98,.slice s99b s99l s99c,.int .i64 n100,.slice s101b s101l s101c,.slice s102b s102l s102c] (
 w214.cell? (a15.add 2)=some (.int .i64 n96)∧w214.cell? ((a15.add 2).add 1)=some (.int .i64 n97)∧kps w214 a13 0 [.int .i64 n91,.slice s92b s92l s92c,.int .i64 n93,.slice s94b s94l s94c,.slice s95b s95l s95c] (
 (Calls Pg Qai #[.agg #[.int .i64 n91,.slice s92b s92l s92c,.int .i64 n93,.slice s94b s94l s94c,.slice s95b s95l s95c],.agg #[.int .i64 n96,.int .i64 n97],.bool ((IntKind.wrap .i64 (Int.tmod (IntKind.wrap .u64 n19) (13:Int)))==8)] w214 fun e218 w217=>∃n215 n216,e218=.returned (.agg #[.int .i64 n215,.int .i64 n216])∧
 w217.cell? (a15.add 4)=some (.int .i64 n103)∧w217.cell? ((a15.add 4).add 1)=some (.int .i64 n104)∧kps w217 a13 0 [.int .i64 n98,.slice s99b s99l s99c,.int .i64 n100,.slice s101b s101l s101c,.slice s102b s102l s102c] (
 (Calls Pg Qai #[.agg #[.int .i64 n98,.slice s99b s99l s99c,.int .i64 n100,.slice s101b s101l s101c,.slice s102b s102l s102c],.agg #[.int .i64 n103,.int .i64 n104],.bool ((IntKind.wrap .i64 (Int.tmod (IntKind.wrap .u64 n19) (13:Int)))==8)] w217 fun e222 w221=>∃n219 n220,e222=.returned (.agg #[.int .i64 n219,.int .i64 n220])∧
 alo #[.int .i64 0,.int .i64 0] Qat w221 fun a223 w224=>
 sto a223 (.int .i64 n215) w224 fun w225=>
 sto (a223.add 1) (.int .i64 n216) w225 fun w226=>
 sto a213 (.int .i64 n219) w226 fun w227=>
 sto (a213.add 1) (.int .i64 n220) w227 fun w228=>
 J90 [.pointer (some a223),.pointer (some a213)] w228)∧(
 alo #[.int .i64 0,.int .i64 0] Qat w217 fun a229 w230=>
 w230.cell? (a15.add 4)=some (.int .i64 n103)∧w230.cell? ((a15.add 4).add 1)=some (.int .i64 n104)∧kps w230 a13 0 [.int .i64 n98,.slice s99b s99l s99c,.int .i64 n100,.slice s101b s101l s101c,.slice s102b s102l s102c] (
 Calls Pg Qai #[.agg #[.int .i64 n98,.slice s99b s99l s99c,.int .i64 n100,.slice s101b s101l s101c,.slice s102b s102l s102c],.agg #[.int .i64 n103,.int .i64 n104],.bool ((IntKind.wrap .i64 (Int.tmod (IntKind.wrap .u64 n19) (13:Int)))==8)] w230 fun e234 w233=>∃n231 n232,e234=.returned (.agg #[.int .i64 n231,.int .i64 n232])∧
 sto a229 (.int .i64 n215) w233 fun w235=>
 sto (a229.add 1) (.int .i64 n216) w235 fun w236=>
 sto a213 (.int .i64 n231) w236 fun w237=>
 sto (a213.add 1) (.int .i64 n232) w237 fun w238=>
 J90 [.pointer (some a229),.pointer (some a213)] w238))))∧(
 alo #[.int .i64 0,.int .i64 0] Qat w214 fun a239 w240=>
 w240.cell? (a15.add 4)=some (.int .i64 n103)∧w240.cell? ((a15.add 4).add 1)=some (.int .i64 n104)∧kps w240 a13 0 [.int .i64 n98,.slice s99b s99l s99c,.int .i64 n100,.slice s101b s101l s101c,.slice s102b s102l s102c] (
 w240.cell? (a15.add 2)=some (.int .i64 n96)∧w240.cell? ((a15.add 2).add 1)=some (.int .i64 n97)∧kps w240 a13 0 [.int .i64 n91,.slice s92b s92l s92c,.int .i64 n93,.slice s94b s94l s94c,.slice s95b s95l s95c] (
 Calls Pg Qai #[.agg #[.int .i64 n91,.slice s92b s92l s92c,.int .i64 n93,.slice s94b s94l s94c,.slice s95b s95l s95c],.agg #[.int .i64 n96,.int .i64 n97],.bool ((IntKind.wrap .i64 (Int.tmod (IntKind.wrap .u64 n19) (13:Int)))==8)] w240 fun e244 w243=>∃n241 n242,e244=.returned (.agg #[.int .i64 n241,.int .i64 n242])∧
 w243.cell? (a15.add 4)=some (.int .i64 n103)∧w243.cell? ((a15.add 4).add 1)=some (.int .i64 n104)∧kps w243 a13 0 [.int .i64 n98,.slice s99b s99l s99c,.int .i64 n100,.slice s101b s101l s101c,.slice s102b s102l s102c] (
 Calls Pg Qai #[.agg #[.int .i64 n98,.slice s99b s99l s99c,.int .i64 n100,.slice s101b s101l s101c,.slice s102b s102l s102c],.agg #[.int .i64 n103,.int .i64 n104],.bool ((IntKind.wrap .i64 (Int.tmod (IntKind.wrap .u64 n19) (13:Int)))==8)] w243 fun e248 w247=>∃n245 n246,e248=.returned (.agg #[.int .i64 n245,.int .i64 n246])∧
 sto a239 (.int .i64 n241) w247 fun w249=>
 sto (a239.add 1) (.int .i64 n242) w249 fun w250=>
 sto a213 (.int .i64 n245) w250 fun w251=>
 sto (a213.add 1) (.int .i64 n246) w251 fun w252=>
 J90 [.pointer (some a239),.pointer (some a213)] w252))))))))∧∀_:Env,∀p253 p254 w255,J90 [.pointer p253,.pointer p254] w255→
 Qaa a13 w255 fun n256 s257b s257l s257c n258 s259b s259l s259c s260b s260l s260c=>
 ldI .i64 (a15.add 1) w255 fun n261=>
 pt p253 fun a262=>
 ldI .i64 a262 w255 fun n263=>
 ldI .i64 (a262.add 1) w255 fun n264=>
 pt p254 fun a265=>
 ldI .i64 a265 w255 fun n266=>
 ldI .i64 (a265.add 1) w255 fun n267=>
 ldI .i32 (a15.add 6) w255 fun n268=>
 Calls Pg Qid #[.agg #[.int .i64 n256,.slice s257b s257l s257c,.int .i64 n258,.slice s259b s259l s259c,.slice s260b s260l s260c],.int .i64 n261,.agg #[.int .i64 n263,.int .i64 n264],.agg #[.int .i64 n266,.int .i64 n267],.int .i32 n268] w255 fun e276 w275=>∃n269 s270b s270l s270c n271 s272b s272l s272c s273b s273l s273c n274,e276=.returned (.tuple #[.agg #[.int .i64 n269,.slice s270b s270l s270c,.int .i64 n271,.slice s272b s272l s272c,.slice s273b s273l s273c],.int .i64 n274])∧
 alo #[.int .i64 0,.slice none 0 0,.int .i64 0,.slice none 0 0,.slice none 0 0] Qal w275 fun a277 w278=>
 sts a277 0 [.int .i64 n269,.slice s270b s270l s270c,.int .i64 n271,.slice s272b s272l s272c,.slice s273b s273l s273c] w278 fun w279=>
 Qaa a277 w279.drew fun n280 s281b s281l s281c n282 s283b s283l s283c s284b s284l s284c=>
 ldI .i64 (a15.add 1) w279.drew fun n285=>
 pt p253 fun a286=>
 ixA a286 2 (0:Int) 1 fun a287=>
 ldI .i64 a287 w279.drew fun n288=>
 pt p253 fun a289=>
 ixA a289 2 (1:Int) 1 fun a290=>
 ldI .i64 a290 w279.drew fun n291=>
 pt p254 fun a292=>
 ixA a292 2 (0:Int) 1 fun a293=>
 ldI .i64 a293 w279.drew fun n294=>
 pt p254 fun a295=>
 ixA a295 2 (1:Int) 1 fun a296=>
 ldI .i64 a296 w279.drew fun n297=>
 ldI .i32 (a15.add 6) w279.drew fun n298=>
 Calls Pg Qcq #[.pointer p0,.int .i64 n285,.agg #[.int .i64 n288,.int .i64 n291],.agg #[.int .i64 n294,.int .i64 n297],.int .i32 n298] w279.drew fun e301 w300=>∃v299,e301=.returned v299∧
 kps w300 a277 0 [.int .i64 n280,.slice s281b s281l s281c,.int .i64 n282,.slice s283b s283l s283c,.slice s284b s284l s284c] (
 Calls Pg Qbj #[v299] w300 fun e304 w303=>∃n302,e304=.returned (.int .i64 n302)∧
 kps w303 a277 0 [.int .i64 n280,.slice s281b s281l s281c,.int .i64 n282,.slice s283b s283l s283c,.slice s284b s284l s284c] (
 sts a17 0 [.int .i64 n280,.slice s281b s281l s281c,.int .i64 n282,.slice s283b s283l s283c,.slice s284b s284l s284c] w303 fun w305=>
 Qaa a17 w305 fun n306 s307b s307l s307c n308 s309b s309l s309c s310b s310l s310c=>
 R (.tuple #[.agg #[.int .i64 n306,.slice s307b s307l s307c,.int .i64 n308,.slice s309b s309l s309c,.slice s310b s310l s310c],.bool (n302==n274)]) w305))) else (
 bif (decide ((IntKind.wrap .i64 (Int.tmod (IntKind.wrap .u64 n19) (13:Int)))<11)) then (
 Qaa a13 w18 fun n311 s312b s312l s312c n313 s314b s314l s314c s315b s315l s315c=>
 ldI .i64 (a15.add 1) w18 fun n316=>
 Calls Pg Qic #[.agg #[.int .i64 n311,.slice s312b s312l s312c,.int .i64 n313,.slice s314b s314l s314c,.slice s315b s315l s315c],.int .i64 n316] w18 fun e324 w323=>∃n317 s318b s318l s318c n319 s320b s320l s320c s321b s321l s321c n322,e324=.returned (.tuple #[.agg #[.int .i64 n317,.slice s318b s318l s318c,.int .i64 n319,.slice s320b s320l s320c,.slice s321b s321l s321c],.int .i64 n322])∧
 alo #[.int .i64 0,.slice none 0 0,.int .i64 0,.slice none 0 0,.slice none 0 0] Qal w323 fun a325 w326=>
 sts a325 0 [.int .i64 n317,.slice s318b s318l s318c,.int .i64 n319,.slice s320b s320l s320c,.slice s321b s321l s321c] w326 fun w327=>
 Qaa a325 w327.drew fun n328 s329b s329l s329c n330 s331b s331l s331c s332b s332l s332c=>
 ldI .i64 (a15.add 1) w327.drew fun n333=>
 Calls Pg Qfh #[.pointer p0,.int .i64 n333] w327.drew fun e336 w335=>∃v334,e336=.returned v334∧
 kps w335 a325 0 [.int .i64 n328,.slice s329b s329l s329c,.int .i64 n330,.slice s331b s331l s331c,.slice s332b s332l s332c] (
 Calls Pg Qbj #[v334] w335 fun e339 w338=>∃n337,e339=.returned (.int .i64 n337)∧
 kps w338 a325 0 [.int .i64 n328,.slice s329b s329l s329c,.int .i64 n330,.slice s331b s331l s331c,.slice s332b s332l s332c] (
 sts a17 0 [.int .i64 n328,.slice s329b s329l s329c,.int .i64 n330,.slice s331b s331l s331c,.slice s332b s332l s332c] w338 fun w340=>
 Qaa a17 w340 fun n341 s342b s342l s342c n343 s344b s344l s344c s345b s345l s345c=>
 R (.tuple #[.agg #[.int .i64 n341,.slice s342b s342l s342c,.int .i64 n343,.slice s344b s344l s344c,.slice s345b s345l s345c],.bool (n337==n322)]) w340))) else (
 Qaa a13 w18 fun n346 s347b s347l s347c n348 s349b s349l s349c s350b s350l s350c=>
 ldI .i64 (a15.add 1) w18 fun n351=>
 ldI .i32 (a15.add 6) w18 fun n352=>
 Calls Pg Qhk #[.agg #[.int .i64 n346,.slice s347b s347l s347c,.int .i64 n348,.slice s349b s349l s349c,.slice s350b s350l s350c],.int .i64 n351,.int .i32 n352] w18 fun e360 w359=>∃n353 s354b s354l s354c n355 s356b s356l s356c s357b s357l s357c n358,e360=.returned (.tuple #[.agg #[.int .i64 n353,.slice s354b s354l s354c,.int .i64 n355,.slice s356b s356l s356c,.slice s357b s357l s357c],.int .i64 n358])∧
 alo #[.int .i64 0,.slice none 0 0,.int .i64 0,.slice none 0 0,.slice none 0 0] Qal w359 fun a361 w362=>
 sts a361 0 [.int .i64 n353,.slice s354b s354l s354c,.int .i64 n355,.slice s356b s356l s356c,.slice s357b s357l s357c] w362 fun w363=>
 Qaa a361 w363.drew fun n364 s365b s365l s365c n366 s367b s367l s367c s368b s368l s368c=>
 ldI .i64 (a15.add 1) w363.drew fun n369=>
 ldI .i32 (a15.add 6) w363.drew fun n370=>
 Calls Pg Qe0 #[.pointer p0,.int .i64 n369,.int .i32 n370] w363.drew fun e373 w372=>∃v371,e373=.returned v371∧
 kps w372 a361 0 [.int .i64 n364,.slice s365b s365l s365c,.int .i64 n366,.slice s367b s367l s367c,.slice s368b s368l s368c] (
 Calls Pg Qbj #[v371] w372 fun e376 w375=>∃n374,e376=.returned (.int .i64 n374)∧
 kps w375 a361 0 [.int .i64 n364,.slice s365b s365l s365c,.int .i64 n366,.slice s367b s367l s367c,.slice s368b s368l s368c] (
 sts a17 0 [.int .i64 n364,.slice s365b s365l s365c,.int .i64 n366,.slice s367b s367l s367c,.slice s368b s368l s368c] w375 fun w377=>
 Qaa a17 w377 fun n378 s379b s379l s379c n380 s381b s381l s381c s382b s382l s382c=>
 R (.tuple #[.agg #[.int .i64 n378,.slice s379b s379l s379c,.int .i64 n380,.slice s381b s381l s381c,.slice s382b s382l s382c],.bool (n374==n358)]) w377))))))
theorem Qkx (p0:OA) (n1:Int) (s2b:OA) (s2l s2c:Nat) (n3:Int) (s4b:OA) (s4l s4c:Nat) (s5b:OA) (s5l s5c:Nat) (n6 n7 n8 n9 n10 n11 n12:Int):SH Qff [.pointer p0,.agg #[.int .i64 n1,.slice s2b s2l s2c,.int .i64 n3,.slice s4b s4l s4c,.slice s5b s5l s5c],.agg #[.int .i64 n6,.int .i64 n7,.int .i64 n8,.int .i64 n9,.int .i64 n10,.int .i64 n11,.int .i32 n12]] (Qjv p0 n1 s2b s2l s2c n3 s4b s4l s4c s5b s5l s5c n6 n7 n8 n9 n10 n11 n12):=cdnR Tryz.func11 (.s .L (.s (.s .L (.b (.s .L (.c (.s .L (.s (.r (.tk 0 [8,9] [8] (.t 1 2 (.tk 3 [4,5,7,8,9] [4,5,8] (.t 6 1 (.one 4 (.one 5 (.t 7 1 (.one 8 (.t 9 1 .fin)))))))))) .L)) (.s .L (.c (.s .L (.s (.r (.tk 0 [8,9] [8] (.t 1 2 (.tk 3 [4,5,7,8,9] [4,5,8] (.t 6 1 (.one 4 (.one 5 (.t 7 1 (.one 8 (.t 9 1 .fin)))))))))) .L)) (.s .L (.c (.j [13,14] [.one .ptr,.one .ptr] (.r (.tk 0 [5,11,14,15] [5,11,14,15] (.t 1 1 (.tk 2 [5,11,14,15] [5,11,14,15] (.t 3 2 (.tk 6 [11,14,15] [11,14,15] (.t 7 1 (.tk 8 [11,14,15] [11,14,15] (.t 9 2 (.thr 5 (.thr 11 (.two 12 (.one 13 (.one 14 (.one 15 .fin))) 13 (.one 12 (.one 14 (.one 15 .fin)))) 12 (.two 11 (.one 13 (.one 14 (.one 15 .fin))) 13 (.one 11 (.one 14 (.one 15 .fin)))) 13 (.two 11 (.one 12 (.one 14 (.one 15 .fin))) 12 (.one 11 (.one 14 (.one 15 .fin))))) 12 (.two 5 (.two 11 (.one 13 (.one 14 (.one 15 .fin))) 13 (.one 11 (.one 14 (.one 15 .fin)))) 13 (.one 5 (.one 11 (.one 14 (.one 15 .fin))))) 13 (.two 5 (.two 11 (.one 12 (.one 14 (.one 15 .fin))) 12 (.one 11 (.one 14 (.one 15 .fin)))) 12 (.one 5 (.one 11 (.one 14 (.one 15 .fin))))))))))))))) (.s .L (.s (.r (.tk 0 [20,21] [20] (.t 1 2 (.tk 3 [16,17,19,20,21] [16,17,20] (.t 4 1 (.tk 5 [8,16,17,19,20,21] [16,17,20] (.t 6 1 (.tk 7 [8,16,17,19,20,21] [16,17,20] (.t 8 2 (.tk 10 [13,16,17,19,20,21] [16,17,20] (.t 11 1 (.tk 12 [13,16,17,19,20,21] [16,17,20] (.t 13 2 (.tk 15 [16,17,19,20,21] [16,17,20] (.t 18 1 (.one 16 (.one 17 (.t 19 1 (.one 20 (.t 21 1 .fin)))))))))))))))))))) .L))) (.s .L (.c (.s .L (.s (.r (.tk 0 [8,9] [8] (.t 1 2 (.tk 3 [4,5,7,8,9] [4,5,8] (.t 6 1 (.one 4 (.one 5 (.t 7 1 (.one 8 (.t 9 1 .fin)))))))))) .L)) .L)))))))))) (.s .L (.s (.r (.tk 0 [10,11] [10] (.t 1 2 (.tk 3 [6,7,9,10,11] [6,7,10] (.t 4 1 (.tk 5 [6,7,9,10,11] [6,7,10] (.t 8 1 (.one 6 (.one 7 (.t 9 1 (.one 10 (.t 11 1 .fin)))))))))))) .L)))) fun _ _=>by kernel_rfl
def Qlp (w:World) (R:RV):Prop:=
 Calls Pg Qkt #[.int .i64 3] w fun e3 w2=>∃p0 v1,e3=.returned (.tuple #[.pointer p0,v1])∧
 ∃J4:JP,(
 isI v1∧bif (!(nilI v1)) then (
 R (.bool false) w2) else (
 bif (Option.isNone p0) then (
 R (.bool false) w2) else (
 Calls Pg Qbk #[.pointer p0,.int .i64 0] w2 fun e7 w6=>∃v5,e7=.returned v5∧
 isI v5∧bif (!(nilI v5)) then (
 R (.bool false) w6) else (
 Calls Pg Qbk #[.pointer p0,.int .i64 1] w6 fun e10 w9=>∃v8,e10=.returned v8∧
 isI v8∧bif (!(nilI v8)) then (
 R (.bool false) w9) else (
 Calls Pg Qbk #[.pointer p0,.int .i64 2] w9 fun e13 w12=>∃v11,e13=.returned v11∧
 isI v11∧bif (!(nilI v11)) then (
 R (.bool false) w12) else (
 J4 [] w12))))))∧∀_:Env,∀w14,J4 [] w14→
 ∃J15:JP,(
 Calls Pg Qcq #[.pointer p0,.int .i64 0,.agg #[.int .i64 0,.int .i64 (-1)],.agg #[.int .i64 1,.int .i64 (-1)],.int .i32 1] w14 fun e18 w17=>∃v16,e18=.returned v16∧
 isI v16∧bif (!(nilI v16)) then (
 R (.bool false) w17) else (
 Calls Pg Qcq #[.pointer p0,.int .i64 1,.agg #[.int .i64 1,.int .i64 1],.agg #[.int .i64 2,.int .i64 (-1)],.int .i32 2] w17 fun e21 w20=>∃v19,e21=.returned v19∧
 isI v19∧bif (!(nilI v19)) then (
 R (.bool false) w20) else (
 Calls Pg Qcq #[.pointer p0,.int .i64 2,.agg #[.int .i64 2,.int .i64 3],.agg #[.int .i64 0,.int .i64 0],.int .i32 3] w20 fun e24 w23=>∃v22,e24=.returned v22∧
 isI v22∧bif (!(nilI v22)) then (
 R (.bool false) w23) else (
 J15 [] w23))))∧∀_:Env,∀w25,J15 [] w25→
 Calls Pg Qe1 #[.pointer p0] w25 fun e28 w27=>∃n26,e28=.returned (.int .i64 n26)∧
 Calls Pg Qed #[.pointer p0,.int .i64 2] w27 fun e32 w31=>∃b29 v30,e32=.returned (.tuple #[.bool b29,v30])∧
 bif (n26==3) then (
 isI v30∧bif (nilI v30) then (
 bif (!b29) then (
 Calls Pg Qfh #[.pointer p0,.int .i64 0] w31 fun e35 w34=>∃v33,e35=.returned v33∧
 isI v33∧bif (nilI v33) then (
 Calls Pg Qe1 #[.pointer p0] w34 fun e38 w37=>∃n36,e38=.returned (.int .i64 n36)∧
 bif (n36==5) then (
 Calls Pg Qee #[.pointer p0] w37 fun e44 w43=>∃n39 n40 n41 n42,e44=.returned (.agg #[.int .i64 n39,.int .i64 n40,.int .i64 n41,.int .i64 n42])∧
 ∃b45 w46,(do eqGuard .eql Qa8 (.tmp 79) (.tmp 80) (.agg #[.int .i64 n39,.int .i64 n40,.int .i64 n41,.int .i64 n42]) (.agg #[.int .i64 3,.int .i64 2,.int .i64 1,.int .i64 1]);binOp .eql Qa8 (.agg #[.int .i64 n39,.int .i64 n40,.int .i64 n41,.int .i64 n42]) (.agg #[.int .i64 3,.int .i64 2,.int .i64 1,.int .i64 1]):Sem Value).run Pg w43=.ok (.bool b45) w46∧
 R (.bool b45) w46) else (
 R (.bool false) w37)) else (
 R (.bool false) w34)) else (
 R (.bool false) w31)) else (
 R (.bool false) w31)) else (
 R (.bool false) w31)
theorem Qpl:SH Qii [] (Qlp):=cdn Tryz.func19 (.s .L (.s .L (.j [] [] (.s .L (.c (.s .L .L) .L)) (.j [] [] (.s .L (.c (.s .L .L) .L)) (.s .L (.s .L (.s .L .L))))))) fun _ _=>by kernel_rfl
def Qmw (v0:Value) (w:World) (R:RV):Prop:=
 alo #[.int .i64 0] Qah w fun a1 w2=>
 isI v0∧bif (nilI v0) then (
 R (.int .i64 0) w2) else (
 Calls Pg Qxk #[v0,.iface Qkf (.pointer (some a1))] w2 fun e5 w4=>∃b3,e5=.returned (.bool b3)∧
 bif b3 then (
 ldI .i64 a1 w4 fun n6=>
 R (.int .i64 n6) w4) else (
 R (.int .i64 (-1)) w4))
theorem Qqs (v0:Value):SH Qbj [v0] (Qmw v0):=cdn Tryz.func22 (.s .L (.s .L (.s (.s .L (.c (.s .L .L) .L)) (.s (.s .L (.c (.s .L .L) .L)) (.s .L .L))))) fun _ _=>by kernel_rfl
def Qj5 (n0:Int) (s1b:OA) (s1l s1c:Nat) (n2:Int) (s3b:OA) (s3l s3c:Nat) (s4b:OA) (s4l s4c:Nat) (n5 n6:Int) (b7:Bool) (w:World) (R:RV):Prop:=
 alo #[.int .i64 n0,.slice s1b s1l s1c,.int .i64 n2,.slice s3b s3l s3c,.slice s4b s4l s4c] Qal w fun a8 w9=>
 alo #[.int .i64 n5,.int .i64 n6] Qat w9 fun a10 w11=>
 alo #[.int .i64 0,.int .i64 0] Qat w11 fun a12 w13=>
 Qaa a8 w13 fun n14 s15b s15l s15c n16 s17b s17l s17c s18b s18l s18c=>
 Calls Pg Qfl #[.agg #[.int .i64 n14,.slice s15b s15l s15c,.int .i64 n16,.slice s17b s17l s17c,.slice s18b s18l s18c]] w13 fun e21 w20=>∃s19b s19l s19c,e21=.returned (.slice s19b s19l s19c)∧
 ∃J22:JP,(
 bif b7 then (
 ldI .i64 a10 w20 fun n23=>
 ldI .i64 (a10.add 1) w20 fun n24=>
 sto a12 (.int .i64 n23) w20 fun w25=>
 sto (a12.add 1) (.int .i64 n24) w25 fun w26=>
 ldI .i64 a12 w26 fun n27=>
 ldI .i64 (a12.add 1) w26 fun n28=>
 R (.agg #[.int .i64 n27,.int .i64 n28]) w26) else (
 bif ((s19l:Int)==0) then (
 ldI .i64 a10 w20 fun n29=>
 ldI .i64 (a10.add 1) w20 fun n30=>
 sto a12 (.int .i64 n29) w20 fun w31=>
 sto (a12.add 1) (.int .i64 n30) w31 fun w32=>
 ldI .i64 a12 w32 fun n33=>
 ldI .i64 (a12.add 1) w32 fun n34=>
 R (.agg #[.int .i64 n33,.int .i64 n34]) w32) else (
 J22 [] w20)))∧∀_:Env,∀w35,J22 [] w35→
 ixA a10 2 (0:Int) 1 fun a36=>
 ldI .i64 a36 w35 fun n37=>
 (IntKind.wrap .u64 (s19l:Int))≠0∧ixS s19b s19l (IntKind.wrap .i64 (Int.tmod (IntKind.wrap .u64 n37) (IntKind.wrap .u64 (s19l:Int)))) 1 fun a38=>
 ldI .i64 a38 w35 fun n39=>
 ldS ((a8.add 2).add 1) w35 fun s40b s40l s40c=>
 ixS s40b s40l n39 1 fun a41=>
 ldS a41 w35 fun s42b s42l s42c=>
 bif ((s42l:Int)==0) then (
 sto a12 (.int .i64 n39) w35 fun w43=>
 sto (a12.add 1) (.int .i64 (-1)) w43 fun w44=>
 ldI .i64 a12 w44 fun n45=>
 ldI .i64 (a12.add 1) w44 fun n46=>
 R (.agg #[.int .i64 n45,.int .i64 n46]) w44) else (
 ldS ((a8.add 2).add 1) w35.drew fun s47b s47l s47c=>
 ixS s47b s47l n39 1 fun a48=>
 ldS a48 w35.drew fun s49b s49l s49c=>
 ixA a10 2 (1:Int) 1 fun a50=>
 ldI .i64 a50 w35.drew fun n51=>
 ldS ((a8.add 2).add 1) w35.drew fun s52b s52l s52c=>
 ixS s52b s52l n39 1 fun a53=>
 ldS a53 w35.drew fun s54b s54l s54c=>
 (IntKind.wrap .u64 (s54l:Int))≠0∧ixS s49b s49l (IntKind.wrap .i64 (Int.tmod (IntKind.wrap .u64 n51) (IntKind.wrap .u64 (s54l:Int)))) 1 fun a55=>
 ldI .i64 a55 w35.drew fun n56=>
 sto a12 (.int .i64 n39) w35.drew fun w57=>
 sto (a12.add 1) (.int .i64 n56) w57 fun w58=>
 ldI .i64 a12 w58 fun n59=>
 ldI .i64 (a12.add 1) w58 fun n60=>
 R (.agg #[.int .i64 n59,.int .i64 n60]) w58)
theorem Qnq (n0:Int) (s1b:OA) (s1l s1c:Nat) (n2:Int) (s3b:OA) (s3l s3c:Nat) (s4b:OA) (s4l s4c:Nat) (n5 n6:Int) (b7:Bool):SH Qai [.agg #[.int .i64 n0,.slice s1b s1l s1c,.int .i64 n2,.slice s3b s3l s3c,.slice s4b s4l s4c],.agg #[.int .i64 n5,.int .i64 n6],.bool b7] (Qj5 n0 s1b s1l s1c n2 s3b s3l s3c s4b s4l s4c n5 n6 b7):=cdnR Tryz.func30 (.s .L (.s .L (.j [] [] (.s .L (.c (.s .L .L) .L)) (.s .L (.s (.s .L (.c (.s .L .L) .L)) (.s (.r (.t 0 3 (.tk 3 [5,6,20,21,22,23] [23] (.t 4 2 (.tk 6 [20,21,22,23] [23] (.t 7 1 (.tk 8 [9,18,19,20,21,22,23] [23] (.t 9 3 (.tk 12 [14,15,16,17,18,19,20,21,22,23] [23] (.t 13 2 (.tk 15 [16,17,18,19,20,21,22,23] [23] (.t 16 5 (.tk 21 [22,23] [23] (.t 22 1 (.one 23 .fin))))))))))))))) .L)))))) fun _ _=>by kernel_rfl
def Qlq (s0b:OA) (s0l s0c:Nat) (s1b:OA) (s1l s1c:Nat) (w:World) (R:RV):Prop:=
 bif ((s0l:Int) != (s1l:Int)) then (
 R (.bool false) w) else (
 ∃(I2:JP) (m3:JN),I2 [.int .i64 0] w∧
 ∀_:Env,∀n4 w5,I2 [.int .i64 n4] w5→
 bif (decide (n4<(s0l:Int))) then (
 ixS s0b s0l n4 1 fun a6=>
 ldI .i64 a6 w5.drew fun n7=>
 ixS s1b s1l n4 1 fun a8=>
 ldI .i64 a8 w5.drew fun n9=>
 bif (n7 != n9) then (
 R (.bool false) w5.drew) else (
 (I2 [.int .i64 (IntKind.wrap .i64 (n4+1))] w5.drew∧m3 [.int .i64 (IntKind.wrap .i64 (n4+1))] w5.drew<m3 [.int .i64 n4] w5))) else (
 R (.bool true) w5))
theorem Qpm (s0b:OA) (s0l s0c:Nat) (s1b:OA) (s1l s1c:Nat):SH Qij [.slice s0b s0l s0c,.slice s1b s1l s1c] (Qlq s0b s0l s0c s1b s1l s1c):=cdn Tryz.func33 (.s .L (.s (.s .L (.c (.s .L .L) .L)) (.s (.s .L (.b (.o [5] [.one (.int .i64)] (.s (.s .L (.c .L .L)) (.s (.b (.s (.r (.t 0 9 .fin)) (.c (.s .L .L) .L))) .L))))) (.s .L .L)))) fun _ _=>by kernel_rfl
end Go.Proofs.YtpmicakdjhoafaaGreatDoor
