/-
What a function does, as one formula, printed by a program of this session out of the translation; the kernel holds the print against the translation.
Conditions: none.
-/
import Derived.Test.YtpmicakdjhoafaaGreatDoorSn
set_option linter.unusedVariables false
namespace Go.Proofs.YtpmicakdjhoafaaGreatDoor
open Go
set_option maxRecDepth 100000
def Qht (n0:Int) (s1b:OA) (s1l s1c:Nat) (w:World) (R:RV):Prop:=
 (9:Int)≠0∧Calls Pg Qkf #[.int .i64 (IntKind.wrap .i64 (1+(IntKind.wrap .i64 (Int.tmod (IntKind.wrap .u64 n0) (9:Int)))))] w fun e5 w4=>∃p2 v3,e5=.returned (.tuple #[.pointer p2,v3])∧
 ∃J6:JP,(
 isI v3∧bif (!(nilI v3)) then (
 R (.bool false) w4) else (
 bif (Option.isNone p2) then (
 R (.bool false) w4) else (
 J6 [] w4)))∧∀_:Env,∀w7,J6 [] w7→
 Calls Pg Qgg #[.int .i64 (IntKind.wrap .i64 (1+(IntKind.wrap .i64 (Int.tmod (IntKind.wrap .u64 n0) (9:Int)))))] w7 fun e14 w13=>∃n8 s9b s9l s9c n10 s11b s11l s11c s12b s12l s12c,e14=.returned (.agg #[.int .i64 n8,.slice s9b s9l s9c,.int .i64 n10,.slice s11b s11l s11c,.slice s12b s12l s12c])∧
 alo #[.int .i64 0,.slice none 0 0,.int .i64 0,.slice none 0 0,.slice none 0 0] Qal w13 fun a15 w16=>
 sts a15 0 [.int .i64 n8,.slice s9b s9l s9c,.int .i64 n10,.slice s11b s11l s11c,.slice s12b s12l s12c] w16 fun w17=>
 ∃J18:JP,(
 ∃(I19:JP) (m20:JN),I19 [.int .i64 0] w17∧
 ∀_:Env,∀n21 w22,I19 [.int .i64 n21] w22→
 bif (decide (n21<(s1l:Int))) then (
 bif (decide (n21<50)) then (
 Qaa a15 w22.drew fun n23 s24b s24l s24c n25 s26b s26l s26c s27b s27l s27c=>
 ixS s1b s1l n21 7 fun a28=>
 Qiq a28 w22.drew fun n29 n30 n31 n32 n33 n34 n35=>
 Calls Pg Qg1 #[.pointer p2,.agg #[.int .i64 n23,.slice s24b s24l s24c,.int .i64 n25,.slice s26b s26l s26c,.slice s27b s27l s27c],.agg #[.int .i64 n29,.int .i64 n30,.int .i64 n31,.int .i64 n32,.int .i64 n33,.int .i64 n34,.int .i32 n35]] w22.drew fun e43 w42=>∃n36 s37b s37l s37c n38 s39b s39l s39c s40b s40l s40c b41,e43=.returned (.tuple #[.agg #[.int .i64 n36,.slice s37b s37l s37c,.int .i64 n38,.slice s39b s39l s39c,.slice s40b s40l s40c],.bool b41])∧
 sts a15 0 [.int .i64 n36,.slice s37b s37l s37c,.int .i64 n38,.slice s39b s39l s39c,.slice s40b s40l s40c] w42 fun w44=>
 (I19 [.int .i64 (IntKind.wrap .i64 (n21+1))] w44∧m20 [.int .i64 (IntKind.wrap .i64 (n21+1))] w44<m20 [.int .i64 n21] w22)) else (
 J18 [] w22)) else (
 J18 [] w22))∧∀_:Env,∀w45,J18 [] w45→
 0≤(IntKind.wrap .i64 (2*(IntKind.wrap .i64 (1+(IntKind.wrap .i64 (Int.tmod (IntKind.wrap .u64 n0) (9:Int)))))))∧(IntKind.wrap .i64 (2*(IntKind.wrap .i64 (1+(IntKind.wrap .i64 (Int.tmod (IntKind.wrap .u64 n0) (9:Int)))))))≤(IntKind.wrap .i64 (2*(IntKind.wrap .i64 (1+(IntKind.wrap .i64 (Int.tmod (IntKind.wrap .u64 n0) (9:Int)))))))∧(8:Int)*(IntKind.wrap .i64 (2*(IntKind.wrap .i64 (1+(IntKind.wrap .i64 (Int.tmod (IntKind.wrap .u64 n0) (9:Int)))))))≤140737488355328∧alo (Qau #[(.int .i64 0)] (Int.toNat (IntKind.wrap .i64 (2*(IntKind.wrap .i64 (1+(IntKind.wrap .i64 (Int.tmod (IntKind.wrap .u64 n0) (9:Int))))))))) Qbe w45 fun a46 w47=>
 Qad (a15.add 2) w47 fun n48 s49b s49l s49c=>
 Calls Pg Qit #[.agg #[.int .i64 n48,.slice s49b s49l s49c]] w47 fun e52 w51=>∃s50b s50l s50c,e52=.returned (.slice s50b s50l s50c)∧
 ∃(I53:JP) (m54:JN),I53 [.int .i64 0] w51∧
 ∀_:Env,∀n55 w56,I53 [.int .i64 n55] w56→
 bif (decide (n55<(s50l:Int))) then (
 ∃(I57:JP) (m58:JN),I57 [.int .i64 0] w56∧
 ∀_:Env,∀n59 w60,I57 [.int .i64 n59] w60→
 ixS s50b s50l n55 1 fun a61=>
 ldS a61 w60 fun s62b s62l s62c=>
 bif (decide (n59<(s62l:Int))) then (
 ixS s50b s50l n55 1 fun a63=>
 ldS a63 w60 fun s64b s64l s64c=>
 ixS s64b s64l n59 1 fun a65=>
 ldI .i64 a65 w60 fun n66=>
 ixS (some a46) (Int.toNat (IntKind.wrap .i64 (2*(IntKind.wrap .i64 (1+(IntKind.wrap .i64 (Int.tmod (IntKind.wrap .u64 n0) (9:Int)))))))) n66 1 fun a67=>
 sto a67 (.int .i64 n55) w60 fun w68=>
 (I57 [.int .i64 (IntKind.wrap .i64 (n59+1))] w68∧m58 [.int .i64 (IntKind.wrap .i64 (n59+1))] w68<m58 [.int .i64 n59] w60)) else (
 (I53 [.int .i64 (IntKind.wrap .i64 (n55+1))] w60∧m54 [.int .i64 (IntKind.wrap .i64 (n55+1))] w60<m54 [.int .i64 n55] w56))) else (
 Qaa a15 w56 fun n69 s70b s70l s70c n71 s72b s72l s72c s73b s73l s73c=>
 Calls Pg Qg9 #[.agg #[.int .i64 n69,.slice s70b s70l s70c,.int .i64 n71,.slice s72b s72l s72c,.slice s73b s73l s73c]] w56 fun e77 w76=>∃s74b s74l s74c s75b s75l s75c,e77=.returned (.tuple #[.slice s74b s74l s74c,.slice s75b s75l s75c])∧
 Calls Pg Qca #[.int .i64 (IntKind.wrap .i64 (1+(IntKind.wrap .i64 (Int.tmod (IntKind.wrap .u64 n0) (9:Int)))))] w76 fun e80 w79=>∃s78b s78l s78c,e80=.returned (.slice s78b s78l s78c)∧
 Calls Pg Qca #[.int .i64 (IntKind.wrap .i64 ((s50l:Int)+1))] w79 fun e83 w82=>∃s81b s81l s81c,e83=.returned (.slice s81b s81l s81c)∧
 0≤(s75l:Int)∧(s75l:Int)≤(s75l:Int)∧(1:Int)*(s75l:Int)≤140737488355328∧alo (Qau #[(.bool false)] (Int.toNat (s75l:Int))) Qmr w82 fun a84 w85=>
 ∃(I86:JP) (m87:JN),I86 [.slice s78b s78l s78c,.slice s81b s81l s81c,.int .i64 0] w85∧
 ∀_:Env,∀s88b s88l s88c s89b s89l s89c n90 w91,I86 [.slice s88b s88l s88c,.slice s89b s89l s89c,.int .i64 n90] w91→
 bif (decide (n90<(s75l:Int))) then (
 ixS s75b s75l n90 1 fun a92=>
 ldI .i64 a92 w91 fun n93=>
 Calls Pg Qfv #[.pointer p2,.int .i64 n93] w91 fun e97 w96=>∃b94 v95,e97=.returned (.tuple #[.bool b94,v95])∧
 isI v95∧bif (!(nilI v95)) then (
 R (.bool false) w96) else (
 ixS (some a84) (Int.toNat (s75l:Int)) n90 1 fun a98=>
 sto a98 (.bool b94) w96 fun w99=>
 bif b94 then (
 ixS s74b s74l n90 3 fun a100=>
 ldI .i64 a100 w99.drew fun n101=>
 ixS s74b s74l n90 3 fun a102=>
 ldI .i64 (a102.add 1) w99.drew fun n103=>
 Calls Pg Qb1 #[.slice s88b s88l s88c,.int .i64 n101,.int .i64 n103] w99.drew fun e107 w106=>∃s104b s104l s104c b105,e107=.returned (.tuple #[.slice s104b s104l s104c,.bool b105])∧
 bif (!b105) then (
 R (.bool false) w106) else (
 (I86 [.slice s104b s104l s104c,.slice s89b s89l s89c,.int .i64 (IntKind.wrap .i64 (n90+1))] w106∧m87 [.slice s104b s104l s104c,.slice s89b s89l s89c,.int .i64 (IntKind.wrap .i64 (n90+1))] w106<m87 [.slice s88b s88l s88c,.slice s89b s89l s89c,.int .i64 n90] w91))) else (
 ixS s75b s75l n90 1 fun a108=>
 ldI .i64 a108 w99.drew fun n109=>
 ixS (some a46) (Int.toNat (IntKind.wrap .i64 (2*(IntKind.wrap .i64 (1+(IntKind.wrap .i64 (Int.tmod (IntKind.wrap .u64 n0) (9:Int)))))))) (IntKind.wrap .i64 (2*n109)) 1 fun a110=>
 ldI .i64 a110 w99.drew fun n111=>
 ixS s75b s75l n90 1 fun a112=>
 ldI .i64 a112 w99.drew fun n113=>
 ixS (some a46) (Int.toNat (IntKind.wrap .i64 (2*(IntKind.wrap .i64 (1+(IntKind.wrap .i64 (Int.tmod (IntKind.wrap .u64 n0) (9:Int)))))))) (IntKind.wrap .i64 ((IntKind.wrap .i64 (2*n113))+1)) 1 fun a114=>
 ldI .i64 a114 w99.drew fun n115=>
 Calls Pg Qb1 #[.slice s89b s89l s89c,.int .i64 n111,.int .i64 n115] w99.drew fun e119 w118=>∃s116b s116l s116c b117,e119=.returned (.tuple #[.slice s116b s116l s116c,.bool b117])∧
 bif (!b117) then (
 R (.bool false) w118) else (
 (I86 [.slice s88b s88l s88c,.slice s116b s116l s116c,.int .i64 (IntKind.wrap .i64 (n90+1))] w118∧m87 [.slice s88b s88l s88c,.slice s116b s116l s116c,.int .i64 (IntKind.wrap .i64 (n90+1))] w118<m87 [.slice s88b s88l s88c,.slice s89b s89l s89c,.int .i64 n90] w91))))) else (
 Qad (a15.add 2) w91 fun n120 s121b s121l s121c=>
 Calls Pg Qem #[.agg #[.int .i64 n120,.slice s121b s121l s121c]] w91 fun e124 w123=>∃s122b s122l s122c,e124=.returned (.slice s122b s122l s122c)∧
 ∃(I125:JP) (m126:JN),I125 [.int .i64 0] w123∧
 ∀_:Env,∀n127 w128,I125 [.int .i64 n127] w128→
 bif (decide (n127<(s75l:Int))) then (
 ixS s74b s74l n127 3 fun a129=>
 ldI .i64 a129 w128.drew fun n130=>
 ixS s88b s88l n130 1 fun a131=>
 ldI .i64 a131 w128.drew fun n132=>
 ixS s74b s74l n127 3 fun a133=>
 ldI .i64 (a133.add 1) w128.drew fun n134=>
 ixS s88b s88l n134 1 fun a135=>
 ldI .i64 a135 w128.drew fun n136=>
 bif (n132 != n136) then (
 R (.bool false) w128.drew) else (
 ∃(I137:JP) (m138:JN),I137 [.int .i64 0] w128.drew∧
 ∀_:Env,∀n139 w140,I137 [.int .i64 n139] w140→
 bif (decide (n139<(s75l:Int))) then (
 ixS s74b s74l n127 3 fun a141=>
 ldI .i64 a141 w140.drew fun n142=>
 ixS s122b s122l n142 1 fun a143=>
 ldI .i64 a143 w140.drew fun n144=>
 ixS s74b s74l n139 3 fun a145=>
 ldI .i64 a145 w140.drew fun n146=>
 ixS s122b s122l n146 1 fun a147=>
 ldI .i64 a147 w140.drew fun n148=>
 bif (n144==n148) then (
 ixS s75b s75l n127 1 fun a149=>
 ldI .i64 a149 w140.drew fun n150=>
 ixS (some a46) (Int.toNat (IntKind.wrap .i64 (2*(IntKind.wrap .i64 (1+(IntKind.wrap .i64 (Int.tmod (IntKind.wrap .u64 n0) (9:Int)))))))) (IntKind.wrap .i64 (2*n150)) 1 fun a151=>
 ldI .i64 a151 w140.drew fun n152=>
 ixS s89b s89l n152 1 fun a153=>
 ldI .i64 a153 w140.drew fun n154=>
 ixS s75b s75l n139 1 fun a155=>
 ldI .i64 a155 w140.drew fun n156=>
 ixS (some a46) (Int.toNat (IntKind.wrap .i64 (2*(IntKind.wrap .i64 (1+(IntKind.wrap .i64 (Int.tmod (IntKind.wrap .u64 n0) (9:Int)))))))) (IntKind.wrap .i64 (2*n156)) 1 fun a157=>
 ldI .i64 a157 w140.drew fun n158=>
 ixS s89b s89l n158 1 fun a159=>
 ldI .i64 a159 w140.drew fun n160=>
 bif (n154 != n160) then (
 R (.bool false) w140.drew) else (
 (I137 [.int .i64 (IntKind.wrap .i64 (n139+1))] w140.drew∧m138 [.int .i64 (IntKind.wrap .i64 (n139+1))] w140.drew<m138 [.int .i64 n139] w140))) else (
 (I137 [.int .i64 (IntKind.wrap .i64 (n139+1))] w140.drew∧m138 [.int .i64 (IntKind.wrap .i64 (n139+1))] w140.drew<m138 [.int .i64 n139] w140))) else (
 Calls Pg Qca #[.int .i64 (IntKind.wrap .i64 (1+(IntKind.wrap .i64 (Int.tmod (IntKind.wrap .u64 n0) (9:Int)))))] w140 fun e163 w162=>∃s161b s161l s161c,e163=.returned (.slice s161b s161l s161c)∧
 Calls Pg Qca #[.int .i64 (IntKind.wrap .i64 ((s50l:Int)+1))] w162 fun e166 w165=>∃s164b s164l s164c,e166=.returned (.slice s164b s164l s164c)∧
 ∃(I167:JP) (m168:JN),I167 [.slice s161b s161l s161c,.slice s164b s164l s164c,.int .i64 0] w165∧
 ∀_:Env,∀s169b s169l s169c s170b s170l s170c n171 w172,I167 [.slice s169b s169l s169c,.slice s170b s170l s170c,.int .i64 n171] w172→
 bif (decide (n171<(s75l:Int))) then (
 ∃J173:JP,(
 ixS (some a84) (Int.toNat (s75l:Int)) n171 1 fun a174=>
 ldB a174 w172 fun b175=>
 bif b175 then (
 Calls Pg Qft #[.slice s74b s74l s74c,.int .i64 n171,.int .i64 n127] w172 fun e178 w177=>∃b176,e178=.returned (.bool b176)∧
 bif b176 then (
 ixS s74b s74l n171 3 fun a179=>
 ldI .i64 a179 w177.drew fun n180=>
 ixS s74b s74l n171 3 fun a181=>
 ldI .i64 (a181.add 1) w177.drew fun n182=>
 Calls Pg Qb1 #[.slice s169b s169l s169c,.int .i64 n180,.int .i64 n182] w177.drew fun e186 w185=>∃s183b s183l s183c b184,e186=.returned (.tuple #[.slice s183b s183l s183c,.bool b184])∧
 J173 [.slice s183b s183l s183c] w185) else (
 J173 [.slice s169b s169l s169c] w177)) else (
 J173 [.slice s169b s169l s169c] w172))∧∀_:Env,∀s187b s187l s187c w188,J173 [.slice s187b s187l s187c] w188→
 ∃J189:JP,(
 ixS (some a84) (Int.toNat (s75l:Int)) n171 1 fun a190=>
 ldB a190 w188 fun b191=>
 bif (!b191) then (
 Calls Pg Qft #[.slice s74b s74l s74c,.int .i64 n127,.int .i64 n171] w188 fun e194 w193=>∃b192,e194=.returned (.bool b192)∧
 J189 [.bool b192] w193) else (
 J189 [.bool false] w188))∧∀_:Env,∀b195 w196,J189 [.bool b195] w196→
 bif b195 then (
 ixS s75b s75l n171 1 fun a197=>
 ldI .i64 a197 w196.drew fun n198=>
 ixS (some a46) (Int.toNat (IntKind.wrap .i64 (2*(IntKind.wrap .i64 (1+(IntKind.wrap .i64 (Int.tmod (IntKind.wrap .u64 n0) (9:Int)))))))) (IntKind.wrap .i64 (2*n198)) 1 fun a199=>
 ldI .i64 a199 w196.drew fun n200=>
 ixS s75b s75l n171 1 fun a201=>
 ldI .i64 a201 w196.drew fun n202=>
 ixS (some a46) (Int.toNat (IntKind.wrap .i64 (2*(IntKind.wrap .i64 (1+(IntKind.wrap .i64 (Int.tmod (IntKind.wrap .u64 n0) (9:Int)))))))) (IntKind.wrap .i64 ((IntKind.wrap .i64 (2*n202))+1)) 1 fun a203=>
 ldI .i64 a203 w196.drew fun n204=>
 Calls Pg Qb1 #[.slice s170b s170l s170c,.int .i64 n200,.int .i64 n204] w196.drew fun e208 w207=>∃s205b s205l s205c b206,e208=.returned (.tuple #[.slice s205b s205l s205c,.bool b206])∧
 (I167 [.slice s187b s187l s187c,.slice s205b s205l s205c,.int .i64 (IntKind.wrap .i64 (n171+1))] w207∧m168 [.slice s187b s187l s187c,.slice s205b s205l s205c,.int .i64 (IntKind.wrap .i64 (n171+1))] w207<m168 [.slice s169b s169l s169c,.slice s170b s170l s170c,.int .i64 n171] w172)) else (
 (I167 [.slice s187b s187l s187c,.slice s170b s170l s170c,.int .i64 (IntKind.wrap .i64 (n171+1))] w196∧m168 [.slice s187b s187l s187c,.slice s170b s170l s170c,.int .i64 (IntKind.wrap .i64 (n171+1))] w196<m168 [.slice s169b s169l s169c,.slice s170b s170l s170c,.int .i64 n171] w172))) else (
 ixS (some a84) (Int.toNat (s75l:Int)) n127 1 fun a209=>
 ldB a209 w172.drew fun b210=>
 bif (!b210) then (
 ixS s74b s74l n127 3 fun a211=>
 ldI .i64 a211 w172.drew fun n212=>
 ixS s169b s169l n212 1 fun a213=>
 ldI .i64 a213 w172.drew fun n214=>
 ixS s74b s74l n127 3 fun a215=>
 ldI .i64 (a215.add 1) w172.drew fun n216=>
 ixS s169b s169l n216 1 fun a217=>
 ldI .i64 a217 w172.drew fun n218=>
 bif (n214 != n218) then (
 R (.bool false) w172.drew) else (
 ixS (some a84) (Int.toNat (s75l:Int)) n127 1 fun a219=>
 ldB a219 w172.drew fun b220=>
 bif b220 then (
 ixS s75b s75l n127 1 fun a221=>
 ldI .i64 a221 w172.drew fun n222=>
 ixS (some a46) (Int.toNat (IntKind.wrap .i64 (2*(IntKind.wrap .i64 (1+(IntKind.wrap .i64 (Int.tmod (IntKind.wrap .u64 n0) (9:Int)))))))) (IntKind.wrap .i64 (2*n222)) 1 fun a223=>
 ldI .i64 a223 w172.drew fun n224=>
 ixS s170b s170l n224 1 fun a225=>
 ldI .i64 a225 w172.drew fun n226=>
 ixS s75b s75l n127 1 fun a227=>
 ldI .i64 a227 w172.drew fun n228=>
 ixS (some a46) (Int.toNat (IntKind.wrap .i64 (2*(IntKind.wrap .i64 (1+(IntKind.wrap .i64 (Int.tmod (IntKind.wrap .u64 n0) (9:Int)))))))) (IntKind.wrap .i64 ((IntKind.wrap .i64 (2*n228))+1)) 1 fun a229=>
 ldI .i64 a229 w172.drew fun n230=>
 ixS s170b s170l n230 1 fun a231=>
 ldI .i64 a231 w172.drew fun n232=>
 bif (n226 != n232) then (
 R (.bool false) w172.drew) else (
 (I125 [.int .i64 (IntKind.wrap .i64 (n127+1))] w172.drew∧m126 [.int .i64 (IntKind.wrap .i64 (n127+1))] w172.drew<m126 [.int .i64 n127] w128))) else (
 (I125 [.int .i64 (IntKind.wrap .i64 (n127+1))] w172.drew∧m126 [.int .i64 (IntKind.wrap .i64 (n127+1))] w172.drew<m126 [.int .i64 n127] w128)))) else (
 ixS (some a84) (Int.toNat (s75l:Int)) n127 1 fun a233=>
 ldB a233 w172.drew fun b234=>
 bif b234 then (
 ixS s75b s75l n127 1 fun a235=>
 ldI .i64 a235 w172.drew fun n236=>
 ixS (some a46) (Int.toNat (IntKind.wrap .i64 (2*(IntKind.wrap .i64 (1+(IntKind.wrap .i64 (Int.tmod (IntKind.wrap .u64 n0) (9:Int)))))))) (IntKind.wrap .i64 (2*n236)) 1 fun a237=>
 ldI .i64 a237 w172.drew fun n238=>
 ixS s170b s170l n238 1 fun a239=>
 ldI .i64 a239 w172.drew fun n240=>
 ixS s75b s75l n127 1 fun a241=>
 ldI .i64 a241 w172.drew fun n242=>
 ixS (some a46) (Int.toNat (IntKind.wrap .i64 (2*(IntKind.wrap .i64 (1+(IntKind.wrap .i64 (Int.tmod (IntKind.wrap .u64 n0) (9:Int)))))))) (IntKind.wrap .i64 ((IntKind.wrap .i64 (2*n242))+1)) 1 fun a243=>
 ldI .i64 a243 w172.drew fun n244=>
 ixS s170b s170l n244 1 fun a245=>
 ldI .i64 a245 w172.drew fun n246=>
 bif (n240 != n246) then (
 R (.bool false) w172.drew) else (
 (I125 [.int .i64 (IntKind.wrap .i64 (n127+1))] w172.drew∧m126 [.int .i64 (IntKind.wrap .i64 (n127+1))] w172.drew<m126 [.int .i64 n127] w128))) else (
 (I125 [.int .i64 (IntKind.wrap .i64 (n127+1))] w172.drew∧m126 [.int .i64 (IntKind.wrap .i64 (n127+1))] w172.drew<m126 [.int .i64 n127] w128))))))) else (
 Calls Pg Qh5 #[] w128 fun e249 w248=>∃b247,e249=.returned (.bool b247)∧
 R (.bool b247) w248)))
theorem Qkk (n0:Int) (s1b:OA) (s1l s1c:Nat):SH Qh6 [.int .i64 n0,.slice s1b s1l s1c] (Qht n0 s1b s1l s1c):=cdn Tryz.func3 (.s .L (.s .L (.s .L (.j [] [] (.s .L (.c (.s .L .L) .L)) (.s .L (.j [] [] (.s .L (.b (.o [9] [.one (.int .i64)] (.s (.s .L (.c .L .L)) (.s (.b (.r (.t 0 1 (.tk 1 [6,7,8,9,10] [6,10] (.t 2 3 (.tk 5 [6,7,8,9,10] [6,10] (.one 6 (.t 7 3 (.one 10 .fin))))))))) .L))))) (.s .L (.s .L (.s (.s .L (.b (.o [12] [.one (.int .i64)] (.s (.s .L (.c .L .L)) (.s (.b (.s .L (.b (.o [13] [.one (.int .i64)] (.s (.s .L (.c .L .L)) (.s (.b .L) .L)))))) .L))))) (.s .L (.s .L (.s .L (.s (.s .L (.b (.o [16,17,19] [.one .slc,.one .slc,.one (.int .i64)] (.s (.s .L (.c .L .L)) (.s (.b (.s .L (.s (.s .L (.c (.s .L .L) .L)) (.s .L (.s .L (.s (.s .L (.c (.r (.t 0 5 (.tk 5 [11,12,13,14,15,16] [11] (.t 6 4 (.tk 10 [11,12,13,14,15,16] [11] (.one 11 (.t 12 5 .fin))))))) (.r (.t 0 5 (.tk 5 [6,7,8,18,19,20,21,22,23] [18] (.t 6 2 (.tk 8 [18,19,20,21,22,23] [18] (.t 9 4 (.tk 13 [14,15,16,17,18,19,20,21,22,23] [18] (.t 14 3 (.tk 17 [18,19,20,21,22,23] [18] (.one 18 (.t 19 5 .fin))))))))))))) (.s .L (.c (.s .L .L) .L)))))))) .L))))) (.s .L (.s (.s .L (.b (.o [24] [.one (.int .i64)] (.s (.s .L (.c .L .L)) (.s (.b (.s (.s (.r (.t 0 17 .fin)) (.c (.s .L .L) .L)) (.s (.s .L (.b (.o [25] [.one (.int .i64)] (.s (.s .L (.c .L .L)) (.s (.b (.s (.r (.t 0 42 .fin)) (.c (.s .L .L) .L))) .L))))) (.s .L (.s (.s .L (.b (.o [26,27,28] [.one .slc,.one .slc,.one (.int .i64)] (.s (.s .L (.c .L .L)) (.s (.b (.j [26] [.one .slc] (.s .L (.c (.r (.t 0 5 (.tk 5 [11,12,13,14,15] [11] (.t 6 4 (.tk 10 [11,12,13,14,15] [11] (.one 11 (.t 12 4 .fin))))))) .L)) (.j [294] [.one .bool] .L (.c (.r (.t 0 5 (.tk 5 [6,7,8,18,19,20,21,22] [18] (.t 6 2 (.tk 8 [18,19,20,21,22] [18] (.t 9 4 (.tk 13 [14,15,16,17,18,19,20,21,22] [18] (.t 14 3 (.tk 17 [18,19,20,21,22] [18] (.one 18 (.t 19 4 .fin))))))))))) .L)))) .L))))) (.s (.r (.t 0 56 .fin)) (.c (.s .L .L) .L))))))) .L))))) (.s .L .L)))))))))))))))) fun _ _=>by kernel_rfl
end Go.Proofs.YtpmicakdjhoafaaGreatDoor
