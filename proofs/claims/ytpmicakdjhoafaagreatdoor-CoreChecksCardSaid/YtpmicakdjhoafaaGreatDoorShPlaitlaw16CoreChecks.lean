/-
What a function does, as one formula, printed by a program of this session out of the translation; the kernel holds the print against the translation.
Conditions: none.
-/
import Derived.Test.YtpmicakdjhoafaaGreatDoorSn
set_option linter.unusedVariables false
namespace Go.Proofs.YtpmicakdjhoafaaGreatDoor
open Go
set_option maxRecDepth 100000
def Qh6 (n0:Int) (s1b:OA) (s1l s1c:Nat) (n2 n3:Int) (w:World) (R:RV):Prop:=
 alo #[.int .i64 n2,.int .i64 n3] Qau w fun a4 w5=>
 Calls Pg Qgl #[.pointer none,.int .i64 0,.int .i64 0] w5 fun e9 w8=>∃b6 v7,e9=.returned (.tuple #[.bool b6,v7])∧
 Calls Pg Qfo #[.pointer none,.int .i64 0] w8 fun e13 w12=>∃s10b s10l s10c v11,e13=.returned (.tuple #[.slice s10b s10l s10c,v11])∧
 Calls Pg Qb3 #[.pointer none,.int .i64 0] w12 fun e17 w16=>∃b14 v15,e17=.returned (.tuple #[.bool b14,v15])∧
 Calls Pg fn_core_Map_Next #[.pointer none,.int .i64 0] w16 fun e21 w20=>∃n18 v19,e21=.returned (.tuple #[.int .i64 n18,v19])∧
 ∃J22:JP,(
 Calls Pg Qao #[v7] w20 fun e25 w24=>∃n23,e25=.returned (.int .i64 n23)∧
 bif (n23 != 1) then (
 R (.bool false) w24) else (
 Calls Pg Qao #[v11] w24 fun e28 w27=>∃n26,e28=.returned (.int .i64 n26)∧
 bif (n26 != 1) then (
 R (.bool false) w27) else (
 Calls Pg Qao #[v15] w27 fun e31 w30=>∃n29,e31=.returned (.int .i64 n29)∧
 bif (n29 != 1) then (
 R (.bool false) w30) else (
 Calls Pg Qao #[v19] w30 fun e34 w33=>∃n32,e34=.returned (.int .i64 n32)∧
 bif (n32 != 1) then (
 R (.bool false) w33) else (
 Calls Pg Qay #[.pointer none,.int .i64 0] w33 fun e37 w36=>∃v35,e37=.returned v35∧
 Calls Pg Qao #[v35] w36 fun e40 w39=>∃n38,e40=.returned (.int .i64 n38)∧
 bif (n38 != 1) then (
 R (.bool false) w39) else (
 Calls Pg Qbo #[.pointer none,.int .i64 0] w39 fun e43 w42=>∃v41,e43=.returned v41∧
 Calls Pg Qao #[v41] w42 fun e46 w45=>∃n44,e46=.returned (.int .i64 n44)∧
 bif (n44 != 1) then (
 R (.bool false) w45) else (
 Calls Pg Qc4 #[.pointer none,.agg #[.int .i64 0,.int .i64 0]] w45 fun e49 w48=>∃v47,e49=.returned v47∧
 Calls Pg Qao #[v47] w48 fun e52 w51=>∃n50,e52=.returned (.int .i64 n50)∧
 bif (n50 != 1) then (
 R (.bool false) w51) else (
 Calls Pg fn_core_Map_Live #[.pointer none,.int .i64 0] w51 fun e55 w54=>∃b53,e55=.returned (.bool b53)∧
 bif b53 then (
 R (.bool false) w54) else (
 Calls Pg Qgk #[.pointer none,.int .i64 0] w54 fun e58 w57=>∃b56,e58=.returned (.bool b56)∧
 bif b56 then (
 R (.bool false) w57) else (
 Calls Pg Qdz #[.pointer none] w57 fun e61 w60=>∃n59,e61=.returned (.int .i64 n59)∧
 bif (n59 != 0) then (
 R (.bool false) w60) else (
 Calls Pg Qfn #[.pointer none] w60 fun e64 w63=>∃n62,e64=.returned (.int .i64 n62)∧
 bif (n62 != 0) then (
 R (.bool false) w63) else (
 Calls Pg Qbs #[.pointer none] w63 fun e70 w69=>∃n65 n66 n67 n68,e70=.returned (.agg #[.int .i64 n65,.int .i64 n66,.int .i64 n67,.int .i64 n68])∧
 ∃b71 w72,(do eqGuard .neq Qav (.tmp 105) (.tmp 106) (.agg #[.int .i64 n65,.int .i64 n66,.int .i64 n67,.int .i64 n68]) (.agg #[.int .i64 0,.int .i64 0,.int .i64 0,.int .i64 0]);binOp .neq Qav (.agg #[.int .i64 n65,.int .i64 n66,.int .i64 n67,.int .i64 n68]) (.agg #[.int .i64 0,.int .i64 0,.int .i64 0,.int .i64 0]):Sem Value).run Pg w69=.ok (.bool b71) w72∧
 bif b71 then (
 R (.bool false) w72) else (
 J22 [] w72)))))))))))))∧∀_:Env,∀w73,J22 [] w73→
 ∃J74:JP,(
 bif (decide (n0<1)) then (
 Calls Pg Qgi #[.int .i64 n0] w73 fun e78 w77=>∃p75 v76,e78=.returned (.tuple #[.pointer p75,v76])∧
 Calls Pg Qao #[v76] w77 fun e81 w80=>∃n79,e81=.returned (.int .i64 n79)∧
 bif (n79==1) then (
 bif (Option.isNone p75) then (
 Calls Pg Qbr #[] w80 fun e84 w83=>∃b82,e84=.returned (.bool b82)∧
 R (.bool b82) w83) else (
 R (.bool false) w80)) else (
 R (.bool false) w80)) else (
 bif (decide (n0>1048576)) then (
 Calls Pg Qgi #[.int .i64 n0] w73 fun e88 w87=>∃p85 v86,e88=.returned (.tuple #[.pointer p85,v86])∧
 Calls Pg Qao #[v86] w87 fun e91 w90=>∃n89,e91=.returned (.int .i64 n89)∧
 bif (n89==1) then (
 bif (Option.isNone p85) then (
 Calls Pg Qbr #[] w90 fun e94 w93=>∃b92,e94=.returned (.bool b92)∧
 R (.bool b92) w93) else (
 R (.bool false) w90)) else (
 R (.bool false) w90)) else (
 J74 [] w73)))∧∀_:Env,∀w95,J74 [] w95→
 Calls Pg Qgi #[.int .i64 (if (9:Int)<n0 then (9:Int) else n0)] w95 fun e99 w98=>∃p96 v97,e99=.returned (.tuple #[.pointer p96,v97])∧
 ∃J100:JP,(
 isI v97∧bif (!(nilI v97)) then (
 R (.bool false) w98) else (
 bif (Option.isNone p96) then (
 R (.bool false) w98) else (
 J100 [] w98)))∧∀_:Env,∀w101,J100 [] w101→
 Calls Pg Qg2 #[.int .i64 (if (9:Int)<n0 then (9:Int) else n0)] w101 fun e108 w107=>∃n102 s103b s103l s103c n104 s105b s105l s105c s106b s106l s106c,e108=.returned (.agg #[.int .i64 n102,.slice s103b s103l s103c,.int .i64 n104,.slice s105b s105l s105c,.slice s106b s106l s106c])∧
 alo #[.int .i64 0,.slice none 0 0,.int .i64 0,.slice none 0 0,.slice none 0 0] Qal w107 fun a109 w110=>
 sts a109 0 [.int .i64 n102,.slice s103b s103l s103c,.int .i64 n104,.slice s105b s105l s105c,.slice s106b s106l s106c] w110 fun w111=>
 ∃J112:JP,(
 ∃(I113:JP) (m114:JN),I113 [.int .i64 0] w111∧
 ∀_:Env,∀n115 w116,I113 [.int .i64 n115] w116→
 bif (decide (n115<(s1l:Int))) then (
 bif (decide (n115<30)) then (
 Qaa a109 w116.drew fun n117 s118b s118l s118c n119 s120b s120l s120c s121b s121l s121c=>
 ixS s1b s1l n115 7 fun a122=>
 ld_plaitlaw16_Act a122 w116.drew fun n123 n124 n125 n126 n127 n128 n129=>
 Calls Pg Qhq #[.pointer p96,.agg #[.int .i64 n117,.slice s118b s118l s118c,.int .i64 n119,.slice s120b s120l s120c,.slice s121b s121l s121c],.agg #[.int .i64 n123,.int .i64 n124,.int .i64 n125,.int .i64 n126,.int .i64 n127,.int .i64 n128,.int .i32 n129]] w116.drew fun e137 w136=>∃n130 s131b s131l s131c n132 s133b s133l s133c s134b s134l s134c b135,e137=.returned (.tuple #[.agg #[.int .i64 n130,.slice s131b s131l s131c,.int .i64 n132,.slice s133b s133l s133c,.slice s134b s134l s134c],.bool b135])∧
 sts a109 0 [.int .i64 n130,.slice s131b s131l s131c,.int .i64 n132,.slice s133b s133l s133c,.slice s134b s134l s134c] w136 fun w138=>
 (I113 [.int .i64 (IntKind.wrap .i64 (n115+1))] w138∧m114 [.int .i64 (IntKind.wrap .i64 (n115+1))] w138<m114 [.int .i64 n115] w116)) else (
 J112 [] w116)) else (
 J112 [] w116))∧∀_:Env,∀w139,J112 [] w139→
 ∃J140:JP,(
 Qaa a109 w139.drew fun n141 s142b s142l s142c n143 s144b s144l s144c s145b s145l s145c=>
 ldI .i64 a4 w139.drew fun n146=>
 ldI .i64 (a4.add 1) w139.drew fun n147=>
 ixA a4 2 (0:Int) 1 fun a148=>
 ldI .i64 a148 w139.drew fun n149=>
 (2:Int)≠0∧Qaa a109 w139.drew fun n150 s151b s151l s151c n152 s153b s153l s153c s154b s154l s154c=>
 ixA a4 2 (1:Int) 1 fun a155=>
 ldI .i64 a155 w139.drew fun n156=>
 ixA a4 2 (0:Int) 1 fun a157=>
 ldI .i64 a157 w139.drew fun n158=>
 (Calls Pg Qai #[.agg #[.int .i64 n141,.slice s142b s142l s142c,.int .i64 n143,.slice s144b s144l s144c,.slice s145b s145l s145c],.agg #[.int .i64 n146,.int .i64 n147],.bool ((Int.tmod n149 (2:Int))==0)] w139.drew fun e162 w161=>∃n159 n160,e162=.returned (.agg #[.int .i64 n159,.int .i64 n160])∧
 w161.cell? a157=some (.int .i64 n158)∧w161.cell? a155=some (.int .i64 n156)∧kps w161 a109 0 [.int .i64 n150,.slice s151b s151l s151c,.int .i64 n152,.slice s153b s153l s153c,.slice s154b s154l s154c] (
 (Calls Pg Qai #[.agg #[.int .i64 n150,.slice s151b s151l s151c,.int .i64 n152,.slice s153b s153l s153c,.slice s154b s154l s154c],.agg #[.int .i64 n156,.int .i64 n158],.bool false] w161 fun e166 w165=>∃n163 n164,e166=.returned (.agg #[.int .i64 n163,.int .i64 n164])∧
 (alo #[.int .i64 0,.int .i64 0] Qau w165 fun a167 w168=>
 alo #[.int .i64 0,.int .i64 0] Qau w168 fun a169 w170=>
 sto a167 (.int .i64 n159) w170 fun w171=>
 sto (a167.add 1) (.int .i64 n160) w171 fun w172=>
 sto a169 (.int .i64 n163) w172 fun w173=>
 sto (a169.add 1) (.int .i64 n164) w173 fun w174=>
 J140 [.pointer (some a167),.pointer (some a169)] w174)∧(
 alo #[.int .i64 0,.int .i64 0] Qau w165 fun a175 w176=>
 alo #[.int .i64 0,.int .i64 0] Qau w176 fun a177 w178=>
 sto a177 (.int .i64 n159) w178 fun w179=>
 sto (a177.add 1) (.int .i64 n160) w179 fun w180=>
 sto a175 (.int .i64 n163) w180 fun w181=>
 sto (a175.add 1) (.int .i64 n164) w181 fun w182=>
 J140 [.pointer (some a177),.pointer (some a175)] w182))∧(
 alo #[.int .i64 0,.int .i64 0] Qau w161 fun a183 w184=>
 w184.cell? a157=some (.int .i64 n158)∧w184.cell? a155=some (.int .i64 n156)∧kps w184 a109 0 [.int .i64 n150,.slice s151b s151l s151c,.int .i64 n152,.slice s153b s153l s153c,.slice s154b s154l s154c] (
 (Calls Pg Qai #[.agg #[.int .i64 n150,.slice s151b s151l s151c,.int .i64 n152,.slice s153b s153l s153c,.slice s154b s154l s154c],.agg #[.int .i64 n156,.int .i64 n158],.bool false] w184 fun e188 w187=>∃n185 n186,e188=.returned (.agg #[.int .i64 n185,.int .i64 n186])∧
 alo #[.int .i64 0,.int .i64 0] Qau w187 fun a189 w190=>
 sto a183 (.int .i64 n159) w190 fun w191=>
 sto (a183.add 1) (.int .i64 n160) w191 fun w192=>
 sto a189 (.int .i64 n185) w192 fun w193=>
 sto (a189.add 1) (.int .i64 n186) w193 fun w194=>
 J140 [.pointer (some a183),.pointer (some a189)] w194)∧(
 alo #[.int .i64 0,.int .i64 0] Qau w184 fun a195 w196=>
 w196.cell? a157=some (.int .i64 n158)∧w196.cell? a155=some (.int .i64 n156)∧kps w196 a109 0 [.int .i64 n150,.slice s151b s151l s151c,.int .i64 n152,.slice s153b s153l s153c,.slice s154b s154l s154c] (
 Calls Pg Qai #[.agg #[.int .i64 n150,.slice s151b s151l s151c,.int .i64 n152,.slice s153b s153l s153c,.slice s154b s154l s154c],.agg #[.int .i64 n156,.int .i64 n158],.bool false] w196 fun e200 w199=>∃n197 n198,e200=.returned (.agg #[.int .i64 n197,.int .i64 n198])∧
 sto a183 (.int .i64 n159) w199 fun w201=>
 sto (a183.add 1) (.int .i64 n160) w201 fun w202=>
 sto a195 (.int .i64 n197) w202 fun w203=>
 sto (a195.add 1) (.int .i64 n198) w203 fun w204=>
 J140 [.pointer (some a183),.pointer (some a195)] w204))))∧(
 alo #[.int .i64 0,.int .i64 0] Qau w161 fun a205 w206=>
 w206.cell? a157=some (.int .i64 n158)∧w206.cell? a155=some (.int .i64 n156)∧kps w206 a109 0 [.int .i64 n150,.slice s151b s151l s151c,.int .i64 n152,.slice s153b s153l s153c,.slice s154b s154l s154c] (
 (Calls Pg Qai #[.agg #[.int .i64 n150,.slice s151b s151l s151c,.int .i64 n152,.slice s153b s153l s153c,.slice s154b s154l s154c],.agg #[.int .i64 n156,.int .i64 n158],.bool false] w206 fun e210 w209=>∃n207 n208,e210=.returned (.agg #[.int .i64 n207,.int .i64 n208])∧
 alo #[.int .i64 0,.int .i64 0] Qau w209 fun a211 w212=>
 sto a211 (.int .i64 n159) w212 fun w213=>
 sto (a211.add 1) (.int .i64 n160) w213 fun w214=>
 sto a205 (.int .i64 n207) w214 fun w215=>
 sto (a205.add 1) (.int .i64 n208) w215 fun w216=>
 J140 [.pointer (some a211),.pointer (some a205)] w216)∧(
 alo #[.int .i64 0,.int .i64 0] Qau w206 fun a217 w218=>
 w218.cell? a157=some (.int .i64 n158)∧w218.cell? a155=some (.int .i64 n156)∧kps w218 a109 0 [.int .i64 n150,.slice s151b s151l s151c,.int .i64 n152,.slice s153b s153l s153c,.slice s154b s154l s154c] (
 Calls Pg Qai #[.agg #[.int .i64 n150,.slice s151b s151l s151c,.int .i64 n152,.slice s153b s153l s153c,.slice s154b s154l s154c],.agg #[.int .i64 n156,.int .i64 n158],.bool false] w218 fun e222 w221=>∃n219 n220,e222=.returned (.agg #[.int .i64 n219,.int .i64 n220])∧
 sto a217 (.int .i64 n159) w221 fun w223=>
 sto (a217.add 1) (.int .i64 n160) w223 fun w224=>
 sto a205 (.int .i64 n219) w224 fun w225=>
 sto (a205.add 1) (.int .i64 n220) w225 fun w226=>
 J140 [.pointer (some a217),.pointer (some a205)] w226))))))∧(
 alo #[.int .i64 0,.int .i64 0] Qau w139.drew fun a227 w228=>
 w228.cell? a157=some (.int .i64 n158)∧w228.cell? a155=some (.int .i64 n156)∧kps w228 a109 0 [.int .i64 n150,.slice s151b s151l s151c,.int .i64 n152,.slice s153b s153l s153c,.slice s154b s154l s154c] (
 w228.cell? a148=some (.int .i64 n149)∧w228.cell? a4=some (.int .i64 n146)∧w228.cell? (a4.add 1)=some (.int .i64 n147)∧kps w228 a109 0 [.int .i64 n141,.slice s142b s142l s142c,.int .i64 n143,.slice s144b s144l s144c,.slice s145b s145l s145c] (
 (Calls Pg Qai #[.agg #[.int .i64 n141,.slice s142b s142l s142c,.int .i64 n143,.slice s144b s144l s144c,.slice s145b s145l s145c],.agg #[.int .i64 n146,.int .i64 n147],.bool ((Int.tmod n149 (2:Int))==0)] w228 fun e232 w231=>∃n229 n230,e232=.returned (.agg #[.int .i64 n229,.int .i64 n230])∧
 w231.cell? a157=some (.int .i64 n158)∧w231.cell? a155=some (.int .i64 n156)∧kps w231 a109 0 [.int .i64 n150,.slice s151b s151l s151c,.int .i64 n152,.slice s153b s153l s153c,.slice s154b s154l s154c] (
 (Calls Pg Qai #[.agg #[.int .i64 n150,.slice s151b s151l s151c,.int .i64 n152,.slice s153b s153l s153c,.slice s154b s154l s154c],.agg #[.int .i64 n156,.int .i64 n158],.bool false] w231 fun e236 w235=>∃n233 n234,e236=.returned (.agg #[.int .i64 n233,.int .i64 n234])∧
 alo #[.int .i64 0,.int .i64 0] Qau w235 fun a237 w238=>
 sto a227 (.int .i64 n229) w238 fun w239=>
 sto (a227.add 1) (.int .i64 n230) w239 fun w240=>
 sto a237 (.int .i64 n233) w240 fun w241=>
 sto (a237.add 1) (.int .i64 n234) w241 fun w242=>
 J140 [.pointer (some a227),.pointer (some a237)] w242)∧(
 alo #[.int .i64 0,.int .i64 0] Qau w231 fun a243 w244=>
 w244.cell? a157=some (.int .i64 n158)∧w244.cell? a155=some (.int .i64 n156)∧kps w244 a109 0 [.int .i64 n150,.slice s151b s151l s151c,.int .i64 n152,.slice s153b s153l s153c,.slice s154b s154l s154c] (
 Calls Pg Qai #[.agg #[.int .i64 n150,.slice s151b s151l s151c,.int .i64 n152,.slice s153b s153l s153c,.slice s154b s154l s154c],.agg #[.int .i64 n156,.int .i64 n158],.bool false] w244 fun e248 w247=>∃n245 n246,e248=.returned (.agg #[.int .i64 n245,.int .i64 n246])∧
 sto a227 (.int .i64 n229) w247 fun w249=>
 sto (a227.add 1) (.int .i64 n230) w249 fun w250=>
 sto a243 (.int .i64 n245) w250 fun w251=>
 sto (a243.add 1) (.int .i64 n246) w251 fun w252=>
 J140 [.pointer (some a227),.pointer (some a243)] w252))))∧(
 alo #[.int .i64 0,.int .i64 0] Qau w228 fun a253 w254=>
 w254.cell? a157=some (.int .i64 n158)∧w254.cell? a155=some (.int .i64 n156)∧kps w254 a109 0 [.int .i64 n150,.slice s151b s151l s151c,.int .i64 n152,.slice s153b s153l s153c,.slice s154b s154l s154c] (
 w254.cell? a148=some (.int .i64 n149)∧w254.cell? a4=some (.int .i64 n146)∧w254.cell? (a4.add 1)=some (.int .i64 n147)∧kps w254 a109 0 [.int .i64 n141,.slice s142b s142l s142c,.int .i64 n143,.slice s144b s144l s144c,.slice s145b s145l s145c] (
 Calls Pg Qai #[.agg #[.int .i64 n141,.slice s142b s142l s142c,.int .i64 n143,.slice s144b s144l s144c,.slice s145b s145l s145c],.agg #[.int .i64 n146,.int .i64 n147],.bool ((Int.tmod n149 (2:Int))==0)] w254 fun e258 w257=>∃n255 n256,e258=.returned (.agg #[.int .i64 n255,.int .i64 n256])∧
 w257.cell? a157=some (.int .i64 n158)∧w257.cell? a155=some (.int .i64 n156)∧kps w257 a109 0 [.int .i64 n150,.slice s151b s151l s151c,.int .i64 n152,.slice s153b s153l s153c,.slice s154b s154l s154c] (
 Calls Pg Qai #[.agg #[.int .i64 n150,.slice s151b s151l s151c,.int .i64 n152,.slice s153b s153l s153c,.slice s154b s154l s154c],.agg #[.int .i64 n156,.int .i64 n158],.bool false] w257 fun e262 w261=>∃n259 n260,e262=.returned (.agg #[.int .i64 n259,.int .i64 n260])∧
 sto a227 (.int .i64 n255) w261 fun w263=>
 sto (a227.add 1) (.int .i64 n256) w263 fun w264=>
 sto a253 (.int .i64 n259) w264 fun w265=>
 sto (a253.add 1) (.int .i64 n260) w265 fun w266=>
 J140 [.pointer (some a227),.pointer (some a253)] w266)))))))∧(
 alo #[.int .i64 0,.int .i64 0] Qau w139.drew fun a267 w268=>
 w268.cell? a157=some (.int .i64 n158)∧w268.cell? a155=some (.int .i64 n156)∧kps w268 a109 0 [.int .i64 n150,.slice s151b s151l s151c,.int .i64 n152,.slice s153b s153l s153c,.slice s154b s154l s154c] (
 w268.cell? a148=some (.int .i64 n149)∧w268.cell? a4=some (.int .i64 n146)∧w268.cell? (a4.add 1)=some (.int .i64 n147)∧kps w268 a109 0 [.int .i64 n141,.slice s142b s142l s142c,.int .i64 n143,.slice s144b s144l s144c,.slice s145b s145l s145c] (
 (Calls Pg Qai #[.agg #[.int .i64 n141,.slice s142b s142l s142c,.int .i64 n143,.slice s144b s144l s144c,.slice s145b s145l s145c],.agg #[.int .i64 n146,.int .i64 n147],.bool ((Int.tmod n149 (2:Int))==0)] w268 fun e272 w271=>∃n269 n270,e272=.returned (.agg #[.int .i64 n269,.int .i64 n270])∧
 w271.cell? a157=some (.int .i64 n158)∧w271.cell? a155=some (.int .i64 n156)∧kps w271 a109 0 [.int .i64 n150,.slice s151b s151l s151c,.int .i64 n152,.slice s153b s153l s153c,.slice s154b s154l s154c] (
 (Calls Pg Qai #[.agg #[.int .i64 n150,.slice s151b s151l s151c,.int .i64 n152,.slice s153b s153l s153c,.slice s154b s154l s154c],.agg #[.int .i64 n156,.int .i64 n158],.bool false] w271 fun e276 w275=>∃n273 n274,e276=.returned (.agg #[.int .i64 n273,.int .i64 n274])∧
 alo #[.int .i64 0,.int .i64 0] Qau w275 fun a277 w278=>
 sto a277 (.int .i64 n269) w278 fun w279=>
 sto (a277.add 1) (.int .i64 n270) w279 fun w280=>
 sto a267 (.int .i64 n273) w280 fun w281=>
 sto (a267.add 1) (.int .i64 n274) w281 fun w282=>
 J140 [.pointer (some a277),.pointer (some a267)] w282)∧(
 alo #[.int .i64 0,.int .i64 0] Qau w271 fun a283 w284=>
 w284.cell? a157=some (.int .i64 n158)∧w284.cell? a155=some (.int .i64 n156)∧kps w284 a109 0 [.int .i64 n150,.slice s151b s151l s151c,.int .i64 n152,.slice s153b s153l s153c,.slice s154b s154l s154c] (
 Calls Pg Qai #[.agg #[.int .i64 n150,.slice s151b s151l s151c,.int .i64 n152,.slice s153b s153l s153c,.slice s154b s154l s154c],.agg #[.int .i64 n156,.int .i64 n158],.bool false] w284 fun e288 w287=>∃n285 n286,e288=.returned (.agg #[.int .i64 n285,.int .i64 n286])∧
 sto a283 (.int .i64 n269) w287 fun w289=>
 sto (a283.add 1) (.int .i64 n270) w289 fun w290=>
 sto a267 (.int .i64 n285) w290 fun w291=>
 sto (a267.add 1) (.int .i64 n286) w291 fun w292=>
 J140 [.pointer (some a283),.pointer (some a267)] w292))))∧(
 alo #[.int .i64 0,.int .i64 0] Qau w268 fun a293 w294=>
 w294.cell? a157=some (.int .i64 n158)∧w294.cell? a155=some (.int .i64 n156)∧kps w294 a109 0 [.int .i64 n150,.slice s151b s151l s151c,.int .i64 n152,.slice s153b s153l s153c,.slice s154b s154l s154c] (
 w294.cell? a148=some (.int .i64 n149)∧w294.cell? a4=some (.int .i64 n146)∧w294.cell? (a4.add 1)=some (.int .i64 n147)∧kps w294 a109 0 [.int .i64 n141,.slice s142b s142l s142c,.int .i64 n143,.slice s144b s144l s144c,.slice s145b s145l s145c] (
 Calls Pg Qai #[.agg #[.int .i64 n141,.slice s142b s142l s142c,.int .i64 n143,.slice s144b s144l s144c,.slice s145b s145l s145c],.agg #[.int .i64 n146,.int .i64 n147],.bool ((Int.tmod n149 (2:Int))==0)] w294 fun e298 w297=>∃n295 n296,e298=.returned (.agg #[.int .i64 n295,.int .i64 n296])∧
 w297.cell? a157=some (.int .i64 n158)∧w297.cell? a155=some (.int .i64 n156)∧kps w297 a109 0 [.int .i64 n150,.slice s151b s151l s151c,.int .i64 n152,.slice s153b s153l s153c,.slice s154b s154l s154c] (
 Calls Pg Qai #[.agg #[.int .i64 n150,.slice s151b s151l s151c,.int .i64 n152,.slice s153b s153l s153c,.slice s154b s154l s154c],.agg #[.int .i64 n156,.int .i64 n158],.bool false] w297 fun e302 w301=>∃n299 n300,e302=.returned (.agg #[.int .i64 n299,.int .i64 n300])∧
 sto a293 (.int .i64 n295) w301 fun w303=>
 sto (a293.add 1) (.int .i64 n296) w303 fun w304=>
 sto a267 (.int .i64 n299) w304 fun w305=>
 sto (a267.add 1) (.int .i64 n300) w305 fun w306=>
 J140 [.pointer (some a293),.pointer (some a267)] w306))))))))∧∀_:Env,∀p307 p308 w309,J140 [.pointer p307,.pointer p308] w309→
 pt p307 fun a310=>
 ixA a310 2 (0:Int) 1 fun a311=>
 ldI .i64 a311 w309 fun n312=>
 pt p307 fun a313=>
 ixA a313 2 (1:Int) 1 fun a314=>
 ldI .i64 a314 w309 fun n315=>
 pt p308 fun a316=>
 ixA a316 2 (0:Int) 1 fun a317=>
 ldI .i64 a317 w309 fun n318=>
 pt p308 fun a319=>
 ixA a319 2 (1:Int) 1 fun a320=>
 ldI .i64 a320 w309 fun n321=>
 Calls Pg fn_core_Map_Legal #[.pointer p96,.agg #[.int .i64 n312,.int .i64 n315],.agg #[.int .i64 n318,.int .i64 n321]] w309 fun e325 w324=>∃b322 v323,e325=.returned (.tuple #[.bool b322,v323])∧
 Qaa a109 w324 fun n326 s327b s327l s327c n328 s329b s329l s329c s330b s330l s330c=>
 pt p307 fun a331=>
 ldI .i64 a331 w324 fun n332=>
 ldI .i64 (a331.add 1) w324 fun n333=>
 Calls Pg Qcc #[.agg #[.int .i64 n326,.slice s327b s327l s327c,.int .i64 n328,.slice s329b s329l s329c,.slice s330b s330l s330c],.agg #[.int .i64 n332,.int .i64 n333]] w324 fun e336 w335=>∃n334,e336=.returned (.int .i64 n334)∧
 ∃J337:JP,(
 bif (n334==0) then (
 Qaa a109 w335 fun n338 s339b s339l s339c n340 s341b s341l s341c s342b s342l s342c=>
 pt p308 fun a343=>
 ldI .i64 a343 w335 fun n344=>
 ldI .i64 (a343.add 1) w335 fun n345=>
 Calls Pg Qcc #[.agg #[.int .i64 n338,.slice s339b s339l s339c,.int .i64 n340,.slice s341b s341l s341c,.slice s342b s342l s342c],.agg #[.int .i64 n344,.int .i64 n345]] w335 fun e348 w347=>∃n346,e348=.returned (.int .i64 n346)∧
 J337 [.int .i64 n346] w347) else (
 J337 [.int .i64 n334] w335))∧∀_:Env,∀n349 w350,J337 [.int .i64 n349] w350→
 ∃J351:JP,(
 Calls Pg Qao #[v323] w350 fun e354 w353=>∃n352,e354=.returned (.int .i64 n352)∧
 bif (n352 != n349) then (
 R (.bool false) w353) else (
 bif (n349==0) then (
 Qad (a109.add 2) w353 fun n355 s356b s356l s356c=>
 pt p307 fun a357=>
 ldI .i64 a357 w353 fun n358=>
 ldI .i64 (a357.add 1) w353 fun n359=>
 pt p308 fun a360=>
 ldI .i64 a360 w353 fun n361=>
 ldI .i64 (a360.add 1) w353 fun n362=>
 Calls Pg Qff #[.agg #[.int .i64 n355,.slice s356b s356l s356c],.agg #[.int .i64 n358,.int .i64 n359],.agg #[.int .i64 n361,.int .i64 n362]] w353 fun e365 w364=>∃b363,e365=.returned (.bool b363)∧
 bif (!(b322==b363)) then (
 R (.bool false) w364) else (
 bif (n349 != 0) then (
 bif b322 then (
 R (.bool false) w364) else (
 J351 [] w364)) else (
 J351 [] w364))) else (
 bif (n349 != 0) then (
 bif b322 then (
 R (.bool false) w353) else (
 J351 [] w353)) else (
 J351 [] w353))))∧∀_:Env,∀w366,J351 [] w366→
 Calls Pg Qfn #[.pointer p96] w366.drew fun e369 w368=>∃n367,e369=.returned (.int .i64 n367)∧
 bif (n367==(if (9:Int)<n0 then (9:Int) else n0)) then (
 ixA a4 2 (0:Int) 1 fun a370=>
 ldI .i64 a370 w368 fun n371=>
 ixA a4 2 (1:Int) 1 fun a372=>
 ldI .i64 a372 w368 fun n373=>
 Qaa a109 w368 fun n374 s375b s375l s375c n376 s377b s377l s377c s378b s378l s378c=>
 ldI .i64 a4 w368 fun n379=>
 ldI .i64 (a4.add 1) w368 fun n380=>
 Calls Pg Qc4 #[.pointer p96,.agg #[.int .i64 n371,.int .i64 n373]] w368 fun e383 w382=>∃v381,e383=.returned v381∧
 w382.cell? a4=some (.int .i64 n379)∧w382.cell? (a4.add 1)=some (.int .i64 n380)∧kps w382 a109 0 [.int .i64 n374,.slice s375b s375l s375c,.int .i64 n376,.slice s377b s377l s377c,.slice s378b s378l s378c] (
 Calls Pg Qao #[v381] w382 fun e386 w385=>∃n384,e386=.returned (.int .i64 n384)∧
 w385.cell? a4=some (.int .i64 n379)∧w385.cell? (a4.add 1)=some (.int .i64 n380)∧kps w385 a109 0 [.int .i64 n374,.slice s375b s375l s375c,.int .i64 n376,.slice s377b s377l s377c,.slice s378b s378l s378c] (
 Calls Pg Qcc #[.agg #[.int .i64 n374,.slice s375b s375l s375c,.int .i64 n376,.slice s377b s377l s377c,.slice s378b s378l s378c],.agg #[.int .i64 n379,.int .i64 n380]] w385 fun e389 w388=>∃n387,e389=.returned (.int .i64 n387)∧
 bif (n384==n387) then (
 Calls Pg Qbr #[] w388 fun e392 w391=>∃b390,e392=.returned (.bool b390)∧
 R (.bool b390) w391) else (
 R (.bool false) w388)))) else (
 R (.bool false) w368)
theorem calls_plaitlaw16_CoreChecks (n0:Int) (s1b:OA) (s1l s1c:Nat) (n2 n3:Int):SH Qh9 [.int .i64 n0,.slice s1b s1l s1c,.agg #[.int .i64 n2,.int .i64 n3]] (Qh6 n0 s1b s1l s1c n2 n3):=cdn Tryz.func8 (.s .L (.s .L (.s .L (.s .L (.s .L (.s .L (.j [] [] (.s .L (.c (.s .L .L) .L)) (.j [] [] (.s .L (.c (.s .L (.s .L .L)) .L)) (.s .L (.s .L (.j [] [] (.s .L (.c (.s .L .L) .L)) (.s .L (.j [] [] (.s .L (.b (.o [22] [.one (.int .i64)] (.s (.s .L (.c .L .L)) (.s (.b (.r (.t 0 1 (.tk 1 [6,7,8,9,10] [6,10] (.t 2 3 (.tk 5 [6,7,8,9,10] [6,10] (.one 6 (.t 7 3 (.one 10 .fin))))))))) .L))))) (.j [23,24] [.one .ptr,.one .ptr] (.r (.tk 0 [6,13,16,17] [6,13,16,17] (.tk 1 [6,13,16,17] [6,13,16,17] (.t 2 1 (.tk 3 [4,5,6,13,16,17] [6,13,16,17] (.t 4 2 (.tk 7 [13,16,17] [13,16,17] (.t 8 1 (.tk 9 [12,13,16,17] [13,16,17] (.t 10 1 (.tk 11 [12,13,16,17] [13,16,17] (.t 12 1 (.thr 6 (.thr 13 (.two 14 (.one 15 (.one 16 (.one 17 .fin))) 15 (.one 14 (.one 16 (.one 17 .fin)))) 14 (.two 13 (.one 15 (.one 16 (.one 17 .fin))) 15 (.one 13 (.one 16 (.one 17 .fin)))) 15 (.two 13 (.one 14 (.one 16 (.one 17 .fin))) 14 (.one 13 (.one 16 (.one 17 .fin))))) 14 (.two 6 (.two 13 (.one 15 (.one 16 (.one 17 .fin))) 15 (.one 13 (.one 16 (.one 17 .fin)))) 15 (.one 6 (.one 13 (.one 16 (.one 17 .fin))))) 15 (.two 6 (.two 13 (.one 14 (.one 16 (.one 17 .fin))) 14 (.one 13 (.one 16 (.one 17 .fin)))) 14 (.one 6 (.one 13 (.one 16 (.one 17 .fin)))))))))))))))))) (.s .L (.s .L (.j [27] [.one (.int .i64)] (.s .L (.c .L .L)) (.j [] [] (.s .L (.c (.s .L .L) .L)) (.s (.r (.t 0 1 (.t 2 1 (.one 1 (.t 3 4 (.tk 7 [10,11,12,15,16,17,18,19,20,21] [11,12,15,19] (.t 8 1 (.tk 9 [10,11,12,15,16,17,18,19,20,21] [11,12,15,19] (.t 10 1 (.tk 13 [15,16,17,18,19,20,21] [15,19] (.tk 14 [15,16,17,18,19,20,21] [15,19] (.one 11 (.one 12 (.one 15 (.t 16 3 (.one 19 (.t 20 2 .fin))))))))))))))))) .L))))))))))))))))))) fun _ _=>by kernel_rfl
end Go.Proofs.YtpmicakdjhoafaaGreatDoor
