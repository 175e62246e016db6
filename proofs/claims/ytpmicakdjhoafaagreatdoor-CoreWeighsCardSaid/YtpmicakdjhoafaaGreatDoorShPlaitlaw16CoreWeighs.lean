/-
What a function does, as one formula, printed by a program of this session out of the translation; the kernel holds the print against the translation.
Conditions: none.
-/
import Derived.Test.YtpmicakdjhoafaaGreatDoorSn
set_option linter.unusedVariables false
namespace Go.Proofs.YtpmicakdjhoafaaGreatDoor
open Go
set_option maxRecDepth 100000
def Qh5 (n0:Int) (s1b:OA) (s1l s1c:Nat) (w:World) (R:RV):Prop:=
 (9:Int)≠0∧Calls Pg Qdy #[.int .i64 (IntKind.wrap .i64 (1+(IntKind.wrap .i64 (Int.tmod (IntKind.wrap .u64 n0) (9:Int))))),.slice s1b s1l s1c] w fun e9 w8=>∃p2 n3 s4b s4l s4c n5 s6b s6l s6c s7b s7l s7c,e9=.returned (.tuple #[.pointer p2,.agg #[.int .i64 n3,.slice s4b s4l s4c,.int .i64 n5,.slice s6b s6l s6c,.slice s7b s7l s7c]])∧
 alo #[.int .i64 0,.slice none 0 0,.int .i64 0,.slice none 0 0,.slice none 0 0] Qal w8 fun a10 w11=>
 sts a10 0 [.int .i64 n3,.slice s4b s4l s4c,.int .i64 n5,.slice s6b s6l s6c,.slice s7b s7l s7c] w11 fun w12=>
 bif (Option.isNone p2) then (
 R (.bool false) w12) else (
 ∃(I13:JP) (m14:JN),I13 [.int .i64 0] w12∧
 ∀_:Env,∀n15 w16,I13 [.int .i64 n15] w16→
 bif (decide (n15<(IntKind.wrap .i64 (1+(IntKind.wrap .i64 (Int.tmod (IntKind.wrap .u64 n0) (9:Int))))))) then (
 Calls Pg Qgk #[.pointer p2,.int .i64 n15] w16 fun e19 w18=>∃b17,e19=.returned (.bool b17)∧
 bif (!b17) then (
 (I13 [.int .i64 (IntKind.wrap .i64 (n15+1))] w18∧m14 [.int .i64 (IntKind.wrap .i64 (n15+1))] w18<m14 [.int .i64 n15] w16)) else (
 Calls Pg Qga #[.pointer p2,.int .i64 n15] w18 fun e23 w22=>∃n20 v21,e23=.returned (.tuple #[.int .i32 n20,v21])∧
 Calls Pg Qdh #[.pointer p2,.int .i64 (IntKind.wrap .i64 (2*n15))] w22 fun e27 w26=>∃n24 v25,e27=.returned (.tuple #[.int .i64 n24,v25])∧
 Calls Pg Qdh #[.pointer p2,.int .i64 (IntKind.wrap .i64 ((IntKind.wrap .i64 (2*n15))+1))] w26 fun e31 w30=>∃n28 v29,e31=.returned (.tuple #[.int .i64 n28,v29])∧
 isI v21∧bif (!(nilI v21)) then (
 R (.bool false) w30) else (
 ∃(I32:JP) (m33:JN),I32 [.bool true,.int .i64 0] w30∧
 ∀_:Env,∀b34 n35 w36,I32 [.bool b34,.int .i64 n35] w36→
 bif (decide (n35<(IntKind.wrap .i64 (1+(IntKind.wrap .i64 (Int.tmod (IntKind.wrap .u64 n0) (9:Int))))))) then (
 Calls Pg Qga #[.pointer p2,.int .i64 n35] w36 fun e40 w39=>∃n37 v38,e40=.returned (.tuple #[.int .i32 n37,v38])∧
 bif b34 then (
 isI v38∧bif (!(nilI v38)) then (
 (I32 [.bool true,.int .i64 (IntKind.wrap .i64 (n35+1))] w39∧m33 [.bool true,.int .i64 (IntKind.wrap .i64 (n35+1))] w39<m33 [.bool b34,.int .i64 n35] w36)) else (
 bif (n35==n15) then (
 (I32 [.bool true,.int .i64 (IntKind.wrap .i64 (n35+1))] w39∧m33 [.bool true,.int .i64 (IntKind.wrap .i64 (n35+1))] w39<m33 [.bool b34,.int .i64 n35] w36)) else (
 bif (decide (n37>(-2147483648))) then (
 (I32 [.bool (decide (n37<2147483647)),.int .i64 (IntKind.wrap .i64 (n35+1))] w39∧m33 [.bool (decide (n37<2147483647)),.int .i64 (IntKind.wrap .i64 (n35+1))] w39<m33 [.bool b34,.int .i64 n35] w36)) else (
 (I32 [.bool false,.int .i64 (IntKind.wrap .i64 (n35+1))] w39∧m33 [.bool false,.int .i64 (IntKind.wrap .i64 (n35+1))] w39<m33 [.bool b34,.int .i64 n35] w36))))) else (
 (I32 [.bool false,.int .i64 (IntKind.wrap .i64 (n35+1))] w39∧m33 [.bool false,.int .i64 (IntKind.wrap .i64 (n35+1))] w39<m33 [.bool b34,.int .i64 n35] w36))) else (
 bif (!b34) then (
 (I13 [.int .i64 (IntKind.wrap .i64 (n15+1))] w36∧m14 [.int .i64 (IntKind.wrap .i64 (n15+1))] w36<m14 [.int .i64 n15] w16)) else (
 Calls Pg Qdr #[.pointer p2,.int .i64 n15,.int .i32 (-2147483648)] w36 fun e43 w42=>∃v41,e43=.returned v41∧
 isI v41∧bif (!(nilI v41)) then (
 R (.bool false) w42) else (
 Calls Pg Qb3 #[.pointer p2,.int .i64 n15] w42 fun e47 w46=>∃b44 v45,e47=.returned (.tuple #[.bool b44,v45])∧
 ∃J48:JP,(
 isI v45∧bif (!(nilI v45)) then (
 R (.bool false) w46) else (
 bif (!(b44==(n24 != n28))) then (
 R (.bool false) w46) else (
 Calls Pg Qdr #[.pointer p2,.int .i64 n15,.int .i32 2147483647] w46 fun e51 w50=>∃v49,e51=.returned v49∧
 isI v49∧bif (!(nilI v49)) then (
 R (.bool false) w50) else (
 J48 [] w50))))∧∀_:Env,∀w52,J48 [] w52→
 Calls Pg Qb3 #[.pointer p2,.int .i64 n15] w52 fun e56 w55=>∃b53 v54,e56=.returned (.tuple #[.bool b53,v54])∧
 Calls Pg Qgb #[.pointer p2,.int .i64 n15] w55 fun e60 w59=>∃b57 v58,e60=.returned (.tuple #[.bool b57,v58])∧
 isI v54∧bif (!(nilI v54)) then (
 R (.bool false) w59) else (
 isI v58∧bif (!(nilI v58)) then (
 R (.bool false) w59) else (
 bif (!(b53==b57)) then (
 R (.bool false) w59) else (
 Calls Pg Qdr #[.pointer p2,.int .i64 n15,.int .i32 n20] w59 fun e63 w62=>∃v61,e63=.returned v61∧
 isI v61∧bif (!(nilI v61)) then (
 R (.bool false) w62) else (
 (I13 [.int .i64 (IntKind.wrap .i64 (n15+1))] w62∧m14 [.int .i64 (IntKind.wrap .i64 (n15+1))] w62<m14 [.int .i64 n15] w16))))))))))) else (
 Calls Pg Qbr #[] w16 fun e66 w65=>∃b64,e66=.returned (.bool b64)∧
 R (.bool b64) w65))
theorem calls_plaitlaw16_CoreWeighs (n0:Int) (s1b:OA) (s1l s1c:Nat):SH Qh8 [.int .i64 n0,.slice s1b s1l s1c] (Qh5 n0 s1b s1l s1c):=cdn Tryz.func5 (.s .L (.s .L (.s .L (.s (.s .L (.c (.s .L .L) .L)) (.s (.s .L (.b (.o [8] [.one (.int .i64)] (.s (.s .L (.c .L .L)) (.s (.b (.s (.s .L (.c .L .L)) (.s .L (.s .L (.s .L (.s (.s .L (.c (.s .L .L) .L)) (.s .L (.s (.s .L (.b (.o [15,16] [.one .bool,.one (.int .i64)] (.s (.s .L (.c .L .L)) (.s (.b (.s .L .L)) .L))))) (.s (.s .L (.c .L .L)) (.s (.s .L (.c (.s .L .L) .L)) (.s .L (.j [] [] (.s .L (.c (.s .L .L) .L)) (.s .L (.s .L (.s .L (.c (.s .L .L) .L)))))))))))))))) .L))))) (.s .L .L)))))) fun _ _=>by kernel_rfl
end Go.Proofs.YtpmicakdjhoafaaGreatDoor
