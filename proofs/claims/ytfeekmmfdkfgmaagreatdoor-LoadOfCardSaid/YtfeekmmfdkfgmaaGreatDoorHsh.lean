import Derived.Test.YtfeekmmfdkfgmaaGreatDoorLexS
/-
What each function does, as one formula, printed by a program of this session out of the translation; the kernel holds each print against the translation.
Conditions: none.
-/

set_option linter.unusedVariables false
namespace Go.Proofs.YtfeekmmfdkfgmaaGreatDoor
open Go
set_option maxRecDepth 100000
set_option maxHeartbeats 4000000
abbrev Qxi:HL:=[.j 5 [] [],.o [50] [.one (.int .i64)]]
def Qpy (n0:Int) (s1b:OA) (s1l s1c:Nat) (w:World) (R:RV):Prop:=nr Tryz.f40 Qxi [.v (.int .i64 n0),.v (.slice s1b s1l s1c)] w R
theorem Qq3 (n0:Int) (s1b:OA) (s1l s1c:Nat):SH Qp4 [.int .i64 n0,.slice s1b s1l s1c] (Qpy n0 s1b s1l s1c):=cdf Tryz.func40 Qxi
abbrev Qop:HL:=[.o [3,13] [.one .slc,.one (.int .i64)]]
def Qm3 (p0:OA) (w:World) (R:RV):Prop:=nr Tryz.f41 Qop [.v (.pointer p0)] w R
theorem Qto (p0:OA):SH Qny [.pointer p0] (Qm3 p0):=cdf Tryz.func41 Qop
def Qez (p0:OA) (w:World) (R:RV):Prop:=nr Tryz.f49 [] [.v (.pointer p0)] w R
theorem Qgz (p0:OA):SH Qe3 [.pointer p0] (Qez p0):=cdf Tryz.func49 []
def Qhe (p0:OA) (w:World) (R:RV):Prop:=nr Tryz.f51 [] [.v (.pointer p0)] w R
theorem Qi3 (p0:OA):SH Qhz [.pointer p0] (Qhe p0):=cdf Tryz.func51 []
def Qm2 (n0:Int) (w:World) (R:RV):Prop:=nr Tryz.f99 [] [.v (.int .i64 n0)] w R
theorem Qll (n0:Int):SH Qnx [.int .i64 n0] (Qm2 n0):=cdf Tryz.func99 []
def Qyk (n0 n1:Int) (w:World) (R:RV):Prop:=nr Tryz.f111 [] [.a [.v (.int .u32 n0),.v (.int .i64 n1)]] w R
theorem Q0q (n0 n1:Int):SH Qgy [.agg #[.int .u32 n0,.int .i64 n1]] (Qyk n0 n1):=cdf Tryz.func111 []
end Go.Proofs.YtfeekmmfdkfgmaaGreatDoor
/-
What each function does, as one formula, printed by a program of this session out of the translation; the kernel holds each print against the translation.
Conditions: none.
-/

set_option linter.unusedVariables false
namespace Go.Proofs.YtfeekmmfdkfgmaaGreatDoor
open Go
set_option maxRecDepth 100000
set_option maxHeartbeats 4000000
abbrev Qxh:HL:=[.o [8] [.one (.int .i64)]]
def Qwj (s0b:OA) (s0l s0c:Nat) (w:World) (R:RV):Prop:=nr Tryz.f270 Qxh [.v (.slice s0b s0l s0c)] w R
theorem Qy9 (s0b:OA) (s0l s0c:Nat):SH Qwx [.slice s0b s0l s0c] (Qwj s0b s0l s0c):=cdf Tryz.func270 Qxh
def Qjo (n0 n1:Int) (w:World) (R:RV):Prop:=nr Tryz.f271 [] [.v (.int .i32 n0),.v (.int .i32 n1)] w R
theorem Qqk (n0 n1:Int):SH Qjz [.int .i32 n0,.int .i32 n1] (Qjo n0 n1):=cdf Tryz.func271 []
def Qm1 (n0 n1:Int) (w:World) (R:RV):Prop:=nr Tryz.f272 [] [.v (.int .i64 n0),.v (.int .i64 n1)] w R
theorem Qtn (n0 n1:Int):SH Qnw [.int .i64 n0,.int .i64 n1] (Qm1 n0 n1):=cdf Tryz.func272 []
def Qm0 (n0:Int) (w:World) (R:RV):Prop:=nr Tryz.f302 [] [.v (.int .i32 n0)] w R
theorem Qtm (n0:Int):SH Qnv [.int .i32 n0] (Qm0 n0):=cdf Tryz.func302 []
def Qqw (n0:Int) (w:World) (R:RV):Prop:=nr Tryz.f303 [] [.v (.int .i64 n0)] w R
theorem Qv5 (n0:Int):SH Qq2 [.int .i64 n0] (Qqw n0):=cdf Tryz.func303 []
end Go.Proofs.YtfeekmmfdkfgmaaGreatDoor
/-
What each function does, as one formula, printed by a program of this session out of the translation; the kernel holds each print against the translation.
Conditions: none.
-/

set_option linter.unusedVariables false
namespace Go.Proofs.YtfeekmmfdkfgmaaGreatDoor
open Go
set_option maxRecDepth 100000
set_option maxHeartbeats 4000000
def Qqu (p0:OA) (w:World) (R:RV):Prop:=nr Tryz.f17 [] [.v (.pointer p0)] w R
theorem Qv3 (p0:OA):SH Qi9 [.pointer p0] (Qqu p0):=cdf Tryz.func17 []
abbrev Q1x:HL:=[.o [61] [.one (.int .i64)]]
def Q1h (n0:Int) (s1b:OA) (s1l s1c:Nat) (s2b:OA) (s2l s2c:Nat) (s3b:OA) (s3l s3c:Nat) (w:World) (R:RV):Prop:=nr Tryz.f21 Q1x [.v (.int .i64 n0),.v (.slice s1b s1l s1c),.v (.slice s2b s2l s2c),.v (.slice s3b s3l s3c)] w R
theorem Q22 (n0:Int) (s1b:OA) (s1l s1c:Nat) (s2b:OA) (s2l s2c:Nat) (s3b:OA) (s3l s3c:Nat):SH Q1p [.int .i64 n0,.slice s1b s1l s1c,.slice s2b s2l s2c,.slice s3b s3l s3c] (Q1h n0 s1b s1l s1c s2b s2l s2c s3b s3l s3c):=cdf Tryz.func21 Q1x
def Qmz (p0:OA) (w:World) (R:RV):Prop:=nr Tryz.f36 [] [.v (.pointer p0)] w R
theorem Qtl (p0:OA):SH Qnu [.pointer p0] (Qmz p0):=cdr Tryz.func36 []
abbrev Q0w:HL:=[.o [39] [.one (.int .i64)],.r (.t 0 2 (.t 3 4 (.w 2 (.o 7 (.t 8 1 (.o 9 (.t 10 2 .e)))) 7 (.o 2 (.t 8 1 (.o 9 (.t 10 2 .e)))))))]
def Qzy (n0:Int) (w:World) (R:RV):Prop:=nr Tryz.f59 Q0w [.v (.int .i64 n0)] w R
theorem Q08 (n0:Int):SH Q0h [.int .i64 n0] (Qzy n0):=cdf Tryz.func59 Q0w
abbrev Qpw:HL:=[.o [14] [.one (.int .i64)],.o [21] [.one (.int .i64)],.r (.t 0 3 (.k 3 [8,9] [8] (.t 4 2 (.k 6 [8,9] [8] (.t 7 1 (.o 8 (.t 9 1 .e)))))))]
def Qpa (p0:OA) (w:World) (R:RV):Prop:=nr Tryz.f65 Qpw [.v (.pointer p0)] w R
theorem Qum (p0:OA):SH Qpj [.pointer p0] (Qpa p0):=cdf Tryz.func65 Qpw
abbrev Qlw:HL:=[.o [5,6,22] [.one .slc,.one .slc,.one (.int .i64)],.j 7 [] [],.o [97] [.one (.int .i64)]]
def Qkz (p0 s1b:OA) (s1l s1c:Nat) (w:World) (R:RV):Prop:=nr Tryz.f66 Qlw [.v (.pointer p0),.v (.slice s1b s1l s1c)] w R
theorem Qrj (p0 s1b:OA) (s1l s1c:Nat):SH Qle [.pointer p0,.slice s1b s1l s1c] (Qkz p0 s1b s1l s1c):=cdf Tryz.func66 Qlw
def Qqv (p0:OA) (n1:Int) (w:World) (R:RV):Prop:=nr Tryz.f79 [] [.v (.pointer p0),.v (.int .i64 n1)] w R
theorem Qv4 (p0:OA) (n1:Int):SH Qja [.pointer p0,.int .i64 n1] (Qqv p0 n1):=cdf Tryz.func79 []
def Qmy (p0:OA) (n1:Int) (w:World) (R:RV):Prop:=nr Tryz.f80 [] [.v (.pointer p0),.v (.int .i64 n1)] w R
theorem Qtk (p0:OA) (n1:Int):SH Qhy [.pointer p0,.int .i64 n1] (Qmy p0 n1):=cdf Tryz.func80 []
def Qmx (p0:OA) (n1:Int) (w:World) (R:RV):Prop:=nr Tryz.f90 [] [.v (.pointer p0),.v (.int .i64 n1)] w R
theorem Qtj (p0:OA) (n1:Int):SH Qnt [.pointer p0,.int .i64 n1] (Qmx p0 n1):=cdf Tryz.func90 []
def Qqt (p0:OA) (n1:Int) (w:World) (R:RV):Prop:=nr Tryz.f105 [] [.v (.pointer p0),.v (.int .i64 n1)] w R
theorem Qv2 (p0:OA) (n1:Int):SH Qq1 [.pointer p0,.int .i64 n1] (Qqt p0 n1):=cdf Tryz.func105 []
def Qfe (p0:OA) (n1:Int) (w:World) (R:RV):Prop:=nr Tryz.f132 [] [.v (.pointer p0),.v (.int .i64 n1)] w R
theorem Qf5 (p0:OA) (n1:Int):SH Qfo [.pointer p0,.int .i64 n1] (Qfe p0 n1):=cdf Tryz.func132 []
abbrev Qxg:HL:=[.o [7] [.one (.int .i64)]]
def Qwi (s0b:OA) (s0l s0c:Nat) (w:World) (R:RV):Prop:=nr Tryz.f138 Qxg [.v (.slice s0b s0l s0c)] w R
theorem Qy8 (s0b:OA) (s0l s0c:Nat):SH Qkh [.slice s0b s0l s0c] (Qwi s0b s0l s0c):=cdf Tryz.func138 Qxg
abbrev Qq8:HL:=[.r (.t 0 3 (.k 3 [13,14,15,16] [16] (.t 4 3 (.k 7 [9,10,11,12,13,14,15,16] [11,16] (.t 8 2 (.k 10 [11,12,13,14,15,16] [11,16] (.o 11 (.t 12 4 (.o 16 .e))))))))),.r (.t 0 3 (.k 3 [12,19,26,27,28,29] [12,19,26,27,28] (.t 4 4 (.k 8 [10,11,12,19,26,27,28,29] [12,19,26,27,28] (.t 9 2 (.k 11 [12,19,26,27,28,29] [12,19,26,27,28] (.t 13 3 (.k 16 [19,26,27,28,29] [19,26,27,28] (.t 17 2 (.t 20 3 (.k 23 [26,27,28,29] [26,27,28] (.t 24 2 (.o 12 (.o 19 (.o 26 (.o 27 (.o 28 (.t 29 1 .e))))))))))))))))))]
def Qqr (p0:OA) (n1:Int) (w:World) (R:RV):Prop:=nr Tryz.f142 Qq8 [.v (.pointer p0),.v (.int .i64 n1)] w R
theorem Qv0 (p0:OA) (n1:Int):SH Qgg [.pointer p0,.int .i64 n1] (Qqr p0 n1):=cdf Tryz.func142 Qq8
def Qqs (p0:OA) (n1:Int) (w:World) (R:RV):Prop:=nr Tryz.f151 [] [.v (.pointer p0),.v (.int .i64 n1)] w R
theorem Qv1 (p0:OA) (n1:Int):SH Qq0 [.pointer p0,.int .i64 n1] (Qqs p0 n1):=cdf Tryz.func151 []
abbrev Qtt:HL:=[.r (.t 0 3 (.k 3 [17,18] [17] (.t 4 9 (.k 13 [15,16,17,18] [17] (.t 14 2 (.k 16 [17,18] [17] (.o 17 (.t 18 1 .e))))))))]
def Qrw (p0:OA) (n1:Int) (w:World) (R:RV):Prop:=nr Tryz.f153 Qtt [.v (.pointer p0),.v (.int .i64 n1)] w R
theorem Qxb (p0:OA) (n1:Int):SH Qlf [.pointer p0,.int .i64 n1] (Qrw p0 n1):=cdf Tryz.func153 Qtt
end Go.Proofs.YtfeekmmfdkfgmaaGreatDoor
/-
What each function does, as one formula, printed by a program of this session out of the translation; the kernel holds each print against the translation.
Conditions: none.
-/

set_option linter.unusedVariables false
namespace Go.Proofs.YtfeekmmfdkfgmaaGreatDoor
open Go
set_option maxRecDepth 100000
set_option maxHeartbeats 4000000
abbrev Q1w:HL:=[.j 1 [] [],.o [22] [.one (.int .i64)]]
def Qxm (n0:Int) (w:World) (R:RV):Prop:=nr Tryz.f129 Q1w [.v (.int .i64 n0)] w R
theorem Qxa (n0:Int):SH Qxx [.int .i64 n0] (Qxm n0):=cdf Tryz.func129 Q1w
def Qfd (p0:OA) (n1 n2:Int) (w:World) (R:RV):Prop:=nr Tryz.f130 [] [.v (.pointer p0),.v (.int .i64 n1),.v (.int .i64 n2)] w R
theorem Qf4 (p0:OA) (n1 n2:Int):SH Qfn [.pointer p0,.int .i64 n1,.int .i64 n2] (Qfd p0 n1 n2):=cdf Tryz.func130 []
def Qhd (p0:OA) (n1 n2:Int) (w:World) (R:RV):Prop:=nr Tryz.f165 [] [.v (.pointer p0),.v (.int .i64 n1),.v (.int .i64 n2)] w R
theorem Qi2 (p0:OA) (n1 n2:Int):SH Qey [.pointer p0,.int .i64 n1,.int .i64 n2] (Qhd p0 n1 n2):=cdf Tryz.func165 []
abbrev Qlv:HL:=[.o [12] [.one (.int .i64)]]
def Qgl (p0 s1b:OA) (s1l s1c:Nat) (w:World) (R:RV):Prop:=nr Tryz.f198 Qlv [.v (.pointer p0),.v (.slice s1b s1l s1c)] w R
theorem Qia (p0 s1b:OA) (s1l s1c:Nat):SH Qbv [.pointer p0,.slice s1b s1l s1c] (Qgl p0 s1b s1l s1c):=cdf Tryz.func198 Qlv
abbrev Qkd:HL:=[.o [4,5] [.one (.int .i32),.one (.int .i32)]]
def Qjn (p0:OA) (n1:Int) (w:World) (R:RV):Prop:=nr Tryz.f199 Qkd [.v (.pointer p0),.v (.int .i32 n1)] w R
theorem Qqj (p0:OA) (n1:Int):SH Qf0 [.pointer p0,.int .i32 n1] (Qjn p0 n1):=cdf Tryz.func199 Qkd
abbrev Qoo:HL:=[.r (.t 0 7 (.k 7 [16,17,18,19,20,21,22,23,24,25,26,27] [18,21,24,27] (.t 8 3 (.k 11 [16,17,18,19,20,21,22,23,24,25,26,27] [18,21,24,27] (.t 12 3 (.k 15 [16,17,18,19,20,21,22,23,24,25,26,27] [18,21,24,27] (.t 16 2 (.o 18 (.t 19 2 (.o 21 (.t 22 2 (.o 24 (.t 25 2 (.o 27 .e)))))))))))))),.u 3,.r (.t 0 5 (.k 5 [8,16,17,18,19,20,21] [18,21] (.t 6 1 (.k 7 [8,16,17,18,19,20,21] [18,21] (.t 8 4 (.k 12 [15,16,17,18,19,20,21] [18,21] (.t 13 1 (.k 14 [15,19,20,21] [21] (.t 15 3 (.o 18 (.t 19 2 (.o 21 .e)))))))))))),.r (.t 0 5 (.k 5 [8,16,17,18,19,20,21] [18,21] (.t 6 1 (.k 7 [8,16,17,18,19,20,21] [18,21] (.t 8 4 (.k 12 [15,16,17,18,19,20,21] [18,21] (.t 13 1 (.k 14 [15,19,20,21] [21] (.t 15 3 (.o 18 (.t 19 2 (.o 21 .e))))))))))))]
def Qmv (p0:OA) (n1:Int) (w:World) (R:RV):Prop:=nr Tryz.f200 Qoo [.v (.pointer p0),.v (.int .i32 n1)] w R
theorem Qth (p0:OA) (n1:Int):SH Qex [.pointer p0,.int .i32 n1] (Qmv p0 n1):=cdf Tryz.func200 Qoo
def Qda (p0:OA) (n1 n2:Int) (w:World) (R:RV):Prop:=nr Tryz.f209 [] [.v (.pointer p0),.v (.int .i64 n1),.v (.int .i64 n2)] w R
theorem Qdl (p0:OA) (n1 n2:Int):SH Qcg [.pointer p0,.int .i64 n1,.int .i64 n2] (Qda p0 n1 n2):=cdf Tryz.func209 []
def Qms (p0:OA) (n1 n2:Int) (w:World) (R:RV):Prop:=nr Tryz.f230 [] [.v (.pointer p0),.v (.int .i32 n1),.v (.int .i32 n2)] w R
theorem Qte (p0:OA) (n1 n2:Int):SH Qnr [.pointer p0,.int .i32 n1,.int .i32 n2] (Qms p0 n1 n2):=cdf Tryz.func230 []
abbrev Qpv:HL:=[.r (.t 0 3 (.k 3 [13,14,15] [15] (.t 4 3 (.k 7 [9,10,11,12,13,14,15] [15] (.t 8 4 (.k 12 [13,14,15] [15] (.t 13 2 (.o 15 .e))))))))]
def Qdx (p0:OA) (n1 n2:Int) (w:World) (R:RV):Prop:=nr Tryz.f235 Qpv [.v (.pointer p0),.v (.int .i64 n1),.v (.int .i64 n2)] w R
theorem Qdu (p0:OA) (n1 n2:Int):SH Qco [.pointer p0,.int .i64 n1,.int .i64 n2] (Qdx p0 n1 n2):=cdf Tryz.func235 Qpv
abbrev Qom:HL:=[.r (.t 0 3 (.k 3 [14,15,16] [16] (.t 4 4 (.k 8 [10,11,12,13,14,15,16] [16] (.t 9 3 (.k 12 [13,14,15,16] [16] (.t 13 3 (.o 16 .e))))))))]
def Qmt (p0:OA) (n1:Int) (w:World) (R:RV):Prop:=nr Tryz.f251 Qom [.v (.pointer p0),.v (.int .i32 n1)] w R
theorem Qtf (p0:OA) (n1:Int):SH Qhw [.pointer p0,.int .i32 n1] (Qmt p0 n1):=cdf Tryz.func251 Qom
def Qmw (p0:OA) (n1 n2:Int) (w:World) (R:RV):Prop:=nr Tryz.f277 [] [.v (.pointer p0),.v (.int .i32 n1),.v (.int .i32 n2)] w R
theorem Qti (p0:OA) (n1 n2:Int):SH Qns [.pointer p0,.int .i32 n1,.int .i32 n2] (Qmw p0 n1 n2):=cdf Tryz.func277 []
def Qo9 (p0:OA) (n1:Int) (w:World) (R:RV):Prop:=nr Tryz.f281 [] [.v (.pointer p0),.v (.int .i32 n1)] w R
theorem Qul (p0:OA) (n1:Int):SH Qdz [.pointer p0,.int .i32 n1] (Qo9 p0 n1):=cdf Tryz.func281 []
abbrev Qon:HL:=[.r (.t 0 6 (.k 6 [14,15,18,19] [15,19] (.t 7 4 (.k 11 [14,15,18,19] [15,19] (.t 12 3 (.t 16 2 (.o 15 (.t 18 1 (.o 19 .e))))))))),.u 3,.r (.t 0 3 (.k 3 [14,15,16] [16] (.t 4 4 (.k 8 [10,11,12,13,14,15,16] [16] (.t 9 3 (.k 12 [13,14,15,16] [16] (.t 13 3 (.o 16 .e))))))))]
def Qmu (p0:OA) (n1:Int) (w:World) (R:RV):Prop:=nr Tryz.f283 Qon [.v (.pointer p0),.v (.int .i32 n1)] w R
theorem Qtg (p0:OA) (n1:Int):SH Qa9 [.pointer p0,.int .i32 n1] (Qmu p0 n1):=cdf Tryz.func283 Qon
abbrev Qol:HL:=[.r (.t 0 18 .e)]
def Qmr (p0:OA) (n1:Int) (w:World) (R:RV):Prop:=nr Tryz.f284 Qol [.v (.pointer p0),.v (.int .i32 n1)] w R
theorem Qtd (p0:OA) (n1:Int):SH Qew [.pointer p0,.int .i32 n1] (Qmr p0 n1):=cdf Tryz.func284 Qol
abbrev Qkb:HL:=[.j 3 [] [],.r (.t 0 3 (.k 3 [9,10,11,12] [12] (.t 4 3 (.t 8 3 (.o 7 (.t 11 1 (.o 12 .e))))))),.r (.t 0 3 (.k 3 [12,13,14,15,16,17] [14,17] (.t 4 4 (.k 8 [12,13,14,15,16,17] [14,17] (.t 9 5 (.o 14 (.t 15 2 (.o 17 .e))))))))]
def Qjm (p0:OA) (n1:Int) (w:World) (R:RV):Prop:=nr Tryz.f285 Qkb [.v (.pointer p0),.v (.int .i32 n1)] w R
theorem Qqi (p0:OA) (n1:Int):SH Qa6 [.pointer p0,.int .i32 n1] (Qjm p0 n1):=cdf Tryz.func285 Qkb
end Go.Proofs.YtfeekmmfdkfgmaaGreatDoor
/-
What each function does, as one formula, printed by a program of this session out of the translation; the kernel holds each print against the translation.
Conditions: none.
-/

set_option linter.unusedVariables false
namespace Go.Proofs.YtfeekmmfdkfgmaaGreatDoor
open Go
set_option maxRecDepth 100000
set_option maxHeartbeats 4000000
abbrev Q0v:HL:=[.o [6,22] [.one .slc,.one (.int .i64)],.o [39] [.one (.int .i64)]]
def Qzw (p0:OA) (w:World) (R:RV):Prop:=nr Tryz.f149 Q0v [.v (.pointer p0)] w R
theorem Q07 (p0:OA):SH Q0g [.pointer p0] (Qzw p0):=cdf Tryz.func149 Q0v
abbrev Qy0:HL:=[.o [8,6] [.one .slc,.one (.int .i64)]]
def Qru (p0:OA) (n1:Int) (w:World) (R:RV):Prop:=nr Tryz.f217 Qy0 [.v (.pointer p0),.v (.int .i64 n1)] w R
theorem Qtb (p0:OA) (n1:Int):SH Qse [.pointer p0,.int .i64 n1] (Qru p0 n1):=cdf Tryz.func217 Qy0
def Qrv (p0:OA) (n1:Int) (w:World) (R:RV):Prop:=nr Tryz.f261 [] [.v (.pointer p0),.v (.int .i64 n1)] w R
theorem Qtc (p0:OA) (n1:Int):SH Qsf [.pointer p0,.int .i64 n1] (Qrv p0 n1):=cdf Tryz.func261 []
end Go.Proofs.YtfeekmmfdkfgmaaGreatDoor
/-
The two parts of a function Qyw its range over a function, as one formula each, printed by a program of this session out of the translation; the kernel holds each print against the translation.
Conditions: none.
-/

set_option linter.unusedVariables false
namespace Go.Proofs.YtfeekmmfdkfgmaaGreatDoor
open Go
set_option maxRecDepth 100000
set_option maxHeartbeats 4000000
def Q1s (f:Func):Code:=f.body.getD .skip
def preOf:Code→Code | .seq a (.seq b (.seq c (.seq (.seq r _) _)))=>.seq a (.seq b (.seq c r)) | c=>c
def midOf:Code→Code | .seq _ (.seq _ (.seq _ (.seq (.seq _ m) _)))=>m | c=>c
def postOf:Code→Code | .seq _ (.seq _ (.seq _ (.seq (.seq _ _) e)))=>e | c=>c
def Qfw (p0:Option Addr) (n1:Int) (w:World) (R:Value→World→Prop):Prop:=
 alo #[.pointer p0] Qaw w fun a2 w3=>
 alo #[.int .i32 n1] Qax w3 fun a4 w5=>
 ∃(I6:JP) (m7:JN),I6 [.slice (some a4) 1 1,.int .i32 n1] w5∧
 ∀_:Env,∀s8b s8l s8c n9 w10,I6 [.slice s8b s8l s8c,.int .i32 n9] w10→
 ldP a2 w10 fun p11=>
 Calls Pg Qdz #[.pointer p11,.int .i32 n9] w10 fun e14 w13=>∃b12,e14=.returned (.bool b12)∧
 bif (!b12) then (
 ldP a2 w13 fun p15=>
 pt p15 fun a16=>
 ldS a16 w13 fun s17b s17l s17c=>
 ixS s17b s17l n9 9 fun a18=>
 ldI .i32 a18 w13 fun n19=>
 alo #[.int .i32 n19] Qax w13 fun a20 w21=>
 ∃s22b s22l s22c w23,(Builtin.append_ #[Qd2,Qd2] Qd2 #[.slice s8b s8l s8c,.slice (some a20) 1 1]).run Pg w21=.ok (.slice s22b s22l s22c) w23∧
 ldP a2 w23 fun p24=>
 pt p24 fun a25=>
 ldS a25 w23 fun s26b s26l s26c=>
 ixS s26b s26l n9 9 fun a27=>
 ldI .i32 a27 w23 fun n28=>
 (I6 [.slice s22b s22l s22c,.int .i32 n28] w23∧m7 [.slice s22b s22l s22c,.int .i32 n28] w23<m7 [.slice s8b s8l s8c,.int .i32 n9] w10)) else (
 Calls Pg Qcb #[.slice s8b s8l s8c] w13 fun e31 w30=>∃f29,e31=.returned f29∧
 R (.tuple #[f29,(.pointer (some a2)),(.int .i32 n1),(.pointer p0)]) w30)
def Qkc:An:=.s .L (.s .L (.s (.s .L (.b (.o [4,5] [.one .slc,.one (.int .i32)] (.s (.s .L (.c .L .L)) (.s (.b .L) .L))))) .L))
theorem Qud (p0:Option Addr) (n1:Int) (w:World) (R:Value→World→Prop):Qfw p0 n1 w R=den Pg Eall 74 Qkc (preOf (Q1s Tryz.f245)) (fun x e w'=>match x with | .normal=>R (resV e [36,2,1,0]) w' | _=>False) (envOf [(.pointer p0),(.int .i32 n1)]) w:=by kernel_rfl
def Qfv (p0:Option Addr) (n1:Int) (p2:Option Addr) (w:World) (R:Value→World→Prop):Prop:=
 ∃(I3:JP) (m4:JN),I3 [] w∧
 ∀_:Env,∀w5,I3 [] w5→
 pt p2 fun a6=>
 ldP a6 w5 fun p7=>
 Calls Pg Qdz #[.pointer p7,.int .i32 n1] w5 fun e10 w9=>∃b8,e10=.returned (.bool b8)∧
 bif (!b8) then (
 pt p2 fun a11=>
 ldP a11 w9 fun p12=>
 pt p12 fun a13=>
 ldS a13 w9 fun s14b s14l s14c=>
 ixS s14b s14l n1 9 fun a15=>
 ldI .i32 a15 w9 fun n16=>
 pt p2 fun a17=>
 ldP a17 w9 fun p18=>
 Calls Pg Qdz #[.pointer p18,.int .i32 n16] w9 fun e21 w20=>∃b19,e21=.returned (.bool b19)∧
 bif (!b19) then (
 pt p2 fun a22=>
 ldP a22 w20.drew fun p23=>
 pt p2 fun a24=>
 ldP a24 w20.drew fun p25=>
 Calls Pg Qew #[.pointer p23,.int .i32 n1] w20.drew fun e28 w27=>∃n26,e28=.returned (.int .i64 n26)∧
 w27.cell? a24=some (.pointer p25)∧Calls Pg Qew #[.pointer p25,.int .i32 n16] w27 fun e31 w30=>∃n29,e31=.returned (.int .i64 n29)∧
 bif (n26==n29) then (
 pt p2 fun a32=>
 ldP a32 w30 fun p33=>
 Calls Pg Qa6 #[.pointer p33,.int .i32 n16] w30 fun e35 w34=>e35=.returned (.tuple #[])∧
 pt p2 fun a36=>
 ldP a36 w34 fun p37=>
 Calls Pg Qa6 #[.pointer p37,.int .i32 n1] w34 fun e39 w38=>e39=.returned (.tuple #[])∧
 (I3 [] w38∧m4 [] w38<m4 [] w5)) else (
 pt p2 fun a40=>
 ldP a40 w30 fun p41=>
 Calls Pg Qa6 #[.pointer p41,.int .i32 n1] w30 fun e43 w42=>e43=.returned (.tuple #[])∧
 pt p2 fun a44=>
 ldP a44 w42 fun p45=>
 Calls Pg Qa6 #[.pointer p45,.int .i32 n1] w42 fun e47 w46=>e47=.returned (.tuple #[])∧
 (I3 [] w46∧m4 [] w46<m4 [] w5))) else (
 pt p2 fun a48=>
 ldP a48 w20 fun p49=>
 Calls Pg Qa6 #[.pointer p49,.int .i32 n1] w20 fun e51 w50=>e51=.returned (.tuple #[])∧
 (I3 [] w50∧m4 [] w50<m4 [] w5))) else (
 R (.tuple #[]) w9)
def Qun:An:=.b (.o [] [] (.s (.s .L (.c .L .L)) (.b (.s .L (.s (.s .L (.c (.s (.r (.tk 0 [2,5,6] [2,5] (.t 1 1 (.tk 3 [5,6] [5] (.t 4 1 (.one 2 (.one 5 (.t 6 1 .fin)))))))) (.c .L .L)) .L)) .L)))))
theorem Quc (e0:Env) (p0:Option Addr) (n1:Int) (p2:Option Addr) (w:World) (R:Value→World→Prop):Qfv p0 n1 p2 w R=den Pg Eall 74 Qun (postOf (Q1s Tryz.f245)) (fun x e w'=>match x with | .normal=>R (resV e []) w' | _=>False) (Env.put (Env.put (Env.put e0 0 (.pointer p0)) 1 (.int .i32 n1)) 2 (.pointer p2)) w:=by kernel_rfl
end Go.Proofs.YtfeekmmfdkfgmaaGreatDoor
/-
What each function does, as one formula, printed by a program of this session out of the translation; the kernel holds each print against the translation.
Conditions: none.
-/

set_option linter.unusedVariables false
namespace Go.Proofs.YtfeekmmfdkfgmaaGreatDoor
open Go
set_option maxRecDepth 100000
set_option maxHeartbeats 4000000
abbrev Q1v:HL:=[.j 7 [] [],.o [52] [.one (.int .i64)],.r (.t 0 1 (.k 1 [6,7,8,9,10,11] [6] (.t 2 1 (.t 4 2 (.o 3 (.o 6 (.t 7 5 .e)))))))]
def Q1g (n0:Int) (s1b:OA) (s1l s1c:Nat) (s2b:OA) (s2l s2c:Nat) (s3b:OA) (s3l s3c:Nat) (w:World) (R:RV):Prop:=nr Tryz.f9 Q1v [.a [.v (.int .i64 n0),.v (.slice s1b s1l s1c),.v (.slice s2b s2l s2c),.v (.slice s3b s3l s3c)]] w R
theorem Q21 (n0:Int) (s1b:OA) (s1l s1c:Nat) (s2b:OA) (s2l s2c:Nat) (s3b:OA) (s3l s3c:Nat):SH Q1o [.agg #[.int .i64 n0,.slice s1b s1l s1c,.slice s2b s2l s2c,.slice s3b s3l s3c]] (Q1g n0 s1b s1l s1c s2b s2l s2c s3b s3l s3c):=cdf Tryz.func9 Q1v
abbrev Qlu:HL:=[.j 5 [5] [.one .ptr],.r (.t 0 4 (.k 4 [5,10,11,13] [5,10,13] (.t 6 3 (.k 9 [10,11,13] [10,13] (.w 5 (.w 10 (.t 11 1 (.o 12 (.o 13 .e))) 12 (.o 10 (.t 11 1 (.o 13 .e)))) 12 (.o 5 (.o 10 (.t 11 1 (.o 13 .e))))))))),.o [37] [.one (.int .i64)],.r (.t 0 1 (.k 1 [7,8,9,10,11,12,13,14,15,16,17,18,19,20,21,22] [15,20] (.t 2 3 (.k 5 [6,7,8,9,10,11,12,13,14,15,16,17,18,19,20,21,22] [6,15,20] (.o 6 (.t 7 3 (.k 10 [16,17,18,19,20,21,22] [20] (.t 11 3 (.k 14 [15,16,17,18,19,20,21,22] [15,20] (.o 15 (.t 16 3 (.k 19 [20,21,22] [20] (.o 20 (.t 21 2 .e))))))))))))))]
def Qky (p0:OA) (w:World) (R:RV):Prop:=nr Tryz.f13 Qlu [.v (.pointer p0)] w R
theorem Qri (p0:OA):SH Qld [.pointer p0] (Qky p0):=cdr Tryz.func13 Qlu
def Qmq (p0:OA) (w:World) (R:RV):Prop:=nr Tryz.f14 [] [.v (.pointer p0)] w R
theorem Qta (p0:OA):SH Qnq [.pointer p0] (Qmq p0):=cdf Tryz.func14 []
def Qzv (n0:Int) (w:World) (R:RV):Prop:=nr Tryz.f32 [] [.v (.int .i64 n0)] w R
theorem Q06 (n0:Int):SH Q0f [.int .i64 n0] (Qzv n0):=cdf Tryz.func32 []
def Qkx (p0:OA) (w:World) (R:RV):Prop:=nr Tryz.f48 [] [.v (.pointer p0)] w R
theorem Qrh (p0:OA):SH Qlc [.pointer p0] (Qkx p0):=cdf Tryz.func48 []
abbrev Qok:HL:=[.o [8,9] [.one .ifc,.one (.int .i64)],.j 0 [] []]
def Qmp (p0:OA) (n1:Int) (w:World) (R:RV):Prop:=nr Tryz.f50 Qok [.v (.pointer p0),.v (.int .i64 n1)] w R
theorem Qs9 (p0:OA) (n1:Int):SH Qnp [.pointer p0,.int .i64 n1] (Qmp p0 n1):=cdr Tryz.func50 Qok
end Go.Proofs.YtfeekmmfdkfgmaaGreatDoor
/-
What each function does, as one formula, printed by a program of this session out of the translation; the kernel holds each print against the translation.
Conditions: none.
-/

set_option linter.unusedVariables false
namespace Go.Proofs.YtfeekmmfdkfgmaaGreatDoor
open Go
set_option maxRecDepth 100000
set_option maxHeartbeats 4000000
end Go.Proofs.YtfeekmmfdkfgmaaGreatDoor
/-
What each function does, as one formula, printed by a program of this session out of the translation; the kernel holds each print against the translation.
Conditions: none.
-/

set_option linter.unusedVariables false
namespace Go.Proofs.YtfeekmmfdkfgmaaGreatDoor
open Go
set_option maxRecDepth 100000
set_option maxHeartbeats 4000000
def Quv (n0:Int) (s1b:OA) (s1l s1c:Nat) (s2b:OA) (s2l s2c:Nat) (s3b:OA) (s3l s3c:Nat) (w:World) (R:RV):Prop:=nr Tryz.f39 [] [.a [.v (.int .i64 n0),.v (.slice s1b s1l s1c),.v (.slice s2b s2l s2c),.v (.slice s3b s3l s3c)]] w R
theorem Qx8 (n0:Int) (s1b:OA) (s1l s1c:Nat) (s2b:OA) (s2l s2c:Nat) (s3b:OA) (s3l s3c:Nat):SH Qu5 [.agg #[.int .i64 n0,.slice s1b s1l s1c,.slice s2b s2l s2c,.slice s3b s3l s3c]] (Quv n0 s1b s1l s1c s2b s2l s2c s3b s3l s3c):=cdf Tryz.func39 []
def Quw (n0:Int) (s1b:OA) (s1l s1c:Nat) (s2b:OA) (s2l s2c:Nat) (s3b:OA) (s3l s3c:Nat) (w:World) (R:RV):Prop:=nr Tryz.f52 [] [.a [.v (.int .i64 n0),.v (.slice s1b s1l s1c),.v (.slice s2b s2l s2c),.v (.slice s3b s3l s3c)]] w R
theorem Qx9 (n0:Int) (s1b:OA) (s1l s1c:Nat) (s2b:OA) (s2l s2c:Nat) (s3b:OA) (s3l s3c:Nat):SH Qu6 [.agg #[.int .i64 n0,.slice s1b s1l s1c,.slice s2b s2l s2c,.slice s3b s3l s3c]] (Quw n0 s1b s1l s1c s2b s2l s2c s3b s3l s3c):=cdf Tryz.func52 []
def Qrt (n0:Int) (s1b:OA) (s1l s1c:Nat) (s2b:OA) (s2l s2c:Nat) (s3b:OA) (s3l s3c:Nat) (w:World) (R:RV):Prop:=nr Tryz.f53 [] [.a [.v (.int .i64 n0),.v (.slice s1b s1l s1c),.v (.slice s2b s2l s2c),.v (.slice s3b s3l s3c)]] w R
theorem Qw8 (n0:Int) (s1b:OA) (s1l s1c:Nat) (s2b:OA) (s2l s2c:Nat) (s3b:OA) (s3l s3c:Nat):SH Qsd [.agg #[.int .i64 n0,.slice s1b s1l s1c,.slice s2b s2l s2c,.slice s3b s3l s3c]] (Qrt n0 s1b s1l s1c s2b s2l s2c s3b s3l s3c):=cdf Tryz.func53 []
abbrev Qka:HL:=[.j 5 [] [],.o [45] [.one (.int .i64)],.u 3,.r (.k 0 [5,6,7,8,9,10] [5] (.t 1 3 (.k 4 [5,6,7,8,9,10] [5] (.o 5 (.t 6 5 .e)))))]
def Qjl (n0:Int) (s1b:OA) (s1l s1c:Nat) (s2b:OA) (s2l s2c:Nat) (s3b:OA) (s3l s3c:Nat) (w:World) (R:RV):Prop:=nr Tryz.f107 Qka [.a [.v (.int .i64 n0),.v (.slice s1b s1l s1c),.v (.slice s2b s2l s2c),.v (.slice s3b s3l s3c)]] w R
theorem Qqh (n0:Int) (s1b:OA) (s1l s1c:Nat) (s2b:OA) (s2l s2c:Nat) (s3b:OA) (s3l s3c:Nat):SH Qjy [.agg #[.int .i64 n0,.slice s1b s1l s1c,.slice s2b s2l s2c,.slice s3b s3l s3c]] (Qjl n0 s1b s1l s1c s2b s2l s2c s3b s3l s3c):=cdf Tryz.func107 Qka
abbrev Qi5:HL:=[.o [22] [.one (.int .i64)],.j 5 [] [],.o [9] [.one (.int .i64)],.r (.k 0 [7,9] [7] (.t 1 5 (.k 6 [7,9] [7] (.t 8 1 (.o 7 (.t 9 1 .e))))))]
def Qiq (n0:Int) (s1b:OA) (s1l s1c:Nat) (s2b:OA) (s2l s2c:Nat) (s3b:OA) (s3l s3c:Nat) (w:World) (R:RV):Prop:=nr Tryz.f108 Qi5 [.a [.v (.int .i64 n0),.v (.slice s1b s1l s1c),.v (.slice s2b s2l s2c),.v (.slice s3b s3l s3c)]] w R
theorem Qpm (n0:Int) (s1b:OA) (s1l s1c:Nat) (s2b:OA) (s2l s2c:Nat) (s3b:OA) (s3l s3c:Nat):SH Qiu [.agg #[.int .i64 n0,.slice s1b s1l s1c,.slice s2b s2l s2c,.slice s3b s3l s3c]] (Qiq n0 s1b s1l s1c s2b s2l s2c s3b s3l s3c):=cdf Tryz.func108 Qi5
abbrev Qlt:HL:=[.o [7,29] [.one .slc,.one (.int .i64)]]
def Qkw (n0:Int) (s1b:OA) (s1l s1c:Nat) (s2b:OA) (s2l s2c:Nat) (s3b:OA) (s3l s3c:Nat) (s4b:OA) (s4l s4c:Nat) (w:World) (R:RV):Prop:=nr Tryz.f109 Qlt [.a [.v (.int .i64 n0),.v (.slice s1b s1l s1c),.v (.slice s2b s2l s2c),.v (.slice s3b s3l s3c)],.v (.slice s4b s4l s4c)] w R
theorem Qrg (n0:Int) (s1b:OA) (s1l s1c:Nat) (s2b:OA) (s2l s2c:Nat) (s3b:OA) (s3l s3c:Nat) (s4b:OA) (s4l s4c:Nat):SH Qlb [.agg #[.int .i64 n0,.slice s1b s1l s1c,.slice s2b s2l s2c,.slice s3b s3l s3c],.slice s4b s4l s4c] (Qkw n0 s1b s1l s1c s2b s2l s2c s3b s3l s3c s4b s4l s4c):=cdf Tryz.func109 Qlt
abbrev Qq7:HL:=[.o [3,21] [.one .slc,.one (.int .i64)],.o [3,39] [.one .slc,.one (.int .i64)]]
def Qqq (n0:Int) (s1b:OA) (s1l s1c:Nat) (s2b:OA) (s2l s2c:Nat) (s3b:OA) (s3l s3c:Nat) (w:World) (R:RV):Prop:=nr Tryz.f120 Qq7 [.a [.v (.int .i64 n0),.v (.slice s1b s1l s1c),.v (.slice s2b s2l s2c),.v (.slice s3b s3l s3c)]] w R
theorem Qvz (n0:Int) (s1b:OA) (s1l s1c:Nat) (s2b:OA) (s2l s2c:Nat) (s3b:OA) (s3l s3c:Nat):SH Qqz [.agg #[.int .i64 n0,.slice s1b s1l s1c,.slice s2b s2l s2c,.slice s3b s3l s3c]] (Qqq n0 s1b s1l s1c s2b s2l s2c s3b s3l s3c):=cdf Tryz.func120 Qq7
def Qwg (s0b:OA) (s0l s0c:Nat) (n1:Int) (w:World) (R:RV):Prop:=nr Tryz.f183 [] [.v (.slice s0b s0l s0c),.v (.int .u32 n1)] w R
theorem Qy6 (s0b:OA) (s0l s0c:Nat) (n1:Int):SH Qwv [.slice s0b s0l s0c,.int .u32 n1] (Qwg s0b s0l s0c n1):=cdf Tryz.func183 []
def Qkv (n0:Int) (s1b:OA) (s1l s1c:Nat) (s2b:OA) (s2l s2c:Nat) (s3b:OA) (s3l s3c:Nat) (n4:Int) (w:World) (R:RV):Prop:=nr Tryz.f184 [] [.a [.v (.int .i64 n0),.v (.slice s1b s1l s1c),.v (.slice s2b s2l s2c),.v (.slice s3b s3l s3c)],.v (.int .u32 n4)] w R
theorem Qrf (n0:Int) (s1b:OA) (s1l s1c:Nat) (s2b:OA) (s2l s2c:Nat) (s3b:OA) (s3l s3c:Nat) (n4:Int):SH Qla [.agg #[.int .i64 n0,.slice s1b s1l s1c,.slice s2b s2l s2c,.slice s3b s3l s3c],.int .u32 n4] (Qkv n0 s1b s1l s1c s2b s2l s2c s3b s3l s3c n4):=cdf Tryz.func184 []
def Qku (n0:Int) (s1b:OA) (s1l s1c:Nat) (s2b:OA) (s2l s2c:Nat) (s3b:OA) (s3l s3c:Nat) (n4:Int) (w:World) (R:RV):Prop:=nr Tryz.f185 [] [.a [.v (.int .i64 n0),.v (.slice s1b s1l s1c),.v (.slice s2b s2l s2c),.v (.slice s3b s3l s3c)],.v (.int .i64 n4)] w R
theorem Qre (n0:Int) (s1b:OA) (s1l s1c:Nat) (s2b:OA) (s2l s2c:Nat) (s3b:OA) (s3l s3c:Nat) (n4:Int):SH Qk9 [.agg #[.int .i64 n0,.slice s1b s1l s1c,.slice s2b s2l s2c,.slice s3b s3l s3c],.int .i64 n4] (Qku n0 s1b s1l s1c s2b s2l s2c s3b s3l s3c n4):=cdf Tryz.func185 []
abbrev Qts:HL:=[.o [0,9] [.one .slc,.one (.int .i64)]]
def Qrs (s0b:OA) (s0l s0c:Nat) (s1b:OA) (s1l s1c:Nat) (w:World) (R:RV):Prop:=nr Tryz.f193 Qts [.v (.slice s0b s0l s0c),.v (.slice s1b s1l s1c)] w R
theorem Qw7 (s0b:OA) (s0l s0c:Nat) (s1b:OA) (s1l s1c:Nat):SH Qsc [.slice s0b s0l s0c,.slice s1b s1l s1c] (Qrs s0b s0l s0c s1b s1l s1c):=cdf Tryz.func193 Qts
abbrev Qxf:HL:=[.r (.t 0 2 (.k 2 [3,4,9,10] [3,4,9] (.t 5 1 (.k 6 [7,8,9,10] [8,9] (.t 7 1 (.w 3 (.w 4 (.o 8 (.o 9 (.t 10 1 .e))) 8 (.o 4 (.o 9 (.t 10 1 .e)))) 8 (.o 3 (.o 4 (.o 9 (.t 10 1 .e))))))))))]
def Qwh (s0b:OA) (s0l s0c:Nat) (n1 n2:Int) (w:World) (R:RV):Prop:=nr Tryz.f194 Qxf [.v (.slice s0b s0l s0c),.a [.v (.int .u32 n1),.v (.int .i64 n2)]] w R
theorem Qy7 (s0b:OA) (s0l s0c:Nat) (n1 n2:Int):SH Qww [.slice s0b s0l s0c,.agg #[.int .u32 n1,.int .i64 n2]] (Qwh s0b s0l s0c n1 n2):=cdf Tryz.func194 Qxf
end Go.Proofs.YtfeekmmfdkfgmaaGreatDoor
/-
What each function does, as one formula, printed by a program of this session out of the translation; the kernel holds each print against the translation.
Conditions: none.
-/

set_option linter.unusedVariables false
namespace Go.Proofs.YtfeekmmfdkfgmaaGreatDoor
open Go
set_option maxRecDepth 100000
set_option maxHeartbeats 4000000
end Go.Proofs.YtfeekmmfdkfgmaaGreatDoor
/-
What each function does, as one formula, printed by a program of this session out of the translation; the kernel holds each print against the translation.
Conditions: none.
-/

set_option linter.unusedVariables false
namespace Go.Proofs.YtfeekmmfdkfgmaaGreatDoor
open Go
set_option maxRecDepth 100000
set_option maxHeartbeats 4000000
def Qmo (n0:Int) (s1b:OA) (s1l s1c:Nat) (s2b:OA) (s2l s2c:Nat) (s3b:OA) (s3l s3c:Nat) (w:World) (R:RV):Prop:=nr Tryz.f7 [] [.a [.v (.int .i64 n0),.v (.slice s1b s1l s1c),.v (.slice s2b s2l s2c),.v (.slice s3b s3l s3c)]] w R
theorem Qs8 (n0:Int) (s1b:OA) (s1l s1c:Nat) (s2b:OA) (s2l s2c:Nat) (s3b:OA) (s3l s3c:Nat):SH Qno [.agg #[.int .i64 n0,.slice s1b s1l s1c,.slice s2b s2l s2c,.slice s3b s3l s3c]] (Qmo n0 s1b s1l s1c s2b s2l s2c s3b s3l s3c):=cdf Tryz.func7 []
def Qmn (w:World) (R:RV):Prop:=nr Tryz.f8 [] [] w R
theorem Qs7:SH Qev [] (Qmn):=cdf Tryz.func8 []
abbrev Qh4:HL:=[.o [3,4] [.one .slc,.one (.int .i64)],.r (.t 0 1 (.k 1 [9,10] [10] (.t 2 1 (.k 3 [4,7,9,10] [4,7,10] (.t 5 1 (.k 6 [7,9,10] [7,10] (.t 8 1 (.o 4 (.o 7 (.t 9 1 (.o 10 .e)))))))))))]
def Qhc (n0:Int) (s1b:OA) (s1l s1c:Nat) (s2b:OA) (s2l s2c:Nat) (s3b:OA) (s3l s3c:Nat) (w:World) (R:RV):Prop:=nr Tryz.f10 Qh4 [.a [.v (.int .i64 n0),.v (.slice s1b s1l s1c),.v (.slice s2b s2l s2c),.v (.slice s3b s3l s3c)]] w R
theorem Qlz (n0:Int) (s1b:OA) (s1l s1c:Nat) (s2b:OA) (s2l s2c:Nat) (s3b:OA) (s3l s3c:Nat):SH Qhv [.agg #[.int .i64 n0,.slice s1b s1l s1c,.slice s2b s2l s2c,.slice s3b s3l s3c]] (Qhc n0 s1b s1l s1c s2b s2l s2c s3b s3l s3c):=cdr Tryz.func10 Qh4
def Qo8 (v0:Value) (w:World) (R:RV):Prop:=nr Tryz.f12 [] [.o v0] w R
theorem Quk (v0:Value):SH Qpi [v0] (Qo8 v0):=cdf Tryz.func12 []
abbrev Qh3:HL:=[.j 1 [] [],.o [5] [.one (.int .i64)],.r (.t 0 1 (.k 1 [3,4,10] [10] (.t 2 2 (.k 4 [10] [10] (.t 5 1 (.k 6 [8,9,10] [10] (.t 7 2 (.k 9 [10] [10] (.o 10 .e)))))))))]
def Qhb (n0:Int) (s1b:OA) (s1l s1c:Nat) (s2b:OA) (s2l s2c:Nat) (s3b:OA) (s3l s3c:Nat) (n4:Int) (s5b:OA) (s5l s5c:Nat) (s6b:OA) (s6l s6c:Nat) (s7b:OA) (s7l s7c:Nat) (w:World) (R:RV):Prop:=nr Tryz.f15 Qh3 [.a [.v (.int .i64 n0),.v (.slice s1b s1l s1c),.v (.slice s2b s2l s2c),.v (.slice s3b s3l s3c)],.a [.v (.int .i64 n4),.v (.slice s5b s5l s5c),.v (.slice s6b s6l s6c),.v (.slice s7b s7l s7c)]] w R
theorem Qly (n0:Int) (s1b:OA) (s1l s1c:Nat) (s2b:OA) (s2l s2c:Nat) (s3b:OA) (s3l s3c:Nat) (n4:Int) (s5b:OA) (s5l s5c:Nat) (s6b:OA) (s6l s6c:Nat) (s7b:OA) (s7l s7c:Nat):SH Qhu [.agg #[.int .i64 n0,.slice s1b s1l s1c,.slice s2b s2l s2c,.slice s3b s3l s3c],.agg #[.int .i64 n4,.slice s5b s5l s5c,.slice s6b s6l s6c,.slice s7b s7l s7c]] (Qhb n0 s1b s1l s1c s2b s2l s2c s3b s3l s3c n4 s5b s5l s5c s6b s6l s6c s7b s7l s7c):=cdf Tryz.func15 Qh3
abbrev Qg1:HL:=[.o [3,4] [.one .slc,.one (.int .i64)],.r (.t 0 5 (.k 5 [11,12,13,14] [12,13] (.t 6 4 (.k 10 [11,12,13,14] [12,13] (.t 11 1 (.o 12 (.o 13 (.t 14 1 .e))))))))]
def Qgu (s0b:OA) (s0l s0c:Nat) (w:World) (R:RV):Prop:=nr Tryz.f42 Qg1 [.v (.slice s0b s0l s0c)] w R
theorem Qlk (s0b:OA) (s0l s0c:Nat):SH Qgx [.slice s0b s0l s0c] (Qgu s0b s0l s0c):=cdf Tryz.func42 Qg1
abbrev Qg0:HL:=[.o [5] [.one (.int .i64)],.r (.t 0 24 .e)]
def Qgt (s0b:OA) (s0l s0c:Nat) (s1b:OA) (s1l s1c:Nat) (w:World) (R:RV):Prop:=nr Tryz.f54 Qg0 [.v (.slice s0b s0l s0c),.v (.slice s1b s1l s1c)] w R
theorem Qlj (s0b:OA) (s0l s0c:Nat) (s1b:OA) (s1l s1c:Nat):SH Qgw [.slice s0b s0l s0c,.slice s1b s1l s1c] (Qgt s0b s0l s0c s1b s1l s1c):=cdf Tryz.func54 Qg0
end Go.Proofs.YtfeekmmfdkfgmaaGreatDoor
/-
What a function does, as one formula, printed by a program of this session out of the translation; the kernel holds the print against the translation.
Conditions: none.
-/

set_option linter.unusedVariables false
namespace Go.Proofs.YtfeekmmfdkfgmaaGreatDoor
open Go
set_option maxRecDepth 100000
set_option maxHeartbeats 4000000
abbrev Qj9:HL:=[.j 8 [2] [.one .bool],.j 0 [] [],.r (.t 0 7 (.k 7 [9,10,11,12,13,14,15,16,17,18,19,20,21,22,23,24,25,26,27,28,29,30,31,32] [9,13,15,16,24,30] (.k 8 [9,10,11,12,13,14,15,16,17,18,19,20,21,22,23,24,25,26,27,28,29,30,31,32] [9,13,15,16,24,30] (.o 9 (.t 10 3 (.k 14 [15,16,17,18,19,20,21,22,23,24,25,26,27,28,29,30,31,32] [15,16,24,30] (.w 13 (.o 15 (.o 16 (.t 17 6 (.k 23 [24,27,28,29,30,31,32] [24,30] (.t 25 1 (.k 26 [27,28,29,30,31,32] [30] (.o 24 (.t 27 3 (.o 30 (.t 31 2 .e)))))))))) 15 (.w 13 (.o 16 (.t 17 6 (.k 23 [24,27,28,29,30,31,32] [24,30] (.t 25 1 (.k 26 [27,28,29,30,31,32] [30] (.o 24 (.t 27 3 (.o 30 (.t 31 2 .e))))))))) 16 (.o 13 (.t 17 6 (.k 23 [24,27,28,29,30,31,32] [24,30] (.t 25 1 (.k 26 [27,28,29,30,31,32] [30] (.o 24 (.t 27 3 (.o 30 (.t 31 2 .e)))))))))))))))))]
def Qjk (n0:Int) (s1b:OA) (s1l s1c:Nat) (s2b:OA) (s2l s2c:Nat) (s3b:OA) (s3l s3c:Nat) (w:World) (R:RV):Prop:=nr Tryz.f3 Qj9 [.a [.v (.int .i64 n0),.v (.slice s1b s1l s1c),.v (.slice s2b s2l s2c),.v (.slice s3b s3l s3c)]] w R
theorem Qqg (n0:Int) (s1b:OA) (s1l s1c:Nat) (s2b:OA) (s2l s2c:Nat) (s3b:OA) (s3l s3c:Nat):SH Qjx [.agg #[.int .i64 n0,.slice s1b s1l s1c,.slice s2b s2l s2c,.slice s3b s3l s3c]] (Qjk n0 s1b s1l s1c s2b s2l s2c s3b s3l s3c):=cdf Tryz.func3 Qj9
end Go.Proofs.YtfeekmmfdkfgmaaGreatDoor
/-
What each function does, as one formula, printed by a program of this session out of the translation; the kernel holds each print against the translation.
Conditions: none.
-/

set_option linter.unusedVariables false
namespace Go.Proofs.YtfeekmmfdkfgmaaGreatDoor
open Go
set_option maxRecDepth 100000
set_option maxHeartbeats 4000000
abbrev Qpu:HL:=[.j 3 [15] [.one .bool],.o [7,1,8] [.one .slc,.one (.int .u64),.one (.int .i64)]]
def Qo7 (s0b:OA) (s0l s0c:Nat) (n1 n2:Int) (w:World) (R:RV):Prop:=nr Tryz.f55 Qpu [.v (.slice s0b s0l s0c),.v (.int .u64 n1),.v (.int .i64 n2)] w R
theorem Quj (s0b:OA) (s0l s0c:Nat) (n1 n2:Int):SH Qph [.slice s0b s0l s0c,.int .u64 n1,.int .i64 n2] (Qo7 s0b s0l s0c n1 n2):=cdf Tryz.func55 Qpu
end Go.Proofs.YtfeekmmfdkfgmaaGreatDoor
/-
What each function does, as one formula, printed by a program of this session out of the translation; the kernel holds each print against the translation.
Conditions: none.
-/

set_option linter.unusedVariables false
namespace Go.Proofs.YtfeekmmfdkfgmaaGreatDoor
open Go
set_option maxRecDepth 100000
set_option maxHeartbeats 4000000
abbrev Qoj:HL:=[.j 1 [] [],.o [6] [.one (.int .i64)],.j 4 [8] [.one .bool]]
def Qmm (n0:Int) (s1b:OA) (s1l s1c:Nat) (w:World) (R:RV):Prop:=nr Tryz.f114 Qoj [.v (.int .i64 n0),.v (.slice s1b s1l s1c)] w R
theorem Qs6 (n0:Int) (s1b:OA) (s1l s1c:Nat):SH Qnn [.int .i64 n0,.slice s1b s1l s1c] (Qmm n0 s1b s1l s1c):=cdr Tryz.func114 Qoj
end Go.Proofs.YtfeekmmfdkfgmaaGreatDoor
/-
What each function does, as one formula, printed by a program of this session out of the translation; the kernel holds each print against the translation.
Conditions: none.
-/

set_option linter.unusedVariables false
namespace Go.Proofs.YtfeekmmfdkfgmaaGreatDoor
open Go
set_option maxRecDepth 100000
set_option maxHeartbeats 4000000
abbrev Qog:HL:=[.o [9] [.one (.int .i64)],.o [10] [.one (.int .i64)],.j 6 [67] [.one .bool],.r (.k 0 [12,13] [12,13] (.t 1 3 (.k 4 [6,7,8,11,12,13] [8,11,12,13] (.t 5 2 (.k 7 [8,11,12,13] [8,11,12,13] (.t 9 1 (.w 8 (.o 10 (.o 11 (.o 12 (.o 13 .e)))) 10 (.o 8 (.o 11 (.o 12 (.o 13 .e))))))))))),.o [16] [.one (.int .i64)]]
def Qmj (n0 n1:Int) (s2b:OA) (s2l s2c:Nat) (w:World) (R:RV):Prop:=nr Tryz.f23 Qog [.v (.int .i64 n0),.v (.int .i64 n1),.v (.slice s2b s2l s2c)] w R
theorem Qs3 (n0 n1:Int) (s2b:OA) (s2l s2c:Nat):SH Qnl [.int .i64 n0,.int .i64 n1,.slice s2b s2l s2c] (Qmj n0 n1 s2b s2l s2c):=cdr Tryz.func23 Qog
def Qo5 (n0 n1:Int) (w:World) (R:RV):Prop:=nr Tryz.f67 [] [.v (.int .i64 n0),.v (.int .i64 n1)] w R
theorem Quh (n0 n1:Int):SH Qil [.int .i64 n0,.int .i64 n1] (Qo5 n0 n1):=cdr Tryz.func67 []
abbrev Qoh:HL:=[.o [6] [.one (.int .i64)],.o [7] [.one (.int .i64)]]
def Qmk (n0:Int) (s1b:OA) (s1l s1c:Nat) (n2:Int) (w:World) (R:RV):Prop:=nr Tryz.f68 Qoh [.a [.v (.int .i64 n0),.v (.slice s1b s1l s1c)],.v (.int .i64 n2)] w R
theorem Qs4 (n0:Int) (s1b:OA) (s1l s1c:Nat) (n2:Int):SH Qeu [.agg #[.int .i64 n0,.slice s1b s1l s1c],.int .i64 n2] (Qmk n0 s1b s1l s1c n2):=cdf Tryz.func68 Qoh
def Qmh (n0:Int) (s1b:OA) (s1l s1c:Nat) (n2:Int) (s3b:OA) (s3l s3c:Nat) (w:World) (R:RV):Prop:=nr Tryz.f69 [] [.a [.v (.int .i64 n0),.v (.slice s1b s1l s1c)],.v (.int .i64 n2),.v (.slice s3b s3l s3c)] w R
theorem Qs1 (n0:Int) (s1b:OA) (s1l s1c:Nat) (n2:Int) (s3b:OA) (s3l s3c:Nat):SH Qet [.agg #[.int .i64 n0,.slice s1b s1l s1c],.int .i64 n2,.slice s3b s3l s3c] (Qmh n0 s1b s1l s1c n2 s3b s3l s3c):=cdr Tryz.func69 []
abbrev Qls:HL:=[.o [3,4] [.one .slc,.one (.int .i64)]]
def Qkt (n0:Int) (s1b:OA) (s1l s1c:Nat) (w:World) (R:RV):Prop:=nr Tryz.f70 Qls [.a [.v (.int .i64 n0),.v (.slice s1b s1l s1c)]] w R
theorem Qrd (n0:Int) (s1b:OA) (s1l s1c:Nat):SH Qgo [.agg #[.int .i64 n0,.slice s1b s1l s1c]] (Qkt n0 s1b s1l s1c):=cdf Tryz.func70 Qls
abbrev Qof:HL:=[.r (.t 0 15 .e)]
def Qmi (n0:Int) (s1b:OA) (s1l s1c:Nat) (n2 n3:Int) (w:World) (R:RV):Prop:=nr Tryz.f84 Qof [.a [.v (.int .i64 n0),.v (.slice s1b s1l s1c)],.v (.int .i64 n2),.v (.int .i64 n3)] w R
theorem Qs2 (n0:Int) (s1b:OA) (s1l s1c:Nat) (n2 n3:Int):SH Qht [.agg #[.int .i64 n0,.slice s1b s1l s1c],.int .i64 n2,.int .i64 n3] (Qmi n0 s1b s1l s1c n2 n3):=cdf Tryz.func84 Qof
end Go.Proofs.YtfeekmmfdkfgmaaGreatDoor
/-
What each function does, as one formula, printed by a program of this session out of the translation; the kernel holds each print against the translation.
Conditions: none.
-/

set_option linter.unusedVariables false
namespace Go.Proofs.YtfeekmmfdkfgmaaGreatDoor
open Go
set_option maxRecDepth 100000
set_option maxHeartbeats 4000000
abbrev Qpt:HL:=[.o [3,4] [.one .slc,.one (.int .i64)]]
def Qo6 (n0:Int) (w:World) (R:RV):Prop:=nr Tryz.f154 Qpt [.v (.int .i64 n0)] w R
theorem Qui (n0:Int):SH Qpg [.int .i64 n0] (Qo6 n0):=cdf Tryz.func154 Qpt
abbrev Qoi:HL:=[.r (.t 0 9 .e),.r (.t 0 20 .e),.o [10,11] [.one .slc,.one (.int .i64)]]
def Qml (s0b:OA) (s0l s0c:Nat) (n1 n2:Int) (w:World) (R:RV):Prop:=nr Tryz.f155 Qoi [.v (.slice s0b s0l s0c),.v (.int .i64 n1),.v (.int .i64 n2)] w R
theorem Qs5 (s0b:OA) (s0l s0c:Nat) (n1 n2:Int):SH Qnm [.slice s0b s0l s0c,.int .i64 n1,.int .i64 n2] (Qml s0b s0l s0c n1 n2):=cdf Tryz.func155 Qoi
abbrev Qps:HL:=[.o [3,5] [.one .slc,.one (.int .i64)],.r (.k 0 [5,6] [5] (.t 1 3 (.k 4 [5,6] [5] (.o 5 (.t 6 1 .e))))),.o [7,8] [.one (.int .i64),.one (.int .i64)]]
def Qo4 (n0:Int) (s1b:OA) (s1l s1c:Nat) (w:World) (R:RV):Prop:=nr Tryz.f156 Qps [.a [.v (.int .i64 n0),.v (.slice s1b s1l s1c)]] w R
theorem Qug (n0:Int) (s1b:OA) (s1l s1c:Nat):SH Qik [.agg #[.int .i64 n0,.slice s1b s1l s1c]] (Qo4 n0 s1b s1l s1c):=cdf Tryz.func156 Qps
abbrev Qoe:HL:=[.o [5,6] [.one .slc,.one (.int .i64)],.r (.k 0 [7,8] [7] (.t 1 5 (.k 6 [7,8] [7] (.o 7 (.t 8 1 .e)))))]
def Qmf (n0:Int) (s1b:OA) (s1l s1c:Nat) (n2:Int) (w:World) (R:RV):Prop:=nr Tryz.f160 Qoe [.a [.v (.int .i64 n0),.v (.slice s1b s1l s1c)],.v (.int .i64 n2)] w R
theorem Qsz (n0:Int) (s1b:OA) (s1l s1c:Nat) (n2:Int):SH Qhr [.agg #[.int .i64 n0,.slice s1b s1l s1c],.int .i64 n2] (Qmf n0 s1b s1l s1c n2):=cdf Tryz.func160 Qoe
def Qmg (n0:Int) (s1b:OA) (s1l s1c:Nat) (n2:Int) (w:World) (R:RV):Prop:=nr Tryz.f228 [] [.a [.v (.int .i64 n0),.v (.slice s1b s1l s1c)],.v (.int .i64 n2)] w R
theorem Qs0 (n0:Int) (s1b:OA) (s1l s1c:Nat) (n2:Int):SH Qhs [.agg #[.int .i64 n0,.slice s1b s1l s1c],.int .i64 n2] (Qmg n0 s1b s1l s1c n2):=cdf Tryz.func228 []
abbrev Qod:HL:=[.o [6] [.one (.int .i64)],.r (.t 0 12 .e),.r (.k 0 [6,8] [6,8] (.t 1 4 (.k 5 [6,8] [6,8] (.w 6 (.o 7 (.o 8 .e)) 7 (.o 6 (.o 8 .e))))))]
def Qme (n0:Int) (s1b:OA) (s1l s1c:Nat) (s2b:OA) (s2l s2c:Nat) (w:World) (R:RV):Prop:=nr Tryz.f25 Qod [.a [.v (.int .i64 n0),.v (.slice s1b s1l s1c)],.v (.slice s2b s2l s2c)] w R
theorem Qsy (n0:Int) (s1b:OA) (s1l s1c:Nat) (s2b:OA) (s2l s2c:Nat):SH Qnk [.agg #[.int .i64 n0,.slice s1b s1l s1c],.slice s2b s2l s2c] (Qme n0 s1b s1l s1c s2b s2l s2c):=cdf Tryz.func25 Qod
abbrev Qj8:HL:=[.o [3,5] [.one .slc,.one (.int .i64)],.r (.k 0 [5,6,7,8,9,10] [5] (.t 1 3 (.k 4 [5,6,7,8,9,10] [5] (.o 5 (.t 6 5 .e))))),.r (.k 0 [6,7,8,9,10,11] [6] (.t 1 3 (.k 4 [5,6,7,8,9,10,11] [6] (.t 5 1 (.o 6 (.t 7 5 .e))))))]
def Qjj (n0:Int) (s1b:OA) (s1l s1c:Nat) (w:World) (R:RV):Prop:=nr Tryz.f71 Qj8 [.a [.v (.int .i64 n0),.v (.slice s1b s1l s1c)]] w R
theorem Qqf (n0:Int) (s1b:OA) (s1l s1c:Nat):SH Qfz [.agg #[.int .i64 n0,.slice s1b s1l s1c]] (Qjj n0 s1b s1l s1c):=cdf Tryz.func71 Qj8
abbrev Qlr:HL:=[.o [9] [.one (.int .i64)],.j 3 [] [],.j 2 [] [],.r (.t 0 12 .e),.j 0 [] [],.r (.t 0 10 .e),.o [10] [.one (.int .i64)],.r (.t 0 11 .e),.r (.t 0 13 .e),.o [12] [.one (.int .i64)],.r (.k 0 [7,8,9,10,11,12] [7] (.t 1 3 (.k 4 [5,6,7,8,9,10,11,12] [7] (.t 5 1 (.k 6 [7,8,9,10,11,12] [7] (.o 7 (.t 8 5 .e)))))))]
def Qks (n0:Int) (s1b:OA) (s1l s1c:Nat) (s2b:OA) (s2l s2c:Nat) (n3:Int) (w:World) (R:RV):Prop:=nr Tryz.f72 Qlr [.a [.v (.int .i64 n0),.v (.slice s1b s1l s1c)],.v (.slice s2b s2l s2c),.v (.int .i64 n3)] w R
theorem Qrc (n0:Int) (s1b:OA) (s1l s1c:Nat) (s2b:OA) (s2l s2c:Nat) (n3:Int):SH Qk8 [.agg #[.int .i64 n0,.slice s1b s1l s1c],.slice s2b s2l s2c,.int .i64 n3] (Qks n0 s1b s1l s1c s2b s2l s2c n3):=cdr Tryz.func72 Qlr
end Go.Proofs.YtfeekmmfdkfgmaaGreatDoor
/-
What each function does, as one formula, printed by a program of this session out of the translation; the kernel holds each print against the translation.
Conditions: none.
-/

set_option linter.unusedVariables false
namespace Go.Proofs.YtfeekmmfdkfgmaaGreatDoor
open Go
set_option maxRecDepth 100000
set_option maxHeartbeats 4000000
abbrev Qlp:HL:=[.o [6,7] [.one .slc,.one (.int .i64)],.j 3 [6] [.one .slc],.o [8,9,10] [.one (.int .i64),.one (.int .i64),.one (.int .i64)],.r (.k 0 [5,7] [5] (.t 1 3 (.k 4 [5,7] [5] (.t 6 1 (.o 5 (.t 7 1 .e)))))),.o [11,12] [.one (.int .i64),.one (.int .i64)],.j 3 [] []]
def Qkq (n0:Int) (s1b:OA) (s1l s1c:Nat) (s2b:OA) (s2l s2c:Nat) (s3b:OA) (s3l s3c:Nat) (w:World) (R:RV):Prop:=nr Tryz.f11 Qlp [.a [.v (.int .i64 n0),.v (.slice s1b s1l s1c),.v (.slice s2b s2l s2c),.v (.slice s3b s3l s3c)]] w R
theorem Qra (n0:Int) (s1b:OA) (s1l s1c:Nat) (s2b:OA) (s2l s2c:Nat) (s3b:OA) (s3l s3c:Nat):SH Qk6 [.agg #[.int .i64 n0,.slice s1b s1l s1c,.slice s2b s2l s2c,.slice s3b s3l s3c]] (Qkq n0 s1b s1l s1c s2b s2l s2c s3b s3l s3c):=cdf Tryz.func11 Qlp
abbrev Qj7:HL:=[.r (.t 0 1 (.k 1 [2,3,8,9] [3,8] (.t 2 1 (.t 4 1 (.k 5 [6,7,8,9] [8] (.t 6 2 (.o 3 (.o 8 (.t 9 1 .e))))))))),.o [3,4] [.one .slc,.one (.int .i64)],.r (.t 0 2 (.k 2 [4,5,6,7,8,16,17] [8,16] (.t 3 3 (.k 6 [7,8,16,17] [8,16] (.t 7 1 (.t 9 1 (.k 10 [12,13,14,15,16,17] [16] (.t 11 3 (.k 14 [15,16,17] [16] (.t 15 1 (.o 8 (.o 16 (.t 17 1 .e))))))))))))),.o [3,5] [.one .slc,.one (.int .i64)],.r (.t 0 2 (.k 2 [4,5,6,7,8,16,17] [8,16] (.t 3 3 (.k 6 [7,8,16,17] [8,16] (.t 7 1 (.t 9 1 (.k 10 [12,13,14,15,16,17] [16] (.t 11 3 (.k 14 [15,16,17] [16] (.t 15 1 (.o 8 (.o 16 (.t 17 1 .e))))))))))))),.r (.t 0 3 (.k 3 [4,5,10,11] [5,10] (.t 4 1 (.t 6 2 (.k 8 [9,10,11] [10] (.t 9 1 (.o 5 (.o 10 (.t 11 1 .e))))))))),.r (.t 0 3 (.k 3 [4,5,10,11] [5,10] (.t 4 1 (.t 6 2 (.k 8 [9,10,11] [10] (.t 9 1 (.o 5 (.o 10 (.t 11 1 .e)))))))))]
def Qji (n0:Int) (s1b:OA) (s1l s1c:Nat) (s2b:OA) (s2l s2c:Nat) (s3b:OA) (s3l s3c:Nat) (w:World) (R:RV):Prop:=nr Tryz.f16 Qj7 [.a [.v (.int .i64 n0),.v (.slice s1b s1l s1c),.v (.slice s2b s2l s2c),.v (.slice s3b s3l s3c)]] w R
theorem Qqe (n0:Int) (s1b:OA) (s1l s1c:Nat) (s2b:OA) (s2l s2c:Nat) (s3b:OA) (s3l s3c:Nat):SH Qjw [.agg #[.int .i64 n0,.slice s1b s1l s1c,.slice s2b s2l s2c,.slice s3b s3l s3c]] (Qji n0 s1b s1l s1c s2b s2l s2c s3b s3l s3c):=cdf Tryz.func16 Qj7
abbrev Qoc:HL:=[.j 3 [] [],.o [7] [.one (.int .i64)],.o [10] [.one (.int .i64)],.r (.t 0 17 .e),.j 0 [] [],.r (.t 0 1 (.k 1 [9,10,11,12,13,14,15,16,17,18,19,20,21,22,23,24,25,26,27,28,29,30,31] [9,16,23,29] (.k 2 [7,8,9,10,11,12,13,14,15,16,17,18,19,20,21,22,23,24,25,26,27,28,29,30,31] [7,9,16,23,29] (.t 3 3 (.k 6 [7,8,9,10,11,12,13,14,15,16,17,18,19,20,21,22,23,24,25,26,27,28,29,30,31] [7,9,16,23,29] (.o 7 (.t 8 1 (.o 9 (.t 10 3 (.k 13 [16,17,18,19,20,21,22,23,24,25,26,27,28,29,30,31] [16,23,29] (.t 14 2 (.o 16 (.t 17 3 (.k 20 [23,29,30,31] [23,29] (.t 21 2 (.k 24 [29,30,31] [29] (.t 25 3 (.k 28 [29,30,31] [29] (.o 23 (.o 29 (.t 30 2 .e)))))))))))))))))))))]
def Qmc (n0:Int) (s1b:OA) (s1l s1c:Nat) (s2b:OA) (s2l s2c:Nat) (s3b:OA) (s3l s3c:Nat) (w:World) (R:RV):Prop:=nr Tryz.f43 Qoc [.a [.v (.int .i64 n0),.v (.slice s1b s1l s1c),.v (.slice s2b s2l s2c),.v (.slice s3b s3l s3c)]] w R
theorem Qsw (n0:Int) (s1b:OA) (s1l s1c:Nat) (s2b:OA) (s2l s2c:Nat) (s3b:OA) (s3l s3c:Nat):SH Qni [.agg #[.int .i64 n0,.slice s1b s1l s1c,.slice s2b s2l s2c,.slice s3b s3l s3c]] (Qmc n0 s1b s1l s1c s2b s2l s2c s3b s3l s3c):=cdf Tryz.func43 Qoc
abbrev Qlq:HL:=[.o [3,4] [.one .slc,.one (.int .i64)]]
def Qkr (n0:Int) (s1b:OA) (s1l s1c:Nat) (s2b:OA) (s2l s2c:Nat) (s3b:OA) (s3l s3c:Nat) (w:World) (R:RV):Prop:=nr Tryz.f44 Qlq [.a [.v (.int .i64 n0),.v (.slice s1b s1l s1c),.v (.slice s2b s2l s2c),.v (.slice s3b s3l s3c)]] w R
theorem Qrb (n0:Int) (s1b:OA) (s1l s1c:Nat) (s2b:OA) (s2l s2c:Nat) (s3b:OA) (s3l s3c:Nat):SH Qk7 [.agg #[.int .i64 n0,.slice s1b s1l s1c,.slice s2b s2l s2c,.slice s3b s3l s3c]] (Qkr n0 s1b s1l s1c s2b s2l s2c s3b s3l s3c):=cdf Tryz.func44 Qlq
def Qmb (n0:Int) (s1b:OA) (s1l s1c:Nat) (s2b:OA) (s2l s2c:Nat) (s3b:OA) (s3l s3c:Nat) (n4:Int) (w:World) (R:RV):Prop:=nr Tryz.f45 [] [.a [.v (.int .i64 n0),.v (.slice s1b s1l s1c),.v (.slice s2b s2l s2c),.v (.slice s3b s3l s3c)],.v (.int .i64 n4)] w R
theorem Qsv (n0:Int) (s1b:OA) (s1l s1c:Nat) (s2b:OA) (s2l s2c:Nat) (s3b:OA) (s3l s3c:Nat) (n4:Int):SH Qnh [.agg #[.int .i64 n0,.slice s1b s1l s1c,.slice s2b s2l s2c,.slice s3b s3l s3c],.int .i64 n4] (Qmb n0 s1b s1l s1c s2b s2l s2c s3b s3l s3c n4):=cdf Tryz.func45 []
def Qma (n0:Int) (s1b:OA) (s1l s1c:Nat) (s2b:OA) (s2l s2c:Nat) (s3b:OA) (s3l s3c:Nat) (n4:Int) (w:World) (R:RV):Prop:=nr Tryz.f46 [] [.a [.v (.int .i64 n0),.v (.slice s1b s1l s1c),.v (.slice s2b s2l s2c),.v (.slice s3b s3l s3c)],.v (.int .i64 n4)] w R
theorem Qsu (n0:Int) (s1b:OA) (s1l s1c:Nat) (s2b:OA) (s2l s2c:Nat) (s3b:OA) (s3l s3c:Nat) (n4:Int):SH Qng [.agg #[.int .i64 n0,.slice s1b s1l s1c,.slice s2b s2l s2c,.slice s3b s3l s3c],.int .i64 n4] (Qma n0 s1b s1l s1c s2b s2l s2c s3b s3l s3c n4):=cdf Tryz.func46 []
def Qmd (s0b:OA) (s0l s0c:Nat) (n1:Int) (w:World) (R:RV):Prop:=nr Tryz.f115 [] [.v (.slice s0b s0l s0c),.v (.int .u32 n1)] w R
theorem Qsx (s0b:OA) (s0l s0c:Nat) (n1:Int):SH Qnj [.slice s0b s0l s0c,.int .u32 n1] (Qmd s0b s0l s0c n1):=cdf Tryz.func115 []
end Go.Proofs.YtfeekmmfdkfgmaaGreatDoor
/-
What each function does, as one formula, printed by a program of this session out of the translation; the kernel holds each print against the translation.
Conditions: none.
-/

set_option linter.unusedVariables false
namespace Go.Proofs.YtfeekmmfdkfgmaaGreatDoor
open Go
set_option maxRecDepth 100000
set_option maxHeartbeats 4000000
def Qfc (p0:OA) (n1:Int) (w:World) (R:RV):Prop:=nr Tryz.f181 [] [.v (.pointer p0),.v (.int .i64 n1)] w R
theorem Qf3 (p0:OA) (n1:Int):SH Qfm [.pointer p0,.int .i64 n1] (Qfc p0 n1):=cdf Tryz.func181 []
def Qvj (n0:Int) (w:World) (R:RV):Prop:=nr Tryz.f197 [] [.v (.int .i64 n0)] w R
theorem Qva (n0:Int):SH Qvq [.int .i64 n0] (Qvj n0):=cdf Tryz.func197 []
def Qc9 (p0:OA) (n1 n2:Int) (w:World) (R:RV):Prop:=nr Tryz.f204 [] [.v (.pointer p0),.v (.int .i64 n1),.v (.int .i64 n2)] w R
theorem Qdk (p0:OA) (n1 n2:Int):SH Qdf [.pointer p0,.int .i64 n1,.int .i64 n2] (Qc9 p0 n1 n2):=cdf Tryz.func204 []
def Qha (p0:OA) (n1:Int) (w:World) (R:RV):Prop:=nr Tryz.f220 [] [.v (.pointer p0),.v (.int .i64 n1)] w R
theorem Qi1 (p0:OA) (n1:Int):SH Qhq [.pointer p0,.int .i64 n1] (Qha p0 n1):=cdf Tryz.func220 []
def Qcs (p0:OA) (n1 n2:Int) (w:World) (R:RV):Prop:=nr Tryz.f221 [] [.v (.pointer p0),.v (.int .i64 n1),.v (.int .i64 n2)] w R
theorem Qc1 (p0:OA) (n1 n2:Int):SH Qcv [.pointer p0,.int .i64 n1,.int .i64 n2] (Qcs p0 n1 n2):=cdf Tryz.func221 []
def Qg9 (p0:OA) (w:World) (R:RV):Prop:=nr Tryz.f240 [] [.v (.pointer p0)] w R
theorem Qi0 (p0:OA):SH Qhp [.pointer p0] (Qg9 p0):=cdf Tryz.func240 []
def Qd7 (p0:OA) (n1:Int) (w:World) (R:RV):Prop:=nr Tryz.f262 [] [.v (.pointer p0),.v (.int .i64 n1)] w R
theorem Qei (p0:OA) (n1:Int):SH Qd9 [.pointer p0,.int .i64 n1] (Qd7 p0 n1):=cdf Tryz.func262 []
def Qen (p0:OA) (n1:Int) (w:World) (R:RV):Prop:=nr Tryz.f263 [] [.v (.pointer p0),.v (.int .i64 n1)] w R
theorem Qe7 (p0:OA) (n1:Int):SH Qes [.pointer p0,.int .i64 n1] (Qen p0 n1):=cdf Tryz.func263 []
abbrev Qob:HL:=[.r (.t 0 3 (.k 3 [12,13,14,15,16] [12] (.t 4 8 (.o 12 (.t 13 4 .e)))))]
def Qem (p0:OA) (n1 n2:Int) (w:World) (R:RV):Prop:=nr Tryz.f264 Qob [.v (.pointer p0),.v (.int .i64 n1),.v (.int .i64 n2)] w R
theorem Qe6 (p0:OA) (n1 n2:Int):SH Qer [.pointer p0,.int .i64 n1,.int .i64 n2] (Qem p0 n1 n2):=cdf Tryz.func264 Qob
end Go.Proofs.YtfeekmmfdkfgmaaGreatDoor
/-
What each function does, as one formula, printed by a program of this session out of the translation; the kernel holds each print against the translation.
Conditions: none.
-/

set_option linter.unusedVariables false
namespace Go.Proofs.YtfeekmmfdkfgmaaGreatDoor
open Go
set_option maxRecDepth 100000
set_option maxHeartbeats 4000000
def Qa3 (s0b:OA) (s0l s0c:Nat) (f1:Value) (w:World) (R:RV):Prop:=nr Tryz.f110 [] [.v (.slice s0b s0l s0c),.o f1] w R
theorem Qbn (s0b:OA) (s0l s0c:Nat) (f1:Value):SH Qa4 [.slice s0b s0l s0c,f1] (Qa3 s0b s0l s0c f1):=cdf Tryz.func110 []
def Qbj (s0b:OA) (s0l s0c:Nat) (w:World) (R:RV):Prop:=nr Tryz.f112 [] [.v (.slice s0b s0l s0c)] w R
theorem Qb2 (s0b:OA) (s0l s0c:Nat):SH Qbl [.slice s0b s0l s0c] (Qbj s0b s0l s0c):=cdf Tryz.func112 []
abbrev Qbz:HL:=[.o [8] [.one (.int .i64)]]
def Qbd (s0b:OA) (s0l s0c:Nat) (f1:Value) (w:World) (R:RV):Prop:=nr Tryz.f186 Qbz [.v (.slice s0b s0l s0c),.o f1] w R
theorem Qbr (s0b:OA) (s0l s0c:Nat) (f1:Value):SH Qd8 [.slice s0b s0l s0c,f1] (Qbd s0b s0l s0c f1):=cdf Tryz.func186 Qbz
def Qb9 (s0b:OA) (s0l s0c:Nat) (f1:Value) (w:World) (R:RV):Prop:=nr Tryz.f256 [] [.v (.slice s0b s0l s0c),.o f1] w R
theorem Qdh (s0b:OA) (s0l s0c:Nat) (f1:Value):SH Qca [.slice s0b s0l s0c,f1] (Qb9 s0b s0l s0c f1):=cdf Tryz.func256 []
def Qb1 (s0b:OA) (s0l s0c:Nat) (f1:Value) (w:World) (R:RV):Prop:=nr Tryz.f267 [] [.v (.slice s0b s0l s0c),.o f1] w R
theorem Qd1 (s0b:OA) (s0l s0c:Nat) (f1:Value):SH Qee [.slice s0b s0l s0c,f1] (Qb1 s0b s0l s0c f1):=cdf Tryz.func267 []
def Qd5 (s0b:OA) (s0l s0c:Nat) (w:World) (R:RV):Prop:=nr Tryz.f282 [] [.v (.slice s0b s0l s0c)] w R
theorem Qh2 (s0b:OA) (s0l s0c:Nat):SH Qcb [.slice s0b s0l s0c] (Qd5 s0b s0l s0c):=cdf Tryz.func282 []
abbrev Qe8:HL:=[.o [8] [.one (.int .i64)]]
def Qcr (s0b:OA) (s0l s0c:Nat) (f1:Value) (w:World) (R:RV):Prop:=nr Tryz.f290 Qe8 [.v (.slice s0b s0l s0c),.o f1] w R
theorem Qd6 (s0b:OA) (s0l s0c:Nat) (f1:Value):SH Qk5 [.slice s0b s0l s0c,f1] (Qcr s0b s0l s0c f1):=cdf Tryz.func290 Qe8
abbrev Qcc:HL:=[.o [8] [.one (.int .i64)]]
def Qb8 (s0b:OA) (s0l s0c:Nat) (f1:Value) (w:World) (R:RV):Prop:=nr Tryz.f299 Qcc [.v (.slice s0b s0l s0c),.o f1] w R
theorem Qef (s0b:OA) (s0l s0c:Nat) (f1:Value):SH Qe2 [.slice s0b s0l s0c,f1] (Qb8 s0b s0l s0c f1):=cdf Tryz.func299 Qcc
def Qel (p0:OA) (n1:Int) (w:World) (R:RV):Prop:=nr Tryz.f241 [] [.v (.pointer p0),.v (.int .i64 n1)] w R
theorem Qe5 (p0:OA) (n1:Int):SH Qeq [.pointer p0,.int .i64 n1] (Qel p0 n1):=cdf Tryz.func241 []
abbrev Q1u:HL:=[.j 1 [] [],.o [22] [.one (.int .i64)]]
def Qxl (n0:Int) (w:World) (R:RV):Prop:=nr Tryz.f244 Q1u [.v (.int .i64 n0)] w R
theorem Qw5 (n0:Int):SH Qxw [.int .i64 n0] (Qxl n0):=cdf Tryz.func244 Q1u
def Qc7 (p0:OA) (n1 n2:Int) (w:World) (R:RV):Prop:=nr Tryz.f246 [] [.v (.pointer p0),.v (.int .i64 n1),.v (.int .i64 n2)] w R
theorem Qdi (p0:OA) (n1 n2:Int):SH Qde [.pointer p0,.int .i64 n1,.int .i64 n2] (Qc7 p0 n1 n2):=cdf Tryz.func246 []
def Qc8 (p0:OA) (n1 n2:Int) (w:World) (R:RV):Prop:=nr Tryz.f265 [] [.v (.pointer p0),.v (.int .i64 n1),.v (.int .i64 n2)] w R
theorem Qdj (p0:OA) (n1 n2:Int):SH Qcf [.pointer p0,.int .i64 n1,.int .i64 n2] (Qc8 p0 n1 n2):=cdf Tryz.func265 []
def Qfb (p0:OA) (n1:Int) (w:World) (R:RV):Prop:=nr Tryz.f280 [] [.v (.pointer p0),.v (.int .i64 n1)] w R
theorem Qf2 (p0:OA) (n1:Int):SH Qfl [.pointer p0,.int .i64 n1] (Qfb p0 n1):=cdf Tryz.func280 []
abbrev Qlo:HL:=[.o [12] [.one (.int .i64)]]
def Qgk (p0 s1b:OA) (s1l s1c:Nat) (w:World) (R:RV):Prop:=nr Tryz.f286 Qlo [.v (.pointer p0),.v (.slice s1b s1l s1c)] w R
theorem Qh9 (p0 s1b:OA) (s1l s1c:Nat):SH Qcu [.pointer p0,.slice s1b s1l s1c] (Qgk p0 s1b s1l s1c):=cdf Tryz.func286 Qlo
def Qg7 (p0:OA) (n1 n2:Int) (w:World) (R:RV):Prop:=nr Tryz.f287 [] [.v (.pointer p0),.v (.int .i32 n1),.v (.int .i32 n2)] w R
theorem Qiy (p0:OA) (n1 n2:Int):SH Qhm [.pointer p0,.int .i32 n1,.int .i32 n2] (Qg7 p0 n1 n2):=cdf Tryz.func287 []
abbrev Qpr:HL:=[.r (.t 0 3 (.k 3 [10,11,12,13,14,15] [12,15] (.t 4 4 (.k 8 [10,11,12,13,14,15] [12,15] (.t 9 3 (.o 12 (.t 13 2 (.o 15 .e))))))))]
def Qdw (p0:OA) (n1:Int) (w:World) (R:RV):Prop:=nr Tryz.f288 Qpr [.v (.pointer p0),.v (.int .i64 n1)] w R
theorem Qdt (p0:OA) (n1:Int):SH Qcn [.pointer p0,.int .i64 n1] (Qdw p0 n1):=cdf Tryz.func288 Qpr
abbrev Qq6:HL:=[.r (.t 0 12 .e)]
def Qgd (p0:OA) (n1 n2:Int) (w:World) (R:RV):Prop:=nr Tryz.f293 Qq6 [.v (.pointer p0),.v (.int .i64 n1),.v (.int .i64 n2)] w R
theorem Qgq (p0:OA) (n1 n2:Int):SH Qgf [.pointer p0,.int .i64 n1,.int .i64 n2] (Qgd p0 n1 n2):=cdf Tryz.func293 Qq6
abbrev Qn9:HL:=[.r (.t 0 14 .e)]
def Qg8 (p0:OA) (n1:Int) (w:World) (R:RV):Prop:=nr Tryz.f294 Qn9 [.v (.pointer p0),.v (.int .i64 n1)] w R
theorem Qiz (p0:OA) (n1:Int):SH Qho [.pointer p0,.int .i64 n1] (Qg8 p0 n1):=cdf Tryz.func294 Qn9
abbrev Qpq:HL:=[.o [1] [.one (.int .i32)]]
def Qo3 (p0:OA) (n1:Int) (b2:Bool) (w:World) (R:RV):Prop:=nr Tryz.f295 Qpq [.v (.pointer p0),.v (.int .i32 n1),.v (.bool b2)] w R
theorem Quf (p0:OA) (n1:Int) (b2:Bool):SH Qpf [.pointer p0,.int .i32 n1,.bool b2] (Qo3 p0 n1 b2):=cdf Tryz.func295 Qpq
abbrev Qn7:HL:=[.o [4,5] [.one .slc,.one (.int .i32)],.o [6] [.one (.int .i64)],.o [] [],.r (.t 0 21 .e)]
def Ql6 (p0:OA) (n1:Int) (w:World) (R:RV):Prop:=nr Tryz.f296 Qn7 [.v (.pointer p0),.v (.int .i32 n1)] w R
theorem Qsq (p0:OA) (n1:Int):SH Qep [.pointer p0,.int .i32 n1] (Ql6 p0 n1):=cdf Tryz.func296 Qn7
def Ql7 (p0:OA) (n1 n2:Int) (b3:Bool) (w:World) (R:RV):Prop:=nr Tryz.f297 [] [.v (.pointer p0),.v (.int .i32 n1),.v (.int .i32 n2),.v (.bool b3)] w R
theorem Qsr (p0:OA) (n1 n2:Int) (b3:Bool):SH Qne [.pointer p0,.int .i32 n1,.int .i32 n2,.bool b3] (Ql7 p0 n1 n2 b3):=cdf Tryz.func297 []
abbrev Qn6:HL:=[.r (.t 0 7 (.k 7 [16,17,18,19,20,21,22,23,24,25,26,27] [18,21,24,27] (.t 8 3 (.k 11 [16,17,18,19,20,21,22,23,24,25,26,27] [18,21,24,27] (.t 12 3 (.k 15 [16,17,18,19,20,21,22,23,24,25,26,27] [18,21,24,27] (.t 16 2 (.o 18 (.t 19 2 (.o 21 (.t 22 2 (.o 24 (.t 25 2 (.o 27 .e)))))))))))))),.r (.t 0 10 .e),.u 3,.r (.t 0 3 (.k 3 [8,9,10,11] [11] (.t 4 3 (.k 7 [8,9,10,11] [11] (.t 8 3 (.o 11 .e)))))),.r (.t 0 3 (.k 3 [8,9,10,11] [11] (.t 4 3 (.k 7 [8,9,10,11] [11] (.t 8 3 (.o 11 .e)))))),.r (.t 0 5 (.k 5 [10,20,21,22,23,24,25] [22,25] (.t 6 3 (.k 9 [10,20,21,22,23,24,25] [22,25] (.t 10 4 (.k 14 [19,20,21,22,23,24,25] [22,25] (.t 15 3 (.k 18 [19,20,21,22,23,24,25] [22,25] (.t 19 3 (.o 22 (.t 23 2 (.o 25 .e))))))))))))]
def Ql5 (p0:OA) (n1:Int) (w:World) (R:RV):Prop:=nr Tryz.f298 Qn6 [.v (.pointer p0),.v (.int .i32 n1)] w R
theorem Qsp (p0:OA) (n1:Int):SH Qnd [.pointer p0,.int .i32 n1] (Ql5 p0 n1):=cdf Tryz.func298 Qn6
abbrev Qn5:HL:=[.r (.t 0 5 (.k 5 [10,11,12,13,14,15] [12,15] (.t 6 3 (.k 9 [10,11,12,13,14,15] [12,15] (.t 10 2 (.o 12 (.t 13 2 (.o 15 .e)))))))),.r (.t 0 10 .e),.u 3,.r (.t 0 3 (.k 3 [14,15,16] [16] (.t 4 4 (.k 8 [10,11,12,13,14,15,16] [16] (.t 9 3 (.k 12 [13,14,15,16] [16] (.t 13 3 (.o 16 .e))))))))]
def Ql4 (p0:OA) (n1:Int) (w:World) (R:RV):Prop:=nr Tryz.f304 Qn5 [.v (.pointer p0),.v (.int .i32 n1)] w R
theorem Qso (p0:OA) (n1:Int):SH Qnc [.pointer p0,.int .i32 n1] (Ql4 p0 n1):=cdf Tryz.func304 Qn5
abbrev Qn8:HL:=[.o [1] [.one (.int .i32)]]
def Ql8 (p0:OA) (n1:Int) (f2:Value) (w:World) (R:RV):Prop:=nr Tryz.f308 Qn8 [.v (.pointer p0),.v (.int .i32 n1),.o f2] w R
theorem Qss (p0:OA) (n1:Int) (f2:Value):SH Qhn [.pointer p0,.int .i32 n1,f2] (Ql8 p0 n1 f2):=cdf Tryz.func308 Qn8
abbrev Qoa:HL:=[.r (.t 0 11 .e)]
def Ql9 (n0 n1 n2:Int) (b3:Bool) (n4 n5 n6 n7 n8:Int) (q9 q10:OA) (w:World) (R:RV):Prop:=nr Tryz.f309 Qoa [.a [.v (.int .i32 n0),.v (.int .i32 n1),.v (.int .i32 n2),.v (.bool b3),.v (.int .i32 n4),.v (.int .i64 n5),.v (.int .i64 n6),.v (.int .i64 n7),.v (.int .i64 n8)],.v (.pointer q9),.v (.pointer q10)] w R
theorem Qst (n0 n1 n2:Int) (b3:Bool) (n4 n5 n6 n7 n8:Int) (q9 q10:OA):SH Qnf [.agg #[.int .i32 n0,.int .i32 n1,.int .i32 n2,.bool b3,.int .i32 n4,.int .i64 n5,.int .i64 n6,.int .i64 n7,.int .i64 n8],.pointer q9,.pointer q10] (Ql9 n0 n1 n2 b3 n4 n5 n6 n7 n8 q9 q10):=cdf Tryz.func309 Qoa
def Qjh (p0:OA) (n1:Int) (w:World) (R:RV):Prop:=nr Tryz.f310 [] [.v (.pointer p0),.v (.int .i32 n1)] w R
theorem Qqd (p0:OA) (n1:Int):SH Qjv [.pointer p0,.int .i32 n1] (Qjh p0 n1):=cdf Tryz.func310 []
end Go.Proofs.YtfeekmmfdkfgmaaGreatDoor
/-
What each function does, as one formula, printed by a program of this session out of the translation; the kernel holds each print against the translation.
Conditions: none.
-/

set_option linter.unusedVariables false
namespace Go.Proofs.YtfeekmmfdkfgmaaGreatDoor
open Go
set_option maxRecDepth 100000
set_option maxHeartbeats 4000000
def Qjg (p0:OA) (n1:Int) (w:World) (R:RV):Prop:=nr Tryz.f113 [] [.v (.pointer p0),.v (.int .i64 n1)] w R
theorem Qqc (p0:OA) (n1:Int):SH Qju [.pointer p0,.int .i64 n1] (Qjg p0 n1):=cdf Tryz.func113 []
abbrev Qyz:HL:=[.j 1 [] [],.o [5] [.one (.int .i64)],.j 2 [] []]
def Ql3 (n0:Int) (w:World) (R:RV):Prop:=nr Tryz.f176 Qyz [.v (.int .i64 n0)] w R
theorem Qli (n0:Int):SH Qnb [.int .i64 n0] (Ql3 n0):=cdf Tryz.func176 Qyz
def Qjf (p0:OA) (n1:Int) (w:World) (R:RV):Prop:=nr Tryz.f187 [] [.v (.pointer p0),.v (.int .i64 n1)] w R
theorem Qqb (p0:OA) (n1:Int):SH Qjt [.pointer p0,.int .i64 n1] (Qjf p0 n1):=cdf Tryz.func187 []
def Ql2 (p0:OA) (n1:Int) (w:World) (R:RV):Prop:=nr Tryz.f188 [] [.v (.pointer p0),.v (.int .i64 n1)] w R
theorem Qsn (p0:OA) (n1:Int):SH Qna [.pointer p0,.int .i64 n1] (Ql2 p0 n1):=cdf Tryz.func188 []
abbrev Qn4:HL:=[.o [1,15] [.one (.int .i64),.one (.int .i64)],.r (.t 0 4 (.k 4 [8,9,10] [10] (.t 5 5 (.o 10 .e))))]
def Ql1 (p0:OA) (n1:Int) (w:World) (R:RV):Prop:=nr Tryz.f189 Qn4 [.v (.pointer p0),.v (.int .i64 n1)] w R
theorem Qsm (p0:OA) (n1:Int):SH Qm9 [.pointer p0,.int .i64 n1] (Ql1 p0 n1):=cdf Tryz.func189 Qn4
def Quu (n0:Int) (w:World) (R:RV):Prop:=nr Tryz.f236 [] [.v (.int .i64 n0)] w R
theorem Qx7 (n0:Int):SH Qu4 [.int .i64 n0] (Quu n0):=cdf Tryz.func236 []
end Go.Proofs.YtfeekmmfdkfgmaaGreatDoor
/-
What each function does, as one formula, printed by a program of this session out of the translation; the kernel holds each print against the translation.
Conditions: none.
-/

set_option linter.unusedVariables false
namespace Go.Proofs.YtfeekmmfdkfgmaaGreatDoor
open Go
set_option maxRecDepth 100000
set_option maxHeartbeats 4000000
def Qyi (n0:Int) (s1b:OA) (s1l s1c:Nat) (w:World) (R:RV):Prop:=nr Tryz.f152 [] [.v (.int .i64 n0),.v (.slice s1b s1l s1c)] w R
theorem Q0o (n0:Int) (s1b:OA) (s1l s1c:Nat):SH Qyq [.int .i64 n0,.slice s1b s1l s1c] (Qyi n0 s1b s1l s1c):=cdf Tryz.func152 []
def Qwf (n0:Int) (s1b:OA) (s1l s1c:Nat) (w:World) (R:RV):Prop:=nr Tryz.f222 [] [.v (.int .i64 n0),.v (.slice s1b s1l s1c)] w R
theorem Qy5 (n0:Int) (s1b:OA) (s1l s1c:Nat):SH Qwu [.int .i64 n0,.slice s1b s1l s1c] (Qwf n0 s1b s1l s1c):=cdf Tryz.func222 []
abbrev Qvd:HL:=[.o [12,34] [.one (.int .i64),.one (.int .i64)],.r (.t 0 5 (.k 5 [11,12,13,14,15,16] [11] (.t 6 4 (.k 10 [11,12,13,14,15,16] [11] (.o 11 (.t 12 5 .e))))))]
def Qut (n0:Int) (s1b:OA) (s1l s1c:Nat) (s2b:OA) (s2l s2c:Nat) (w:World) (R:RV):Prop:=nr Tryz.f223 Qvd [.v (.int .i64 n0),.v (.slice s1b s1l s1c),.v (.slice s2b s2l s2c)] w R
theorem Qx6 (n0:Int) (s1b:OA) (s1l s1c:Nat) (s2b:OA) (s2l s2c:Nat):SH Qu3 [.int .i64 n0,.slice s1b s1l s1c,.slice s2b s2l s2c] (Qut n0 s1b s1l s1c s2b s2l s2c):=cdf Tryz.func223 Qvd
abbrev Qvc:HL:=[.o [10] [.one (.int .i64)]]
def Qus (s0b:OA) (s0l s0c:Nat) (w:World) (R:RV):Prop:=nr Tryz.f224 Qvc [.v (.slice s0b s0l s0c)] w R
theorem Qx5 (s0b:OA) (s0l s0c:Nat):SH Qu2 [.slice s0b s0l s0c] (Qus s0b s0l s0c):=cdf Tryz.func224 Qvc
def Qrr (n0 n1 n2:Int) (q3:OA) (w:World) (R:RV):Prop:=nr Tryz.f266 [] [.a [.v (.int .i64 n0),.v (.int .i64 n1),.v (.int .i32 n2)],.v (.pointer q3)] w R
theorem Qw4 (n0 n1 n2:Int) (q3:OA):SH Qhl [.agg #[.int .i64 n0,.int .i64 n1,.int .i32 n2],.pointer q3] (Qrr n0 n1 n2 q3):=cdf Tryz.func266 []
abbrev Qq5:HL:=[.r (.k 0 [2,3,4,10,13,14,15,16] [10,13,14,15] (.t 1 3 (.k 4 [10,13,14,15,16] [10,13,14,15] (.k 5 [7,8,9,10,13,14,15,16] [10,13,14,15] (.t 6 3 (.k 9 [10,13,14,15,16] [10,13,14,15] (.t 11 2 (.o 10 (.o 13 (.o 14 (.o 15 (.t 16 1 .e))))))))))))]
def Qqp (n0 n1:Int) (q2:OA) (w:World) (R:RV):Prop:=nr Tryz.f269 Qq5 [.v (.int .i64 n0),.v (.int .i64 n1),.v (.pointer q2)] w R
theorem Qvy (n0 n1:Int) (q2:OA):SH Qci [.int .i64 n0,.int .i64 n1,.pointer q2] (Qqp n0 n1 q2):=cdf Tryz.func269 Qq5
end Go.Proofs.YtfeekmmfdkfgmaaGreatDoor
/-
What each function does, as one formula, printed by a program of this session out of the translation; the kernel holds each print against the translation.
Conditions: none.
-/

set_option linter.unusedVariables false
namespace Go.Proofs.YtfeekmmfdkfgmaaGreatDoor
open Go
set_option maxRecDepth 100000
set_option maxHeartbeats 4000000
abbrev Qvb:HL:=[.o [37] [.one (.int .i64)],.o [73] [.one (.int .i64)]]
def Qur (p0 s1b:OA) (s1l s1c:Nat) (w:World) (R:RV):Prop:=nr Tryz.f148 Qvb [.v (.pointer p0),.v (.slice s1b s1l s1c)] w R
theorem Qx4 (p0 s1b:OA) (s1l s1c:Nat):SH Qu0 [.pointer p0,.slice s1b s1l s1c] (Qur p0 s1b s1l s1c):=cdf Tryz.func148 Qvb
abbrev Qtr:HL:=[.o [34] [.one (.int .i64)],.o [49] [.one (.int .i64)]]
def Qkp (p0 s1b:OA) (s1l s1c:Nat) (w:World) (R:RV):Prop:=nr Tryz.f213 Qtr [.v (.pointer p0),.v (.slice s1b s1l s1c)] w R
theorem Qn1 (p0 s1b:OA) (s1l s1c:Nat):SH Qk4 [.pointer p0,.slice s1b s1l s1c] (Qkp p0 s1b s1l s1c):=cdf Tryz.func213 Qtr
abbrev Qq4:HL:=[.o [28] [.one (.int .i64)]]
def Qi7 (p0:OA) (w:World) (R:RV):Prop:=nr Tryz.f214 Qq4 [.v (.pointer p0)] w R
theorem Qlh (p0:OA):SH Qi8 [.pointer p0] (Qi7 p0):=cdf Tryz.func214 Qq4
def Qwe (m0:Option Nat) (p1:OA) (n2 n3 n4 n5 n6:Int) (w:World) (R:RV):Prop:=nr Tryz.f215 [] [.v (.map m0),.v (.pointer p1),.v (.int .i64 n2),.a [.v (.int .i64 n3),.v (.int .i64 n4),.v (.int .i64 n5),.v (.int .i64 n6)]] w R
theorem Qy4 (m0:Option Nat) (p1:OA) (n2 n3 n4 n5 n6:Int):SH Qwt [.map m0,.pointer p1,.int .i64 n2,.agg #[.int .i64 n3,.int .i64 n4,.int .i64 n5,.int .i64 n6]] (Qwe m0 p1 n2 n3 n4 n5 n6):=cdf Tryz.func215 []
def Qo2 (n0:Int) (q1:OA) (w:World) (R:RV):Prop:=nr Tryz.f255 [] [.v (.int .i64 n0),.v (.pointer q1)] w R
theorem Que (n0:Int) (q1:OA):SH Qfk [.int .i64 n0,.pointer q1] (Qo2 n0 q1):=cdf Tryz.func255 []
def Quq (p0:OA) (n1:Int) (w:World) (R:RV):Prop:=nr Tryz.f258 [] [.v (.pointer p0),.v (.int .i64 n1)] w R
theorem Qx3 (p0:OA) (n1:Int):SH Quz [.pointer p0,.int .i64 n1] (Quq p0 n1):=cdf Tryz.func258 []
end Go.Proofs.YtfeekmmfdkfgmaaGreatDoor
/-
What each function does, as one formula, printed by a program of this session out of the translation; the kernel holds each print against the translation.
Conditions: none.
-/

set_option linter.unusedVariables false
namespace Go.Proofs.YtfeekmmfdkfgmaaGreatDoor
open Go
set_option maxRecDepth 100000
set_option maxHeartbeats 4000000
def Q00 (w:World) (R:RV):Prop:=nr Tryz.f131 [] [] w R
theorem Qya:SH Q05 [] (Q00):=cdf Tryz.func131 []
def Qyj (n0 n1:Int) (w:World) (R:RV):Prop:=nr Tryz.f135 [] [.v (.int .i32 n0),.v (.int .i64 n1)] w R
theorem Q0p (n0 n1:Int):SH Qyr [.int .i32 n0,.int .i64 n1] (Qyj n0 n1):=cdf Tryz.func135 []
def Qzx (n0:Int) (w:World) (R:RV):Prop:=nr Tryz.f166 [] [.v (.int .i64 n0)] w R
theorem Qw9 (n0:Int):SH Qsg [.int .i64 n0] (Qzx n0):=cdf Tryz.func166 []
abbrev Qyy:HL:=[.o [30] [.one (.int .i64)],.o [12,37] [.one (.int .i64),.one (.int .i64)]]
def Qrq (n0 n1:Int) (s2b:OA) (s2l s2c:Nat) (w:World) (R:RV):Prop:=nr Tryz.f63 Qyy [.v (.int .i64 n0),.v (.int .i64 n1),.v (.slice s2b s2l s2c)] w R
theorem Qsl (n0 n1:Int) (s2b:OA) (s2l s2c:Nat):SH Qsb [.int .i64 n0,.int .i64 n1,.slice s2b s2l s2c] (Qrq n0 n1 s2b s2l s2c):=cdf Tryz.func63 Qyy
abbrev Q0u:HL:=[.j 1 [] [],.j 2 [6] [.one .ptr],.r (.t 0 2 (.t 3 1 (.t 5 1 (.h 2 (.w 4 (.o 6 (.t 7 1 (.o 8 (.t 9 1 .e)))) 6 (.o 4 (.t 7 1 (.o 8 (.t 9 1 .e))))) 4 (.w 2 (.o 6 (.t 7 1 (.o 8 (.t 9 1 .e)))) 6 (.o 2 (.t 7 1 (.o 8 (.t 9 1 .e))))) 6 (.w 2 (.o 4 (.t 7 1 (.o 8 (.t 9 1 .e)))) 4 (.o 2 (.t 7 1 (.o 8 (.t 9 1 .e))))))))),.o [38] [.one (.int .i64)],.o [54] [.one (.int .i64)]]
def Qvi (n0 n1:Int) (w:World) (R:RV):Prop:=nr Tryz.f127 Q0u [.v (.int .i64 n0),.v (.int .i64 n1)] w R
theorem Qu9 (n0 n1:Int):SH Qvp [.int .i64 n0,.int .i64 n1] (Qvi n0 n1):=cdf Tryz.func127 Q0u
def Qfa (p0:OA) (n1:Int) (w:World) (R:RV):Prop:=nr Tryz.f133 [] [.v (.pointer p0),.v (.int .i64 n1)] w R
theorem Qf1 (p0:OA) (n1:Int):SH Qfj [.pointer p0,.int .i64 n1] (Qfa p0 n1):=cdf Tryz.func133 []
abbrev Qpp:HL:=[.o [20] [.one (.int .i64)],.o [26] [.one (.int .i64)],.o [51] [.one (.int .i64)]]
def Qie (p0 s1b:OA) (s1l s1c:Nat) (w:World) (R:RV):Prop:=nr Tryz.f146 Qpp [.v (.pointer p0),.v (.slice s1b s1l s1c)] w R
theorem Qj3 (p0 s1b:OA) (s1l s1c:Nat):SH Qij [.pointer p0,.slice s1b s1l s1c] (Qie p0 s1b s1l s1c):=cdf Tryz.func146 Qpp
abbrev Qpo:HL:=[.j 2 [6] [.one (.int .i32)],.r (.t 0 9 .e),.r (.t 0 3 (.k 3 [6,7,8,9,10] [10] (.t 4 1 (.k 5 [6,7,8,9,10] [10] (.t 6 1 (.k 7 [8,9,10] [10] (.t 8 2 (.o 10 .e)))))))),.r (.t 0 3 (.k 3 [11,12] [12] (.t 4 2 (.k 6 [7,10,11,12] [12] (.t 7 5 (.o 12 .e)))))),.r (.t 0 3 (.k 3 [7,8] [8] (.t 4 1 (.k 5 [7,8] [8] (.t 6 2 (.o 8 .e)))))),.r (.t 0 3 (.k 3 [11,12] [12] (.t 4 2 (.k 6 [7,10,11,12] [12] (.t 7 5 (.o 12 .e)))))),.r (.t 0 3 (.k 3 [12,13,14,15,16,17] [14,17] (.t 4 4 (.k 8 [12,13,14,15,16,17] [14,17] (.t 9 5 (.o 14 (.t 15 2 (.o 17 .e))))))))]
def Qid (p0:OA) (n1 n2 n3:Int) (w:World) (R:RV):Prop:=nr Tryz.f147 Qpo [.v (.pointer p0),.v (.int .i32 n1),.a [.v (.int .i64 n2),.v (.int .i64 n3)]] w R
theorem Qj2 (p0:OA) (n1 n2 n3:Int):SH Qii [.pointer p0,.int .i32 n1,.agg #[.int .i64 n2,.int .i64 n3]] (Qid p0 n1 n2 n3):=cdf Tryz.func147 Qpo
def Qek (p0:OA) (n1:Int) (w:World) (R:RV):Prop:=nr Tryz.f158 [] [.v (.pointer p0),.v (.int .i64 n1)] w R
theorem Qe4 (p0:OA) (n1:Int):SH Qeo [.pointer p0,.int .i64 n1] (Qek p0 n1):=cdf Tryz.func158 []
def Qdq (p0:OA) (n1:Int) (w:World) (R:RV):Prop:=nr Tryz.f159 [] [.v (.pointer p0),.v (.int .i64 n1)] w R
theorem Qea (p0:OA) (n1:Int):SH Qds [.pointer p0,.int .i64 n1] (Qdq p0 n1):=cdf Tryz.func159 []
def Qfu (p0:OA) (n1:Int) (w:World) (R:RV):Prop:=nr Tryz.f168 [] [.v (.pointer p0),.v (.int .i64 n1)] w R
theorem Qh1 (p0:OA) (n1:Int):SH Qfy [.pointer p0,.int .i64 n1] (Qfu p0 n1):=cdf Tryz.func168 []
def Qg5 (p0:OA) (n1:Int) (w:World) (R:RV):Prop:=nr Tryz.f201 [] [.v (.pointer p0),.v (.int .i64 n1)] w R
theorem Qiw (p0:OA) (n1:Int):SH Qhj [.pointer p0,.int .i64 n1] (Qg5 p0 n1):=cdf Tryz.func201 []
abbrev Qln:HL:=[.r (.t 0 13 .e)]
def Qgj (p0:OA) (w:World) (R:RV):Prop:=nr Tryz.f216 Qln [.v (.pointer p0)] w R
theorem Qh8 (p0:OA):SH Qgn [.pointer p0] (Qgj p0):=cdf Tryz.func216 Qln
abbrev Qn3:HL:=[.j 4 [11] [.one .bool]]
def Qg6 (p0:OA) (n1:Int) (w:World) (R:RV):Prop:=nr Tryz.f227 Qn3 [.v (.pointer p0),.v (.int .i64 n1)] w R
theorem Qix (p0:OA) (n1:Int):SH Qhk [.pointer p0,.int .i64 n1] (Qg6 p0 n1):=cdr Tryz.func227 Qn3
def Qft (p0:OA) (n1:Int) (w:World) (R:RV):Prop:=nr Tryz.f231 [] [.v (.pointer p0),.v (.int .i64 n1)] w R
theorem Qh0 (p0:OA) (n1:Int):SH Qfx [.pointer p0,.int .i64 n1] (Qft p0 n1):=cdf Tryz.func231 []
end Go.Proofs.YtfeekmmfdkfgmaaGreatDoor
/-
What each function does, as one formula, printed by a program of this session out of the translation; the kernel holds each print against the translation.
Conditions: none.
-/

set_option linter.unusedVariables false
namespace Go.Proofs.YtfeekmmfdkfgmaaGreatDoor
open Go
set_option maxRecDepth 100000
set_option maxHeartbeats 4000000
abbrev Qyx:HL:=[.j 1 [] [],.j 2 [4] [.one .ptr],.r (.t 0 1 (.t 2 1 (.t 4 1 (.h 1 (.w 3 (.o 5 (.t 6 1 (.o 7 (.t 8 1 .e)))) 5 (.o 3 (.t 6 1 (.o 7 (.t 8 1 .e))))) 3 (.w 1 (.o 5 (.t 6 1 (.o 7 (.t 8 1 .e)))) 5 (.o 1 (.t 6 1 (.o 7 (.t 8 1 .e))))) 5 (.w 1 (.o 3 (.t 6 1 (.o 7 (.t 8 1 .e)))) 3 (.o 1 (.t 6 1 (.o 7 (.t 8 1 .e))))))))),.o [26] [.one (.int .i64)],.r (.t 0 3 (.k 3 [19,20,21,22,23,24] [20,22,24] (.t 4 4 (.k 8 [19,20,21,22,23,24] [20,22,24] (.t 9 4 (.k 13 [19,20,21,22,23,24] [20,22,24] (.t 14 6 (.o 20 (.t 21 1 (.o 22 (.t 23 1 (.o 24 .e))))))))))))]
def Qrp (n0:Int) (w:World) (R:RV):Prop:=nr Tryz.f257 Qyx [.v (.int .i64 n0)] w R
theorem Qsk (n0:Int):SH Qsa [.int .i64 n0] (Qrp n0):=cdf Tryz.func257 Qyx
abbrev Qj6:HL:=[.j 2 [] [],.j 2 [8,9] [.one (.int .i32),.one (.int .i32)],.r (.t 0 15 .e),.r (.t 0 4 (.k 4 [16,17,18,19] [16,19] (.t 5 5 (.k 10 [12,13,14,15,16,17,18,19] [15,16,19] (.t 11 2 (.k 13 [14,15,16,17,18,19] [15,16,19] (.t 14 1 (.o 15 (.o 16 (.t 17 2 (.o 19 .e))))))))))),.r (.t 0 3 (.k 3 [5,6,14,15,16] [16] (.t 4 2 (.k 6 [14,15,16] [16] (.t 7 3 (.k 10 [12,13,14,15,16] [16] (.t 11 2 (.k 13 [14,15,16] [16] (.t 14 2 (.o 16 .e)))))))))),.r (.t 0 3 (.k 3 [20,21] [21] (.t 4 4 (.k 8 [10,11,19,20,21] [21] (.t 9 2 (.k 11 [19,20,21] [21] (.t 12 3 (.k 15 [17,18,19,20,21] [21] (.t 16 2 (.k 18 [19,20,21] [21] (.t 19 2 (.o 21 .e))))))))))))]
def Qje (p0:OA) (n1 n2:Int) (w:World) (R:RV):Prop:=nr Tryz.f259 Qj6 [.v (.pointer p0),.v (.int .i64 n1),.v (.int .i64 n2)] w R
theorem Qqa (p0:OA) (n1 n2:Int):SH Qjs [.pointer p0,.int .i64 n1,.int .i64 n2] (Qje p0 n1 n2):=cdf Tryz.func259 Qj6
def Qip (p0:OA) (n1:Int) (w:World) (R:RV):Prop:=nr Tryz.f260 [] [.v (.pointer p0),.v (.int .i64 n1)] w R
theorem Qpl (p0:OA) (n1:Int):SH Qit [.pointer p0,.int .i64 n1] (Qip p0 n1):=cdf Tryz.func260 []
def Qko (p0:OA) (n1 n2:Int) (w:World) (R:RV):Prop:=nr Tryz.f291 [] [.v (.pointer p0),.v (.int .i64 n1),.v (.int .i64 n2)] w R
theorem Qq9 (p0:OA) (n1 n2:Int):SH Qvo [.pointer p0,.int .i64 n1,.int .i64 n2] (Qko p0 n1 n2):=cdf Tryz.func291 []
abbrev Qj5:HL:=[.j 1 [] [],.o [6] [.one (.int .i32)]]
def Qjd (p0:OA) (n1:Int) (w:World) (R:RV):Prop:=nr Tryz.f292 Qj5 [.v (.pointer p0),.v (.int .i64 n1)] w R
theorem Qp9 (p0:OA) (n1:Int):SH Qjr [.pointer p0,.int .i64 n1] (Qjd p0 n1):=cdf Tryz.func292 Qj5
end Go.Proofs.YtfeekmmfdkfgmaaGreatDoor
/-
What each function does, as one formula, printed by a program of this session out of the translation; the kernel holds each print against the translation.
Conditions: none.
-/

set_option linter.unusedVariables false
namespace Go.Proofs.YtfeekmmfdkfgmaaGreatDoor
open Go
set_option maxRecDepth 100000
set_option maxHeartbeats 4000000
def Qkn (p0:OA) (n1:Int) (w:World) (R:RV):Prop:=nr Tryz.f106 [] [.v (.pointer p0),.v (.int .i64 n1)] w R
theorem Qn0 (p0:OA) (n1:Int):SH Qk3 [.pointer p0,.int .i64 n1] (Qkn p0 n1):=cdf Tryz.func106 []
abbrev Q1t:HL:=[.j 1 [] [],.o [54] [.one (.int .i64)],.o [69] [.one (.int .i64)]]
def Qxk (n0 n1:Int) (w:World) (R:RV):Prop:=nr Tryz.f128 Q1t [.v (.int .i64 n0),.v (.int .i64 n1)] w R
theorem Qw3 (n0 n1:Int):SH Qxv [.int .i64 n0,.int .i64 n1] (Qxk n0 n1):=cdf Tryz.func128 Q1t
def Qgc (p0:OA) (n1 n2:Int) (w:World) (R:RV):Prop:=nr Tryz.f150 [] [.v (.pointer p0),.v (.int .i64 n1),.v (.int .i64 n2)] w R
theorem Qgp (p0:OA) (n1 n2:Int):SH Qc5 [.pointer p0,.int .i64 n1,.int .i64 n2] (Qgc p0 n1 n2):=cdf Tryz.func150 []
def Qqn (p0:OA) (w:World) (R:RV):Prop:=nr Tryz.f180 [] [.v (.pointer p0)] w R
theorem Qvw (p0:OA):SH Qqx [.pointer p0] (Qqn p0):=cdf Tryz.func180 []
def Qqo (p0:OA) (n1:Int) (w:World) (R:RV):Prop:=nr Tryz.f182 [] [.v (.pointer p0),.v (.int .i64 n1)] w R
theorem Qvx (p0:OA) (n1:Int):SH Qqy [.pointer p0,.int .i64 n1] (Qqo p0 n1):=cdf Tryz.func182 []
def Qic (p0:OA) (n1 n2:Int) (w:World) (R:RV):Prop:=nr Tryz.f218 [] [.v (.pointer p0),.v (.int .i64 n1),.v (.int .i64 n2)] w R
theorem Qj1 (p0:OA) (n1 n2:Int):SH Qih [.pointer p0,.int .i64 n1,.int .i64 n2] (Qic p0 n1 n2):=cdf Tryz.func218 []
abbrev Qtq:HL:=[.j 2 [] []]
def Qro (p0:OA) (n1:Int) (w:World) (R:RV):Prop:=nr Tryz.f219 Qtq [.v (.pointer p0),.v (.int .i64 n1)] w R
theorem Qw2 (p0:OA) (n1:Int):SH Qr9 [.pointer p0,.int .i64 n1] (Qro p0 n1):=cdf Tryz.func219 Qtq
def Qf7 (p0:OA) (n1 n2 n3 n4:Int) (w:World) (R:RV):Prop:=nr Tryz.f225 [] [.v (.pointer p0),.v (.int .i64 n1),.v (.int .i64 n2),.v (.int .i64 n3),.v (.int .i64 n4)] w R
theorem Qfp (p0:OA) (n1 n2 n3 n4:Int):SH Qf9 [.pointer p0,.int .i64 n1,.int .i64 n2,.int .i64 n3,.int .i64 n4] (Qf7 p0 n1 n2 n3 n4):=cdf Tryz.func225 []
def Qup (p0:OA) (n1 n2:Int) (w:World) (R:RV):Prop:=nr Tryz.f252 [] [.v (.pointer p0),.v (.int .i64 n1),.v (.int .i64 n2)] w R
theorem Qx2 (p0:OA) (n1 n2:Int):SH Quy [.pointer p0,.int .i64 n1,.int .i64 n2] (Qup p0 n1 n2):=cdf Tryz.func252 []
end Go.Proofs.YtfeekmmfdkfgmaaGreatDoor
/-
What each function does, as one formula, printed by a program of this session out of the translation; the kernel holds each print against the translation.
Conditions: none.
-/

set_option linter.unusedVariables false
namespace Go.Proofs.YtfeekmmfdkfgmaaGreatDoor
open Go
set_option maxRecDepth 100000
set_option maxHeartbeats 4000000
end Go.Proofs.YtfeekmmfdkfgmaaGreatDoor
