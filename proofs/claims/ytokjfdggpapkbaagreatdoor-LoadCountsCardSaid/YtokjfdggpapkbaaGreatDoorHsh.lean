import Derived.Test.YtokjfdggpapkbaaGreatDoorLexS
/-
What each function does, as one formula, printed by a program of this session out of the translation; the kernel holds each print against the translation.
Conditions: none.
-/

set_option linter.unusedVariables false
namespace Go.Proofs.YtokjfdggpapkbaaGreatDoor
open Go
set_option maxRecDepth 100000
set_option maxHeartbeats 4000000
abbrev Qkz:HL:=[.r (.t 0 4 (.k 4 [5,6,7,8,9,10,11,12,13,14,15,16,17,18,19,20] [18] (.t 5 6 (.k 11 [13,14,18,19,20] [18] (.t 12 2 (.k 14 [18,19,20] [18] (.t 15 1 (.k 16 [17,18,19,20] [18] (.t 17 1 (.o 18 (.t 19 2 .e)))))))))))]
def Qj9 (p0:OA) (n1 n2:Int) (w:World) (R:RV):Prop:=nr Tryz.f21 Qkz [.v (.pointer p0),.a [.v (.int .u32 n1),.v (.int .u32 n2)]] w R
theorem Qpk (p0:OA) (n1 n2:Int):SH Qkk [.pointer p0,.agg #[.int .u32 n1,.int .u32 n2]] (Qj9 p0 n1 n2):=cdf Tryz.func21 Qkz
abbrev Quv:HL:=[.j 5 [] [],.o [50] [.one (.int .i64)]]
def Qn2 (n0:Int) (s1b:OA) (s1l s1c:Nat) (w:World) (R:RV):Prop:=nr Tryz.f58 Quv [.v (.int .i64 n0),.v (.slice s1b s1l s1c)] w R
theorem Qo7 (n0:Int) (s1b:OA) (s1l s1c:Nat):SH Qn9 [.int .i64 n0,.slice s1b s1l s1c] (Qn2 n0 s1b s1l s1c):=cdf Tryz.func58 Quv
abbrev Qmy:HL:=[.o [3,13] [.one .slc,.one (.int .i64)]]
def Qls (p0:OA) (w:World) (R:RV):Prop:=nr Tryz.f59 Qmy [.v (.pointer p0)] w R
theorem Qq8 (p0:OA):SH Qmg [.pointer p0] (Qls p0):=cdf Tryz.func59 Qmy
def Qen (p0:OA) (w:World) (R:RV):Prop:=nr Tryz.f67 [] [.v (.pointer p0)] w R
theorem Qgt (p0:OA):SH Qeu [.pointer p0] (Qen p0):=cdf Tryz.func67 []
def Qg8 (p0:OA) (w:World) (R:RV):Prop:=nr Tryz.f69 [] [.v (.pointer p0)] w R
theorem Qix (p0:OA):SH Qhr [.pointer p0] (Qg8 p0):=cdf Tryz.func69 []
def Qlr (n0:Int) (w:World) (R:RV):Prop:=nr Tryz.f117 [] [.v (.int .i64 n0)] w R
theorem Qks (n0:Int):SH Qmf [.int .i64 n0] (Qlr n0):=cdf Tryz.func117 []
def Qvu (n0 n1:Int) (w:World) (R:RV):Prop:=nr Tryz.f140 [] [.a [.v (.int .u32 n0),.v (.int .i64 n1)]] w R
theorem Qxn (n0 n1:Int):SH Qgr [.agg #[.int .u32 n0,.int .i64 n1]] (Qvu n0 n1):=cdf Tryz.func140 []
end Go.Proofs.YtokjfdggpapkbaaGreatDoor
/-
What each function does, as one formula, printed by a program of this session out of the translation; the kernel holds each print against the translation.
Conditions: none.
-/

set_option linter.unusedVariables false
namespace Go.Proofs.YtokjfdggpapkbaaGreatDoor
open Go
set_option maxRecDepth 100000
set_option maxHeartbeats 4000000
abbrev Quu:HL:=[.o [8] [.one (.int .i64)]]
def Qtx (s0b:OA) (s0l s0c:Nat) (w:World) (R:RV):Prop:=nr Tryz.f318 Quu [.v (.slice s0b s0l s0c)] w R
theorem Qwg (s0b:OA) (s0l s0c:Nat):SH Qt9 [.slice s0b s0l s0c] (Qtx s0b s0l s0c):=cdf Tryz.func318 Quu
def Qjd (n0 n1:Int) (w:World) (R:RV):Prop:=nr Tryz.f319 [] [.v (.int .i32 n0),.v (.int .i32 n1)] w R
theorem Qol (n0 n1:Int):SH Qjk [.int .i32 n0,.int .i32 n1] (Qjd n0 n1):=cdf Tryz.func319 []
def Qlq (n0 n1:Int) (w:World) (R:RV):Prop:=nr Tryz.f320 [] [.v (.int .i64 n0),.v (.int .i64 n1)] w R
theorem Qq7 (n0 n1:Int):SH Qme [.int .i64 n0,.int .i64 n1] (Qlq n0 n1):=cdf Tryz.func320 []
def Qlp (n0:Int) (w:World) (R:RV):Prop:=nr Tryz.f360 [] [.v (.int .i32 n0)] w R
theorem Qq6 (n0:Int):SH Qmd [.int .i32 n0] (Qlp n0):=cdf Tryz.func360 []
def Qoy (n0:Int) (w:World) (R:RV):Prop:=nr Tryz.f361 [] [.v (.int .i64 n0)] w R
theorem Qti (n0:Int):SH Qo6 [.int .i64 n0] (Qoy n0):=cdf Tryz.func361 []
end Go.Proofs.YtokjfdggpapkbaaGreatDoor
/-
What each function does, as one formula, printed by a program of this session out of the translation; the kernel holds each print against the translation.
Conditions: none.
-/

set_option linter.unusedVariables false
namespace Go.Proofs.YtokjfdggpapkbaaGreatDoor
open Go
set_option maxRecDepth 100000
set_option maxHeartbeats 4000000
def Qow (p0:OA) (w:World) (R:RV):Prop:=nr Tryz.f20 [] [.v (.pointer p0)] w R
theorem Qtg (p0:OA):SH Qo4 [.pointer p0] (Qow p0):=cdf Tryz.func20 []
def Qox (p0:OA) (n1:Int) (w:World) (R:RV):Prop:=nr Tryz.f22 [] [.v (.pointer p0),.v (.int .i64 n1)] w R
theorem Qth (p0:OA) (n1:Int):SH Qo5 [.pointer p0,.int .i64 n1] (Qox p0 n1):=cdf Tryz.func22 []
def Qln (p0:OA) (n1:Int) (w:World) (R:RV):Prop:=nr Tryz.f23 [] [.v (.pointer p0),.v (.int .i64 n1)] w R
theorem Qq4 (p0:OA) (n1:Int):SH Qmb [.pointer p0,.int .i64 n1] (Qln p0 n1):=cdf Tryz.func23 []
def Qpy (p0:OA) (n1:Int) (w:World) (R:RV):Prop:=nr Tryz.f24 [] [.v (.pointer p0),.v (.int .i64 n1)] w R
theorem Qup (p0:OA) (n1:Int):SH Qqh [.pointer p0,.int .i64 n1] (Qpy p0 n1):=cdf Tryz.func24 []
def Qlo (p0:OA) (w:World) (R:RV):Prop:=nr Tryz.f25 [] [.v (.pointer p0)] w R
theorem Qq5 (p0:OA):SH Qmc [.pointer p0] (Qlo p0):=cdr Tryz.func25 []
abbrev Qyv:HL:=[.o [61] [.one (.int .i64)]]
def Qyf (n0:Int) (s1b:OA) (s1l s1c:Nat) (s2b:OA) (s2l s2c:Nat) (s3b:OA) (s3l s3c:Nat) (w:World) (R:RV):Prop:=nr Tryz.f29 Qyv [.v (.int .i64 n0),.v (.slice s1b s1l s1c),.v (.slice s2b s2l s2c),.v (.slice s3b s3l s3c)] w R
theorem Qzw (n0:Int) (s1b:OA) (s1l s1c:Nat) (s2b:OA) (s2l s2c:Nat) (s3b:OA) (s3l s3c:Nat):SH Qym [.int .i64 n0,.slice s1b s1l s1c,.slice s2b s2l s2c,.slice s3b s3l s3c] (Qyf n0 s1b s1l s1c s2b s2l s2c s3b s3l s3c):=cdf Tryz.func29 Qyv
def Qlm (p0:OA) (n1:Int) (w:World) (R:RV):Prop:=nr Tryz.f74 [] [.v (.pointer p0),.v (.int .i64 n1)] w R
theorem Qq3 (p0:OA) (n1:Int):SH Qma [.pointer p0,.int .i64 n1] (Qlm p0 n1):=cdf Tryz.func74 []
def Qov (p0:OA) (n1:Int) (w:World) (R:RV):Prop:=nr Tryz.f75 [] [.v (.pointer p0),.v (.int .i64 n1)] w R
theorem Qtf (p0:OA) (n1:Int):SH Qo3 [.pointer p0,.int .i64 n1] (Qov p0 n1):=cdf Tryz.func75 []
abbrev Qxu:HL:=[.o [39] [.one (.int .i64)],.r (.t 0 2 (.t 3 4 (.w 2 (.o 7 (.t 8 1 (.o 9 (.t 10 2 .e)))) 7 (.o 2 (.t 8 1 (.o 9 (.t 10 2 .e)))))))]
def Qw1 (n0:Int) (w:World) (R:RV):Prop:=nr Tryz.f80 Qxu [.v (.int .i64 n0)] w R
theorem Qx6 (n0:Int):SH Qxf [.int .i64 n0] (Qw1 n0):=cdf Tryz.func80 Qxu
abbrev Qn0:HL:=[.o [14] [.one (.int .i64)],.o [21] [.one (.int .i64)],.r (.t 0 3 (.k 3 [8,9] [8] (.t 4 2 (.k 6 [8,9] [8] (.t 7 1 (.o 8 (.t 9 1 .e)))))))]
def Qni (p0:OA) (w:World) (R:RV):Prop:=nr Tryz.f86 Qn0 [.v (.pointer p0)] w R
theorem Qr3 (p0:OA):SH Qnq [.pointer p0] (Qni p0):=cdf Tryz.func86 Qn0
abbrev Qky:HL:=[.o [5,6,22] [.one .slc,.one .slc,.one (.int .i64)],.j 7 [] [],.o [97] [.one (.int .i64)]]
def Qj8 (p0 s1b:OA) (s1l s1c:Nat) (w:World) (R:RV):Prop:=nr Tryz.f87 Qky [.v (.pointer p0),.v (.slice s1b s1l s1c)] w R
theorem Qpj (p0 s1b:OA) (s1l s1c:Nat):SH Qki [.pointer p0,.slice s1b s1l s1c] (Qj8 p0 s1b s1l s1c):=cdf Tryz.func87 Qky
def Qe4 (p0:OA) (n1:Int) (w:World) (R:RV):Prop:=nr Tryz.f150 [] [.v (.pointer p0),.v (.int .i64 n1)] w R
theorem Qfv (p0:OA) (n1:Int):SH Qfd [.pointer p0,.int .i64 n1] (Qe4 p0 n1):=cdf Tryz.func150 []
abbrev Qut:HL:=[.o [7] [.one (.int .i64)]]
def Qtw (s0b:OA) (s0l s0c:Nat) (w:World) (R:RV):Prop:=nr Tryz.f167 Qut [.v (.slice s0b s0l s0c)] w R
theorem Qwf (s0b:OA) (s0l s0c:Nat):SH Qjy [.slice s0b s0l s0c] (Qtw s0b s0l s0c):=cdf Tryz.func167 Qut
abbrev Qpc:HL:=[.r (.t 0 3 (.k 3 [13,14,15,16] [16] (.t 4 3 (.k 7 [9,10,11,12,13,14,15,16] [11,16] (.t 8 2 (.k 10 [11,12,13,14,15,16] [11,16] (.o 11 (.t 12 4 (.o 16 .e))))))))),.r (.t 0 3 (.k 3 [12,19,26,27,28,29] [12,19,26,27,28] (.t 4 4 (.k 8 [10,11,12,19,26,27,28,29] [12,19,26,27,28] (.t 9 2 (.k 11 [12,19,26,27,28,29] [12,19,26,27,28] (.t 13 3 (.k 16 [19,26,27,28,29] [19,26,27,28] (.t 17 2 (.t 20 3 (.k 23 [26,27,28,29] [26,27,28] (.t 24 2 (.o 12 (.o 19 (.o 26 (.o 27 (.o 28 (.t 29 1 .e))))))))))))))))))]
def Qot (p0:OA) (n1:Int) (w:World) (R:RV):Prop:=nr Tryz.f171 Qpc [.v (.pointer p0),.v (.int .i64 n1)] w R
theorem Qtd (p0:OA) (n1:Int):SH Qf4 [.pointer p0,.int .i64 n1] (Qot p0 n1):=cdf Tryz.func171 Qpc
def Qou (p0:OA) (n1:Int) (w:World) (R:RV):Prop:=nr Tryz.f180 [] [.v (.pointer p0),.v (.int .i64 n1)] w R
theorem Qte (p0:OA) (n1:Int):SH Qo2 [.pointer p0,.int .i64 n1] (Qou p0 n1):=cdf Tryz.func180 []
abbrev Qre:HL:=[.r (.t 0 3 (.k 3 [17,18] [17] (.t 4 9 (.k 13 [15,16,17,18] [17] (.t 14 2 (.k 16 [17,18] [17] (.o 17 (.t 18 1 .e))))))))]
def Qpx (p0:OA) (n1:Int) (w:World) (R:RV):Prop:=nr Tryz.f182 Qre [.v (.pointer p0),.v (.int .i64 n1)] w R
theorem Quo (p0:OA) (n1:Int):SH Qkj [.pointer p0,.int .i64 n1] (Qpx p0 n1):=cdf Tryz.func182 Qre
end Go.Proofs.YtokjfdggpapkbaaGreatDoor
/-
What each function does, as one formula, printed by a program of this session out of the translation; the kernel holds each print against the translation.
Conditions: none.
-/

set_option linter.unusedVariables false
namespace Go.Proofs.YtokjfdggpapkbaaGreatDoor
open Go
set_option maxRecDepth 100000
set_option maxHeartbeats 4000000
abbrev Qyu:HL:=[.j 1 [] [],.o [22] [.one (.int .i64)]]
def Qu1 (n0:Int) (w:World) (R:RV):Prop:=nr Tryz.f160 Qyu [.v (.int .i64 n0)] w R
theorem Qun (n0:Int):SH Qva [.int .i64 n0] (Qu1 n0):=cdf Tryz.func160 Qyu
def Qe3 (p0:OA) (n1 n2:Int) (w:World) (R:RV):Prop:=nr Tryz.f161 [] [.v (.pointer p0),.v (.int .i64 n1),.v (.int .i64 n2)] w R
theorem Qfu (p0:OA) (n1 n2:Int):SH Qfc [.pointer p0,.int .i64 n1,.int .i64 n2] (Qe3 p0 n1 n2):=cdf Tryz.func161 []
def Qg7 (p0:OA) (n1 n2:Int) (w:World) (R:RV):Prop:=nr Tryz.f193 [] [.v (.pointer p0),.v (.int .i64 n1),.v (.int .i64 n2)] w R
theorem Qiw (p0:OA) (n1 n2:Int):SH Qel [.pointer p0,.int .i64 n1,.int .i64 n2] (Qg7 p0 n1 n2):=cdf Tryz.func193 []
abbrev Qkx:HL:=[.o [12] [.one (.int .i64)]]
def Qgc (p0 s1b:OA) (s1l s1c:Nat) (w:World) (R:RV):Prop:=nr Tryz.f240 Qkx [.v (.pointer p0),.v (.slice s1b s1l s1c)] w R
theorem Qh3 (p0 s1b:OA) (s1l s1c:Nat):SH Qbs [.pointer p0,.slice s1b s1l s1c] (Qgc p0 s1b s1l s1c):=cdf Tryz.func240 Qkx
abbrev Qjv:HL:=[.o [4,5] [.one (.int .i32),.one (.int .i32)]]
def Qjc (p0:OA) (n1:Int) (w:World) (R:RV):Prop:=nr Tryz.f241 Qjv [.v (.pointer p0),.v (.int .i32 n1)] w R
theorem Qok (p0:OA) (n1:Int):SH Qfq [.pointer p0,.int .i32 n1] (Qjc p0 n1):=cdf Tryz.func241 Qjv
abbrev Qmx:HL:=[.r (.t 0 7 (.k 7 [16,17,18,19,20,21,22,23,24,25,26,27] [18,21,24,27] (.t 8 3 (.k 11 [16,17,18,19,20,21,22,23,24,25,26,27] [18,21,24,27] (.t 12 3 (.k 15 [16,17,18,19,20,21,22,23,24,25,26,27] [18,21,24,27] (.t 16 2 (.o 18 (.t 19 2 (.o 21 (.t 22 2 (.o 24 (.t 25 2 (.o 27 .e)))))))))))))),.u 3,.r (.t 0 5 (.k 5 [8,16,17,18,19,20,21] [18,21] (.t 6 1 (.k 7 [8,16,17,18,19,20,21] [18,21] (.t 8 4 (.k 12 [15,16,17,18,19,20,21] [18,21] (.t 13 1 (.k 14 [15,19,20,21] [21] (.t 15 3 (.o 18 (.t 19 2 (.o 21 .e)))))))))))),.r (.t 0 5 (.k 5 [8,16,17,18,19,20,21] [18,21] (.t 6 1 (.k 7 [8,16,17,18,19,20,21] [18,21] (.t 8 4 (.k 12 [15,16,17,18,19,20,21] [18,21] (.t 13 1 (.k 14 [15,19,20,21] [21] (.t 15 3 (.o 18 (.t 19 2 (.o 21 .e))))))))))))]
def Qlk (p0:OA) (n1:Int) (w:World) (R:RV):Prop:=nr Tryz.f242 Qmx [.v (.pointer p0),.v (.int .i32 n1)] w R
theorem Qq1 (p0:OA) (n1:Int):SH Qek [.pointer p0,.int .i32 n1] (Qlk p0 n1):=cdf Tryz.func242 Qmx
def Qc8 (p0:OA) (n1 n2:Int) (w:World) (R:RV):Prop:=nr Tryz.f250 [] [.v (.pointer p0),.v (.int .i64 n1),.v (.int .i64 n2)] w R
theorem Qdh (p0:OA) (n1 n2:Int):SH Qcd [.pointer p0,.int .i64 n1,.int .i64 n2] (Qc8 p0 n1 n2):=cdf Tryz.func250 []
def Qlh (p0:OA) (n1 n2:Int) (w:World) (R:RV):Prop:=nr Tryz.f271 [] [.v (.pointer p0),.v (.int .i32 n1),.v (.int .i32 n2)] w R
theorem Qqy (p0:OA) (n1 n2:Int):SH Ql8 [.pointer p0,.int .i32 n1,.int .i32 n2] (Qlh p0 n1 n2):=cdf Tryz.func271 []
abbrev Qnz:HL:=[.r (.t 0 3 (.k 3 [13,14,15] [15] (.t 4 3 (.k 7 [9,10,11,12,13,14,15] [15] (.t 8 4 (.k 12 [13,14,15] [15] (.t 13 2 (.o 15 .e))))))))]
def Qdq (p0:OA) (n1 n2:Int) (w:World) (R:RV):Prop:=nr Tryz.f276 Qnz [.v (.pointer p0),.v (.int .i64 n1),.v (.int .i64 n2)] w R
theorem Qdn (p0:OA) (n1 n2:Int):SH Qcm [.pointer p0,.int .i64 n1,.int .i64 n2] (Qdq p0 n1 n2):=cdf Tryz.func276 Qnz
abbrev Qmv:HL:=[.r (.t 0 3 (.k 3 [14,15,16] [16] (.t 4 4 (.k 8 [10,11,12,13,14,15,16] [16] (.t 9 3 (.k 12 [13,14,15,16] [16] (.t 13 3 (.o 16 .e))))))))]
def Qli (p0:OA) (n1:Int) (w:World) (R:RV):Prop:=nr Tryz.f299 Qmv [.v (.pointer p0),.v (.int .i32 n1)] w R
theorem Qqz (p0:OA) (n1:Int):SH Qhp [.pointer p0,.int .i32 n1] (Qli p0 n1):=cdf Tryz.func299 Qmv
def Qll (p0:OA) (n1 n2:Int) (w:World) (R:RV):Prop:=nr Tryz.f325 [] [.v (.pointer p0),.v (.int .i32 n1),.v (.int .i32 n2)] w R
theorem Qq2 (p0:OA) (n1 n2:Int):SH Ql9 [.pointer p0,.int .i32 n1,.int .i32 n2] (Qll p0 n1 n2):=cdf Tryz.func325 []
def Qnh (p0:OA) (n1:Int) (w:World) (R:RV):Prop:=nr Tryz.f339 [] [.v (.pointer p0),.v (.int .i32 n1)] w R
theorem Qr2 (p0:OA) (n1:Int):SH Qds [.pointer p0,.int .i32 n1] (Qnh p0 n1):=cdf Tryz.func339 []
abbrev Qmw:HL:=[.r (.t 0 6 (.k 6 [14,15,18,19] [15,19] (.t 7 4 (.k 11 [14,15,18,19] [15,19] (.t 12 3 (.t 16 2 (.o 15 (.t 18 1 (.o 19 .e))))))))),.u 3,.r (.t 0 3 (.k 3 [14,15,16] [16] (.t 4 4 (.k 8 [10,11,12,13,14,15,16] [16] (.t 9 3 (.k 12 [13,14,15,16] [16] (.t 13 3 (.o 16 .e))))))))]
def Qlj (p0:OA) (n1:Int) (w:World) (R:RV):Prop:=nr Tryz.f341 Qmw [.v (.pointer p0),.v (.int .i32 n1)] w R
theorem Qq0 (p0:OA) (n1:Int):SH Qbb [.pointer p0,.int .i32 n1] (Qlj p0 n1):=cdf Tryz.func341 Qmw
abbrev Qmu:HL:=[.r (.t 0 18 .e)]
def Qlg (p0:OA) (n1:Int) (w:World) (R:RV):Prop:=nr Tryz.f342 Qmu [.v (.pointer p0),.v (.int .i32 n1)] w R
theorem Qqx (p0:OA) (n1:Int):SH Qej [.pointer p0,.int .i32 n1] (Qlg p0 n1):=cdf Tryz.func342 Qmu
abbrev Qjt:HL:=[.j 3 [] [],.r (.t 0 3 (.k 3 [9,10,11,12] [12] (.t 4 3 (.t 8 3 (.o 7 (.t 11 1 (.o 12 .e))))))),.r (.t 0 3 (.k 3 [12,13,14,15,16,17] [14,17] (.t 4 4 (.k 8 [12,13,14,15,16,17] [14,17] (.t 9 5 (.o 14 (.t 15 2 (.o 17 .e))))))))]
def Qjb (p0:OA) (n1:Int) (w:World) (R:RV):Prop:=nr Tryz.f343 Qjt [.v (.pointer p0),.v (.int .i32 n1)] w R
theorem Qoj (p0:OA) (n1:Int):SH Qa9 [.pointer p0,.int .i32 n1] (Qjb p0 n1):=cdf Tryz.func343 Qjt
end Go.Proofs.YtokjfdggpapkbaaGreatDoor
/-
What each function does, as one formula, printed by a program of this session out of the translation; the kernel holds each print against the translation.
Conditions: none.
-/

set_option linter.unusedVariables false
namespace Go.Proofs.YtokjfdggpapkbaaGreatDoor
open Go
set_option maxRecDepth 100000
set_option maxHeartbeats 4000000
abbrev Qxt:HL:=[.o [6,22] [.one .slc,.one (.int .i64)],.o [39] [.one (.int .i64)]]
def Qsy (p0:OA) (w:World) (R:RV):Prop:=nr Tryz.f178 Qxt [.v (.pointer p0)] w R
theorem Qsm (p0:OA):SH Qs6 [.pointer p0] (Qsy p0):=cdf Tryz.func178 Qxt
abbrev Qv9:HL:=[.o [8,6] [.one .slc,.one (.int .i64)]]
def Qle (p0:OA) (n1:Int) (w:World) (R:RV):Prop:=nr Tryz.f258 Qv9 [.v (.pointer p0),.v (.int .i64 n1)] w R
theorem Qkq (p0:OA) (n1:Int):SH Ql7 [.pointer p0,.int .i64 n1] (Qle p0 n1):=cdf Tryz.func258 Qv9
def Qlf (p0:OA) (n1:Int) (w:World) (R:RV):Prop:=nr Tryz.f309 [] [.v (.pointer p0),.v (.int .i64 n1)] w R
theorem Qkr (p0:OA) (n1:Int):SH Qqf [.pointer p0,.int .i64 n1] (Qlf p0 n1):=cdf Tryz.func309 []
end Go.Proofs.YtokjfdggpapkbaaGreatDoor
/-
The two parts of a function Qv5 its range over a function, as one formula each, printed by a program of this session out of the translation; the kernel holds each print against the translation.
Conditions: none.
-/

set_option linter.unusedVariables false
namespace Go.Proofs.YtokjfdggpapkbaaGreatDoor
open Go
set_option maxRecDepth 100000
set_option maxHeartbeats 4000000
def Qyp (f:Func):Code:=f.body.getD .skip
def preOf:Code→Code | .seq a (.seq b (.seq c (.seq (.seq r _) _)))=>.seq a (.seq b (.seq c r)) | c=>c
def midOf:Code→Code | .seq _ (.seq _ (.seq _ (.seq (.seq _ m) _)))=>m | c=>c
def postOf:Code→Code | .seq _ (.seq _ (.seq _ (.seq (.seq _ _) e)))=>e | c=>c
def Qfm (p0:Option Addr) (n1:Int) (w:World) (R:Value→World→Prop):Prop:=
 alo #[.pointer p0] Qaw w fun a2 w3=>
 alo #[.int .i32 n1] Qax w3 fun a4 w5=>
 ∃(I6:JP) (m7:JN),I6 [.slice (some a4) 1 1,.int .i32 n1] w5∧
 ∀_:Env,∀s8b s8l s8c n9 w10,I6 [.slice s8b s8l s8c,.int .i32 n9] w10→
 ldP a2 w10 fun p11=>
 Calls Pg Qds #[.pointer p11,.int .i32 n9] w10 fun e14 w13=>∃b12,e14=.returned (.bool b12)∧
 bif (!b12) then (
 ldP a2 w13 fun p15=>
 pt p15 fun a16=>
 ldS a16 w13 fun s17b s17l s17c=>
 ixS s17b s17l n9 9 fun a18=>
 ldI .i32 a18 w13 fun n19=>
 alo #[.int .i32 n19] Qax w13 fun a20 w21=>
 ∃s22b s22l s22c w23,(Builtin.append_ #[Qdw,Qdw] Qdw #[.slice s8b s8l s8c,.slice (some a20) 1 1]).run Pg w21=.ok (.slice s22b s22l s22c) w23∧
 ldP a2 w23 fun p24=>
 pt p24 fun a25=>
 ldS a25 w23 fun s26b s26l s26c=>
 ixS s26b s26l n9 9 fun a27=>
 ldI .i32 a27 w23 fun n28=>
 (I6 [.slice s22b s22l s22c,.int .i32 n28] w23∧m7 [.slice s22b s22l s22c,.int .i32 n28] w23<m7 [.slice s8b s8l s8c,.int .i32 n9] w10)) else (
 Calls Pg Qb9 #[.slice s8b s8l s8c] w13 fun e31 w30=>∃f29,e31=.returned f29∧
 R (.tuple #[f29,(.pointer (some a2)),(.int .i32 n1),(.pointer p0)]) w30)
def Qju:An:=.s .L (.s .L (.s (.s .L (.b (.o [4,5] [.one .slc,.one (.int .i32)] (.s (.s .L (.c .L .L)) (.s (.b .L) .L))))) .L))
theorem Qry (p0:Option Addr) (n1:Int) (w:World) (R:Value→World→Prop):Qfm p0 n1 w R=den Pg Eall 74 Qju (preOf (Qyp Tryz.f293)) (fun x e w'=>match x with | .normal=>R (resV e [36,2,1,0]) w' | _=>False) (envOf [(.pointer p0),(.int .i32 n1)]) w:=by kernel_rfl
def Qfl (p0:Option Addr) (n1:Int) (p2:Option Addr) (w:World) (R:Value→World→Prop):Prop:=
 ∃(I3:JP) (m4:JN),I3 [] w∧
 ∀_:Env,∀w5,I3 [] w5→
 pt p2 fun a6=>
 ldP a6 w5 fun p7=>
 Calls Pg Qds #[.pointer p7,.int .i32 n1] w5 fun e10 w9=>∃b8,e10=.returned (.bool b8)∧
 bif (!b8) then (
 pt p2 fun a11=>
 ldP a11 w9 fun p12=>
 pt p12 fun a13=>
 ldS a13 w9 fun s14b s14l s14c=>
 ixS s14b s14l n1 9 fun a15=>
 ldI .i32 a15 w9 fun n16=>
 pt p2 fun a17=>
 ldP a17 w9 fun p18=>
 Calls Pg Qds #[.pointer p18,.int .i32 n16] w9 fun e21 w20=>∃b19,e21=.returned (.bool b19)∧
 bif (!b19) then (
 pt p2 fun a22=>
 ldP a22 w20.drew fun p23=>
 pt p2 fun a24=>
 ldP a24 w20.drew fun p25=>
 Calls Pg Qej #[.pointer p23,.int .i32 n1] w20.drew fun e28 w27=>∃n26,e28=.returned (.int .i64 n26)∧
 w27.cell? a24=some (.pointer p25)∧Calls Pg Qej #[.pointer p25,.int .i32 n16] w27 fun e31 w30=>∃n29,e31=.returned (.int .i64 n29)∧
 bif (n26==n29) then (
 pt p2 fun a32=>
 ldP a32 w30 fun p33=>
 Calls Pg Qa9 #[.pointer p33,.int .i32 n16] w30 fun e35 w34=>e35=.returned (.tuple #[])∧
 pt p2 fun a36=>
 ldP a36 w34 fun p37=>
 Calls Pg Qa9 #[.pointer p37,.int .i32 n1] w34 fun e39 w38=>e39=.returned (.tuple #[])∧
 (I3 [] w38∧m4 [] w38<m4 [] w5)) else (
 pt p2 fun a40=>
 ldP a40 w30 fun p41=>
 Calls Pg Qa9 #[.pointer p41,.int .i32 n1] w30 fun e43 w42=>e43=.returned (.tuple #[])∧
 pt p2 fun a44=>
 ldP a44 w42 fun p45=>
 Calls Pg Qa9 #[.pointer p45,.int .i32 n1] w42 fun e47 w46=>e47=.returned (.tuple #[])∧
 (I3 [] w46∧m4 [] w46<m4 [] w5))) else (
 pt p2 fun a48=>
 ldP a48 w20 fun p49=>
 Calls Pg Qa9 #[.pointer p49,.int .i32 n1] w20 fun e51 w50=>e51=.returned (.tuple #[])∧
 (I3 [] w50∧m4 [] w50<m4 [] w5))) else (
 R (.tuple #[]) w9)
def Qr4:An:=.b (.o [] [] (.s (.s .L (.c .L .L)) (.b (.s .L (.s (.s .L (.c (.s (.r (.tk 0 [2,5,6] [2,5] (.t 1 1 (.tk 3 [5,6] [5] (.t 4 1 (.one 2 (.one 5 (.t 6 1 .fin)))))))) (.c .L .L)) .L)) .L)))))
theorem Qrx (e0:Env) (p0:Option Addr) (n1:Int) (p2:Option Addr) (w:World) (R:Value→World→Prop):Qfl p0 n1 p2 w R=den Pg Eall 74 Qr4 (postOf (Qyp Tryz.f293)) (fun x e w'=>match x with | .normal=>R (resV e []) w' | _=>False) (Env.put (Env.put (Env.put e0 0 (.pointer p0)) 1 (.int .i32 n1)) 2 (.pointer p2)) w:=by kernel_rfl
end Go.Proofs.YtokjfdggpapkbaaGreatDoor
/-
What each function does, as one formula, printed by a program of this session out of the translation; the kernel holds each print against the translation.
Conditions: none.
-/

set_option linter.unusedVariables false
namespace Go.Proofs.YtokjfdggpapkbaaGreatDoor
open Go
set_option maxRecDepth 100000
set_option maxHeartbeats 4000000
abbrev Qyt:HL:=[.j 7 [] [],.o [52] [.one (.int .i64)],.r (.t 0 1 (.k 1 [6,7,8,9,10,11] [6] (.t 2 1 (.t 4 2 (.o 3 (.o 6 (.t 7 5 .e)))))))]
def Qye (n0:Int) (s1b:OA) (s1l s1c:Nat) (s2b:OA) (s2l s2c:Nat) (s3b:OA) (s3l s3c:Nat) (w:World) (R:RV):Prop:=nr Tryz.f12 Qyt [.a [.v (.int .i64 n0),.v (.slice s1b s1l s1c),.v (.slice s2b s2l s2c),.v (.slice s3b s3l s3c)]] w R
theorem Qzv (n0:Int) (s1b:OA) (s1l s1c:Nat) (s2b:OA) (s2l s2c:Nat) (s3b:OA) (s3l s3c:Nat):SH Qyl [.agg #[.int .i64 n0,.slice s1b s1l s1c,.slice s2b s2l s2c,.slice s3b s3l s3c]] (Qye n0 s1b s1l s1c s2b s2l s2c s3b s3l s3c):=cdf Tryz.func12 Qyt
abbrev Qkw:HL:=[.j 5 [5] [.one .ptr],.r (.t 0 4 (.k 4 [5,10,11,13] [5,10,13] (.t 6 3 (.k 9 [10,11,13] [10,13] (.w 5 (.w 10 (.t 11 1 (.o 12 (.o 13 .e))) 12 (.o 10 (.t 11 1 (.o 13 .e)))) 12 (.o 5 (.o 10 (.t 11 1 (.o 13 .e))))))))),.o [37] [.one (.int .i64)],.r (.t 0 1 (.k 1 [7,8,9,10,11,12,13,14,15,16,17,18,19,20,21,22] [15,20] (.t 2 3 (.k 5 [6,7,8,9,10,11,12,13,14,15,16,17,18,19,20,21,22] [6,15,20] (.o 6 (.t 7 3 (.k 10 [16,17,18,19,20,21,22] [20] (.t 11 3 (.k 14 [15,16,17,18,19,20,21,22] [15,20] (.o 15 (.t 16 3 (.k 19 [20,21,22] [20] (.o 20 (.t 21 2 .e))))))))))))))]
def Qgb (p0:OA) (w:World) (R:RV):Prop:=nr Tryz.f16 Qkw [.v (.pointer p0)] w R
theorem Qh2 (p0:OA):SH Qgh [.pointer p0] (Qgb p0):=cdr Tryz.func16 Qkw
def Qg6 (p0:OA) (w:World) (R:RV):Prop:=nr Tryz.f17 [] [.v (.pointer p0)] w R
theorem Qiv (p0:OA):SH Qho [.pointer p0] (Qg6 p0):=cdf Tryz.func17 []
def Qsx (n0:Int) (w:World) (R:RV):Prop:=nr Tryz.f40 [] [.v (.int .i64 n0)] w R
theorem Qsl (n0:Int):SH Qs5 [.int .i64 n0] (Qsx n0):=cdf Tryz.func40 []
def Qga (p0:OA) (w:World) (R:RV):Prop:=nr Tryz.f66 [] [.v (.pointer p0)] w R
theorem Qh1 (p0:OA):SH Qgg [.pointer p0] (Qga p0):=cdf Tryz.func66 []
end Go.Proofs.YtokjfdggpapkbaaGreatDoor
/-
What each function does, as one formula, printed by a program of this session out of the translation; the kernel holds each print against the translation.
Conditions: none.
-/

set_option linter.unusedVariables false
namespace Go.Proofs.YtokjfdggpapkbaaGreatDoor
open Go
set_option maxRecDepth 100000
set_option maxHeartbeats 4000000
end Go.Proofs.YtokjfdggpapkbaaGreatDoor
/-
What each function does, as one formula, printed by a program of this session out of the translation; the kernel holds each print against the translation.
Conditions: none.
-/

set_option linter.unusedVariables false
namespace Go.Proofs.YtokjfdggpapkbaaGreatDoor
open Go
set_option maxRecDepth 100000
set_option maxHeartbeats 4000000
def Qm4 (n0:Int) (s1b:OA) (s1l s1c:Nat) (s2b:OA) (s2l s2c:Nat) (s3b:OA) (s3l s3c:Nat) (w:World) (R:RV):Prop:=nr Tryz.f57 [] [.a [.v (.int .i64 n0),.v (.slice s1b s1l s1c),.v (.slice s2b s2l s2c),.v (.slice s3b s3l s3c)]] w R
theorem Qnu (n0:Int) (s1b:OA) (s1l s1c:Nat) (s2b:OA) (s2l s2c:Nat) (s3b:OA) (s3l s3c:Nat):SH Qnb [.agg #[.int .i64 n0,.slice s1b s1l s1c,.slice s2b s2l s2c,.slice s3b s3l s3c]] (Qm4 n0 s1b s1l s1c s2b s2l s2c s3b s3l s3c):=cdf Tryz.func57 []
def Qsb (n0:Int) (s1b:OA) (s1l s1c:Nat) (s2b:OA) (s2l s2c:Nat) (s3b:OA) (s3l s3c:Nat) (w:World) (R:RV):Prop:=nr Tryz.f70 [] [.a [.v (.int .i64 n0),.v (.slice s1b s1l s1c),.v (.slice s2b s2l s2c),.v (.slice s3b s3l s3c)]] w R
theorem Qvl (n0:Int) (s1b:OA) (s1l s1c:Nat) (s2b:OA) (s2l s2c:Nat) (s3b:OA) (s3l s3c:Nat):SH Qsh [.agg #[.int .i64 n0,.slice s1b s1l s1c,.slice s2b s2l s2c,.slice s3b s3l s3c]] (Qsb n0 s1b s1l s1c s2b s2l s2c s3b s3l s3c):=cdf Tryz.func70 []
def Qpw (n0:Int) (s1b:OA) (s1l s1c:Nat) (s2b:OA) (s2l s2c:Nat) (s3b:OA) (s3l s3c:Nat) (w:World) (R:RV):Prop:=nr Tryz.f71 [] [.a [.v (.int .i64 n0),.v (.slice s1b s1l s1c),.v (.slice s2b s2l s2c),.v (.slice s3b s3l s3c)]] w R
theorem Qul (n0:Int) (s1b:OA) (s1l s1c:Nat) (s2b:OA) (s2l s2c:Nat) (s3b:OA) (s3l s3c:Nat):SH Qqe [.agg #[.int .i64 n0,.slice s1b s1l s1c,.slice s2b s2l s2c,.slice s3b s3l s3c]] (Qpw n0 s1b s1l s1c s2b s2l s2c s3b s3l s3c):=cdf Tryz.func71 []
abbrev Qjs:HL:=[.j 5 [] [],.o [45] [.one (.int .i64)],.u 3,.r (.k 0 [5,6,7,8,9,10] [5] (.t 1 3 (.k 4 [5,6,7,8,9,10] [5] (.o 5 (.t 6 5 .e)))))]
def Qfk (n0:Int) (s1b:OA) (s1l s1c:Nat) (s2b:OA) (s2l s2c:Nat) (s3b:OA) (s3l s3c:Nat) (w:World) (R:RV):Prop:=nr Tryz.f136 Qjs [.a [.v (.int .i64 n0),.v (.slice s1b s1l s1c),.v (.slice s2b s2l s2c),.v (.slice s3b s3l s3c)]] w R
theorem Qhv (n0:Int) (s1b:OA) (s1l s1c:Nat) (s2b:OA) (s2l s2c:Nat) (s3b:OA) (s3l s3c:Nat):SH Qfp [.agg #[.int .i64 n0,.slice s1b s1l s1c,.slice s2b s2l s2c,.slice s3b s3l s3c]] (Qfk n0 s1b s1l s1c s2b s2l s2c s3b s3l s3c):=cdf Tryz.func136 Qjs
abbrev Qiy:HL:=[.o [22] [.one (.int .i64)],.j 5 [] [],.o [9] [.one (.int .i64)],.r (.k 0 [7,9] [7] (.t 1 5 (.k 6 [7,9] [7] (.t 8 1 (.o 7 (.t 9 1 .e))))))]
def Qem (n0:Int) (s1b:OA) (s1l s1c:Nat) (s2b:OA) (s2l s2c:Nat) (s3b:OA) (s3l s3c:Nat) (w:World) (R:RV):Prop:=nr Tryz.f137 Qiy [.a [.v (.int .i64 n0),.v (.slice s1b s1l s1c),.v (.slice s2b s2l s2c),.v (.slice s3b s3l s3c)]] w R
theorem Qgs (n0:Int) (s1b:OA) (s1l s1c:Nat) (s2b:OA) (s2l s2c:Nat) (s3b:OA) (s3l s3c:Nat):SH Qet [.agg #[.int .i64 n0,.slice s1b s1l s1c,.slice s2b s2l s2c,.slice s3b s3l s3c]] (Qem n0 s1b s1l s1c s2b s2l s2c s3b s3l s3c):=cdf Tryz.func137 Qiy
abbrev Qkv:HL:=[.o [7,29] [.one .slc,.one (.int .i64)]]
def Qf9 (n0:Int) (s1b:OA) (s1l s1c:Nat) (s2b:OA) (s2l s2c:Nat) (s3b:OA) (s3l s3c:Nat) (s4b:OA) (s4l s4c:Nat) (w:World) (R:RV):Prop:=nr Tryz.f138 Qkv [.a [.v (.int .i64 n0),.v (.slice s1b s1l s1c),.v (.slice s2b s2l s2c),.v (.slice s3b s3l s3c)],.v (.slice s4b s4l s4c)] w R
theorem Qh0 (n0:Int) (s1b:OA) (s1l s1c:Nat) (s2b:OA) (s2l s2c:Nat) (s3b:OA) (s3l s3c:Nat) (s4b:OA) (s4l s4c:Nat):SH Qgf [.agg #[.int .i64 n0,.slice s1b s1l s1c,.slice s2b s2l s2c,.slice s3b s3l s3c],.slice s4b s4l s4c] (Qf9 n0 s1b s1l s1c s2b s2l s2c s3b s3l s3c s4b s4l s4c):=cdf Tryz.func138 Qkv
abbrev Qpb:HL:=[.o [3,21] [.one .slc,.one (.int .i64)],.o [3,39] [.one .slc,.one (.int .i64)]]
def Qos (n0:Int) (s1b:OA) (s1l s1c:Nat) (s2b:OA) (s2l s2c:Nat) (s3b:OA) (s3l s3c:Nat) (w:World) (R:RV):Prop:=nr Tryz.f149 Qpb [.a [.v (.int .i64 n0),.v (.slice s1b s1l s1c),.v (.slice s2b s2l s2c),.v (.slice s3b s3l s3c)]] w R
theorem Qtc (n0:Int) (s1b:OA) (s1l s1c:Nat) (s2b:OA) (s2l s2c:Nat) (s3b:OA) (s3l s3c:Nat):SH Qo1 [.agg #[.int .i64 n0,.slice s1b s1l s1c,.slice s2b s2l s2c,.slice s3b s3l s3c]] (Qos n0 s1b s1l s1c s2b s2l s2c s3b s3l s3c):=cdf Tryz.func149 Qpb
def Qtv (s0b:OA) (s0l s0c:Nat) (n1:Int) (w:World) (R:RV):Prop:=nr Tryz.f224 [] [.v (.slice s0b s0l s0c),.v (.int .u32 n1)] w R
theorem Qwe (s0b:OA) (s0l s0c:Nat) (n1:Int):SH Qt8 [.slice s0b s0l s0c,.int .u32 n1] (Qtv s0b s0l s0c n1):=cdf Tryz.func224 []
def Qj7 (n0:Int) (s1b:OA) (s1l s1c:Nat) (s2b:OA) (s2l s2c:Nat) (s3b:OA) (s3l s3c:Nat) (n4:Int) (w:World) (R:RV):Prop:=nr Tryz.f225 [] [.a [.v (.int .i64 n0),.v (.slice s1b s1l s1c),.v (.slice s2b s2l s2c),.v (.slice s3b s3l s3c)],.v (.int .u32 n4)] w R
theorem Qpi (n0:Int) (s1b:OA) (s1l s1c:Nat) (s2b:OA) (s2l s2c:Nat) (s3b:OA) (s3l s3c:Nat) (n4:Int):SH Qkh [.agg #[.int .i64 n0,.slice s1b s1l s1c,.slice s2b s2l s2c,.slice s3b s3l s3c],.int .u32 n4] (Qj7 n0 s1b s1l s1c s2b s2l s2c s3b s3l s3c n4):=cdf Tryz.func225 []
def Qj6 (n0:Int) (s1b:OA) (s1l s1c:Nat) (s2b:OA) (s2l s2c:Nat) (s3b:OA) (s3l s3c:Nat) (n4:Int) (w:World) (R:RV):Prop:=nr Tryz.f226 [] [.a [.v (.int .i64 n0),.v (.slice s1b s1l s1c),.v (.slice s2b s2l s2c),.v (.slice s3b s3l s3c)],.v (.int .i64 n4)] w R
theorem Qph (n0:Int) (s1b:OA) (s1l s1c:Nat) (s2b:OA) (s2l s2c:Nat) (s3b:OA) (s3l s3c:Nat) (n4:Int):SH Qkg [.agg #[.int .i64 n0,.slice s1b s1l s1c,.slice s2b s2l s2c,.slice s3b s3l s3c],.int .i64 n4] (Qj6 n0 s1b s1l s1c s2b s2l s2c s3b s3l s3c n4):=cdf Tryz.func226 []
abbrev Qrd:HL:=[.o [0,9] [.one .slc,.one (.int .i64)]]
def Qpv (s0b:OA) (s0l s0c:Nat) (s1b:OA) (s1l s1c:Nat) (w:World) (R:RV):Prop:=nr Tryz.f234 Qrd [.v (.slice s0b s0l s0c),.v (.slice s1b s1l s1c)] w R
theorem Quk (s0b:OA) (s0l s0c:Nat) (s1b:OA) (s1l s1c:Nat):SH Qqd [.slice s0b s0l s0c,.slice s1b s1l s1c] (Qpv s0b s0l s0c s1b s1l s1c):=cdf Tryz.func234 Qrd
end Go.Proofs.YtokjfdggpapkbaaGreatDoor
/-
What each function does, as one formula, printed by a program of this session out of the translation; the kernel holds each print against the translation.
Conditions: none.
-/

set_option linter.unusedVariables false
namespace Go.Proofs.YtokjfdggpapkbaaGreatDoor
open Go
set_option maxRecDepth 100000
set_option maxHeartbeats 4000000
end Go.Proofs.YtokjfdggpapkbaaGreatDoor
/-
What each function does, as one formula, printed by a program of this session out of the translation; the kernel holds each print against the translation.
Conditions: none.
-/

set_option linter.unusedVariables false
namespace Go.Proofs.YtokjfdggpapkbaaGreatDoor
open Go
set_option maxRecDepth 100000
set_option maxHeartbeats 4000000
def Qld (n0:Int) (s1b:OA) (s1l s1c:Nat) (s2b:OA) (s2l s2c:Nat) (s3b:OA) (s3l s3c:Nat) (w:World) (R:RV):Prop:=nr Tryz.f10 [] [.a [.v (.int .i64 n0),.v (.slice s1b s1l s1c),.v (.slice s2b s2l s2c),.v (.slice s3b s3l s3c)]] w R
theorem Qqw (n0:Int) (s1b:OA) (s1l s1c:Nat) (s2b:OA) (s2l s2c:Nat) (s3b:OA) (s3l s3c:Nat):SH Ql6 [.agg #[.int .i64 n0,.slice s1b s1l s1c,.slice s2b s2l s2c,.slice s3b s3l s3c]] (Qld n0 s1b s1l s1c s2b s2l s2c s3b s3l s3c):=cdf Tryz.func10 []
def Qlc (w:World) (R:RV):Prop:=nr Tryz.f11 [] [] w R
theorem Qqv:SH Qhm [] (Qlc):=cdf Tryz.func11 []
abbrev Qhw:HL:=[.o [3,4] [.one .slc,.one (.int .i64)],.r (.t 0 1 (.k 1 [9,10] [10] (.t 2 1 (.k 3 [4,7,9,10] [4,7,10] (.t 5 1 (.k 6 [7,9,10] [7,10] (.t 8 1 (.o 4 (.o 7 (.t 9 1 (.o 10 .e)))))))))))]
def Qg5 (n0:Int) (s1b:OA) (s1l s1c:Nat) (s2b:OA) (s2l s2c:Nat) (s3b:OA) (s3l s3c:Nat) (w:World) (R:RV):Prop:=nr Tryz.f13 Qhw [.a [.v (.int .i64 n0),.v (.slice s1b s1l s1c),.v (.slice s2b s2l s2c),.v (.slice s3b s3l s3c)]] w R
theorem Qk1 (n0:Int) (s1b:OA) (s1l s1c:Nat) (s2b:OA) (s2l s2c:Nat) (s3b:OA) (s3l s3c:Nat):SH Qhn [.agg #[.int .i64 n0,.slice s1b s1l s1c,.slice s2b s2l s2c,.slice s3b s3l s3c]] (Qg5 n0 s1b s1l s1c s2b s2l s2c s3b s3l s3c):=cdr Tryz.func13 Qhw
def Qng (v0:Value) (w:World) (R:RV):Prop:=nr Tryz.f15 [] [.o v0] w R
theorem Qr1 (v0:Value):SH Qnp [v0] (Qng v0):=cdf Tryz.func15 []
abbrev Qgu:HL:=[.o [3,4] [.one .slc,.one (.int .i64)],.r (.t 0 5 (.k 5 [11,12,13,14] [12,13] (.t 6 4 (.k 10 [11,12,13,14] [12,13] (.t 11 1 (.o 12 (.o 13 (.t 14 1 .e))))))))]
def Qgm (s0b:OA) (s0l s0c:Nat) (w:World) (R:RV):Prop:=nr Tryz.f60 Qgu [.v (.slice s0b s0l s0c)] w R
theorem Qko (s0b:OA) (s0l s0c:Nat):SH Qgp [.slice s0b s0l s0c] (Qgm s0b s0l s0c):=cdf Tryz.func60 Qgu
end Go.Proofs.YtokjfdggpapkbaaGreatDoor
/-
What a function does, as one formula, printed by a program of this session out of the translation; the kernel holds the print against the translation.
Conditions: none.
-/

set_option linter.unusedVariables false
namespace Go.Proofs.YtokjfdggpapkbaaGreatDoor
open Go
set_option maxRecDepth 100000
set_option maxHeartbeats 4000000
abbrev Qgv:HL:=[.j 7 [2] [.one .bool],.j 0 [] [],.o [5,7] [.one (.int .i64),.one (.int .i64)],.r (.t 0 3 (.k 3 [13,14,15,16,17,18] [13] (.t 4 1 (.k 5 [7,8,9,12,13,14,15,16,17,18] [13] (.t 6 3 (.k 9 [12,13,14,15,16,17,18] [13] (.t 10 3 (.o 13 (.t 14 5 .e))))))))),.o [6,11] [.one (.int .i64),.one (.int .i64)],.r (.t 0 3 (.k 3 [13,14,15,16,17,18] [13] (.t 4 1 (.k 5 [7,8,9,12,13,14,15,16,17,18] [13] (.t 6 3 (.k 9 [12,13,14,15,16,17,18] [13] (.t 10 3 (.o 13 (.t 14 5 .e)))))))))]
def Qgn (n0:Int) (s1b:OA) (s1l s1c:Nat) (s2b:OA) (s2l s2c:Nat) (s3b:OA) (s3l s3c:Nat) (w:World) (R:RV):Prop:=nr Tryz.f4 Qgv [.a [.v (.int .i64 n0),.v (.slice s1b s1l s1c),.v (.slice s2b s2l s2c),.v (.slice s3b s3l s3c)]] w R
theorem Qkp (n0:Int) (s1b:OA) (s1l s1c:Nat) (s2b:OA) (s2l s2c:Nat) (s3b:OA) (s3l s3c:Nat):SH Qgq [.agg #[.int .i64 n0,.slice s1b s1l s1c,.slice s2b s2l s2c,.slice s3b s3l s3c]] (Qgn n0 s1b s1l s1c s2b s2l s2c s3b s3l s3c):=cdf Tryz.func4 Qgv
end Go.Proofs.YtokjfdggpapkbaaGreatDoor
/-
What each function does, as one formula, printed by a program of this session out of the translation; the kernel holds each print against the translation.
Conditions: none.
-/

set_option linter.unusedVariables false
namespace Go.Proofs.YtokjfdggpapkbaaGreatDoor
open Go
set_option maxRecDepth 100000
set_option maxHeartbeats 4000000
end Go.Proofs.YtokjfdggpapkbaaGreatDoor
/-
What each function does, as one formula, printed by a program of this session out of the translation; the kernel holds each print against the translation.
Conditions: none.
-/

set_option linter.unusedVariables false
namespace Go.Proofs.YtokjfdggpapkbaaGreatDoor
open Go
set_option maxRecDepth 100000
set_option maxHeartbeats 4000000
end Go.Proofs.YtokjfdggpapkbaaGreatDoor
/-
What each function does, as one formula, printed by a program of this session out of the translation; the kernel holds each print against the translation.
Conditions: none.
-/

set_option linter.unusedVariables false
namespace Go.Proofs.YtokjfdggpapkbaaGreatDoor
open Go
set_option maxRecDepth 100000
set_option maxHeartbeats 4000000
def Qe2 (p0:OA) (n1:Int) (w:World) (R:RV):Prop:=nr Tryz.f207 [] [.v (.pointer p0),.v (.int .i64 n1)] w R
theorem Qft (p0:OA) (n1:Int):SH Qfb [.pointer p0,.int .i64 n1] (Qe2 p0 n1):=cdf Tryz.func207 []
def Qsw (n0:Int) (w:World) (R:RV):Prop:=nr Tryz.f239 [] [.v (.int .i64 n0)] w R
theorem Qsk (n0:Int):SH Qs4 [.int .i64 n0] (Qsw n0):=cdf Tryz.func239 []
def Qc7 (p0:OA) (n1 n2:Int) (w:World) (R:RV):Prop:=nr Tryz.f245 [] [.v (.pointer p0),.v (.int .i64 n1),.v (.int .i64 n2)] w R
theorem Qdg (p0:OA) (n1 n2:Int):SH Qdc [.pointer p0,.int .i64 n1,.int .i64 n2] (Qc7 p0 n1 n2):=cdf Tryz.func245 []
def Qg4 (p0:OA) (n1:Int) (w:World) (R:RV):Prop:=nr Tryz.f261 [] [.v (.pointer p0),.v (.int .i64 n1)] w R
theorem Qiu (p0:OA) (n1:Int):SH Qhl [.pointer p0,.int .i64 n1] (Qg4 p0 n1):=cdf Tryz.func261 []
def Qcq (p0:OA) (n1 n2:Int) (w:World) (R:RV):Prop:=nr Tryz.f262 [] [.v (.pointer p0),.v (.int .i64 n1),.v (.int .i64 n2)] w R
theorem Qcz (p0:OA) (n1 n2:Int):SH Qcu [.pointer p0,.int .i64 n1,.int .i64 n2] (Qcq p0 n1 n2):=cdf Tryz.func262 []
def Qg3 (p0:OA) (w:World) (R:RV):Prop:=nr Tryz.f281 [] [.v (.pointer p0)] w R
theorem Qit (p0:OA):SH Qhk [.pointer p0] (Qg3 p0):=cdf Tryz.func281 []
def Qdz (p0:OA) (n1:Int) (w:World) (R:RV):Prop:=nr Tryz.f310 [] [.v (.pointer p0),.v (.int .i64 n1)] w R
theorem Qd9 (p0:OA) (n1:Int):SH Qd1 [.pointer p0,.int .i64 n1] (Qdz p0 n1):=cdf Tryz.func310 []
def Qed (p0:OA) (n1:Int) (w:World) (R:RV):Prop:=nr Tryz.f311 [] [.v (.pointer p0),.v (.int .i64 n1)] w R
theorem Qey (p0:OA) (n1:Int):SH Qei [.pointer p0,.int .i64 n1] (Qed p0 n1):=cdf Tryz.func311 []
abbrev Qmt:HL:=[.r (.t 0 3 (.k 3 [12,13,14,15,16] [12] (.t 4 8 (.o 12 (.t 13 4 .e)))))]
def Qec (p0:OA) (n1 n2:Int) (w:World) (R:RV):Prop:=nr Tryz.f312 Qmt [.v (.pointer p0),.v (.int .i64 n1),.v (.int .i64 n2)] w R
theorem Qex (p0:OA) (n1 n2:Int):SH Qeh [.pointer p0,.int .i64 n1,.int .i64 n2] (Qec p0 n1 n2):=cdf Tryz.func312 Qmt
end Go.Proofs.YtokjfdggpapkbaaGreatDoor
/-
What each function does, as one formula, printed by a program of this session out of the translation; the kernel holds each print against the translation.
Conditions: none.
-/

set_option linter.unusedVariables false
namespace Go.Proofs.YtokjfdggpapkbaaGreatDoor
open Go
set_option maxRecDepth 100000
set_option maxHeartbeats 4000000
def Qa5 (s0b:OA) (s0l s0c:Nat) (f1:Value) (w:World) (R:RV):Prop:=nr Tryz.f139 [] [.v (.slice s0b s0l s0c),.o f1] w R
theorem Qbm (s0b:OA) (s0l s0c:Nat) (f1:Value):SH Qa6 [.slice s0b s0l s0c,f1] (Qa5 s0b s0l s0c f1):=cdf Tryz.func139 []
def Qbg (s0b:OA) (s0l s0c:Nat) (w:World) (R:RV):Prop:=nr Tryz.f141 [] [.v (.slice s0b s0l s0c)] w R
theorem Qb0 (s0b:OA) (s0l s0c:Nat):SH Qbh [.slice s0b s0l s0c] (Qbg s0b s0l s0c):=cdf Tryz.func141 []
abbrev Qby:HL:=[.o [8] [.one (.int .i64)]]
def Qbc (s0b:OA) (s0l s0c:Nat) (f1:Value) (w:World) (R:RV):Prop:=nr Tryz.f227 Qby [.v (.slice s0b s0l s0c),.o f1] w R
theorem Qbp (s0b:OA) (s0l s0c:Nat) (f1:Value):SH Qd0 [.slice s0b s0l s0c,f1] (Qbc s0b s0l s0c f1):=cdf Tryz.func227 Qby
def Qb7 (s0b:OA) (s0l s0c:Nat) (f1:Value) (w:World) (R:RV):Prop:=nr Tryz.f304 [] [.v (.slice s0b s0l s0c),.o f1] w R
theorem Qdd (s0b:OA) (s0l s0c:Nat) (f1:Value):SH Qb8 [.slice s0b s0l s0c,f1] (Qb7 s0b s0l s0c f1):=cdf Tryz.func304 []
def Qbz (s0b:OA) (s0l s0c:Nat) (f1:Value) (w:World) (R:RV):Prop:=nr Tryz.f315 [] [.v (.slice s0b s0l s0c),.o f1] w R
theorem Qdu (s0b:OA) (s0l s0c:Nat) (f1:Value):SH Qd4 [.slice s0b s0l s0c,f1] (Qbz s0b s0l s0c f1):=cdf Tryz.func315 []
def Qdx (s0b:OA) (s0l s0c:Nat) (w:World) (R:RV):Prop:=nr Tryz.f340 [] [.v (.slice s0b s0l s0c)] w R
theorem Qhu (s0b:OA) (s0l s0c:Nat):SH Qb9 [.slice s0b s0l s0c] (Qdx s0b s0l s0c):=cdf Tryz.func340 []
abbrev Qez:HL:=[.o [8] [.one (.int .i64)]]
def Qcp (s0b:OA) (s0l s0c:Nat) (f1:Value) (w:World) (R:RV):Prop:=nr Tryz.f348 Qez [.v (.slice s0b s0l s0c),.o f1] w R
theorem Qdy (s0b:OA) (s0l s0c:Nat) (f1:Value):SH Qkf [.slice s0b s0l s0c,f1] (Qcp s0b s0l s0c f1):=cdf Tryz.func348 Qez
abbrev Qca:HL:=[.o [8] [.one (.int .i64)]]
def Qb6 (s0b:OA) (s0l s0c:Nat) (f1:Value) (w:World) (R:RV):Prop:=nr Tryz.f357 Qca [.v (.slice s0b s0l s0c),.o f1] w R
theorem Qd5 (s0b:OA) (s0l s0c:Nat) (f1:Value):SH Qes [.slice s0b s0l s0c,f1] (Qb6 s0b s0l s0c f1):=cdf Tryz.func357 Qca
def Qeb (p0:OA) (n1:Int) (w:World) (R:RV):Prop:=nr Tryz.f282 [] [.v (.pointer p0),.v (.int .i64 n1)] w R
theorem Qew (p0:OA) (n1:Int):SH Qeg [.pointer p0,.int .i64 n1] (Qeb p0 n1):=cdf Tryz.func282 []
abbrev Qys:HL:=[.j 1 [] [],.o [22] [.one (.int .i64)]]
def Qu0 (n0:Int) (w:World) (R:RV):Prop:=nr Tryz.f292 Qys [.v (.int .i64 n0)] w R
theorem Qui (n0:Int):SH Qu9 [.int .i64 n0] (Qu0 n0):=cdf Tryz.func292 Qys
def Qc5 (p0:OA) (n1 n2:Int) (w:World) (R:RV):Prop:=nr Tryz.f294 [] [.v (.pointer p0),.v (.int .i64 n1),.v (.int .i64 n2)] w R
theorem Qde (p0:OA) (n1 n2:Int):SH Qdb [.pointer p0,.int .i64 n1,.int .i64 n2] (Qc5 p0 n1 n2):=cdf Tryz.func294 []
def Qc6 (p0:OA) (n1 n2:Int) (w:World) (R:RV):Prop:=nr Tryz.f313 [] [.v (.pointer p0),.v (.int .i64 n1),.v (.int .i64 n2)] w R
theorem Qdf (p0:OA) (n1 n2:Int):SH Qcc [.pointer p0,.int .i64 n1,.int .i64 n2] (Qc6 p0 n1 n2):=cdf Tryz.func313 []
def Qe1 (p0:OA) (n1:Int) (w:World) (R:RV):Prop:=nr Tryz.f328 [] [.v (.pointer p0),.v (.int .i64 n1)] w R
theorem Qfs (p0:OA) (n1:Int):SH Qfa [.pointer p0,.int .i64 n1] (Qe1 p0 n1):=cdf Tryz.func328 []
abbrev Qku:HL:=[.o [12] [.one (.int .i64)]]
def Qf8 (p0 s1b:OA) (s1l s1c:Nat) (w:World) (R:RV):Prop:=nr Tryz.f344 Qku [.v (.pointer p0),.v (.slice s1b s1l s1c)] w R
theorem Qhz (p0 s1b:OA) (s1l s1c:Nat):SH Qct [.pointer p0,.slice s1b s1l s1c] (Qf8 p0 s1b s1l s1c):=cdf Tryz.func344 Qku
def Qg1 (p0:OA) (n1 n2:Int) (w:World) (R:RV):Prop:=nr Tryz.f345 [] [.v (.pointer p0),.v (.int .i32 n1),.v (.int .i32 n2)] w R
theorem Qir (p0:OA) (n1 n2:Int):SH Qhh [.pointer p0,.int .i32 n1,.int .i32 n2] (Qg1 p0 n1 n2):=cdf Tryz.func345 []
abbrev Qny:HL:=[.r (.t 0 3 (.k 3 [10,11,12,13,14,15] [12,15] (.t 4 4 (.k 8 [10,11,12,13,14,15] [12,15] (.t 9 3 (.o 12 (.t 13 2 (.o 15 .e))))))))]
def Qdp (p0:OA) (n1:Int) (w:World) (R:RV):Prop:=nr Tryz.f346 Qny [.v (.pointer p0),.v (.int .i64 n1)] w R
theorem Qdm (p0:OA) (n1:Int):SH Qcl [.pointer p0,.int .i64 n1] (Qdp p0 n1):=cdf Tryz.func346 Qny
abbrev Qpa:HL:=[.r (.t 0 12 .e)]
def Qf1 (p0:OA) (n1 n2:Int) (w:World) (R:RV):Prop:=nr Tryz.f351 Qpa [.v (.pointer p0),.v (.int .i64 n1),.v (.int .i64 n2)] w R
theorem Qgj (p0:OA) (n1 n2:Int):SH Qf3 [.pointer p0,.int .i64 n1,.int .i64 n2] (Qf1 p0 n1 n2):=cdf Tryz.func351 Qpa
abbrev Qmr:HL:=[.r (.t 0 14 .e)]
def Qg2 (p0:OA) (n1:Int) (w:World) (R:RV):Prop:=nr Tryz.f352 Qmr [.v (.pointer p0),.v (.int .i64 n1)] w R
theorem Qis (p0:OA) (n1:Int):SH Qhj [.pointer p0,.int .i64 n1] (Qg2 p0 n1):=cdf Tryz.func352 Qmr
abbrev Qnx:HL:=[.o [1] [.one (.int .i32)]]
def Qnf (p0:OA) (n1:Int) (b2:Bool) (w:World) (R:RV):Prop:=nr Tryz.f353 Qnx [.v (.pointer p0),.v (.int .i32 n1),.v (.bool b2)] w R
theorem Qr0 (p0:OA) (n1:Int) (b2:Bool):SH Qno [.pointer p0,.int .i32 n1,.bool b2] (Qnf p0 n1 b2):=cdf Tryz.func353 Qnx
abbrev Qmp:HL:=[.o [4,5] [.one .slc,.one (.int .i32)],.o [6] [.one (.int .i64)],.o [] [],.r (.t 0 21 .e)]
def Qk8 (p0:OA) (n1:Int) (w:World) (R:RV):Prop:=nr Tryz.f354 Qmp [.v (.pointer p0),.v (.int .i32 n1)] w R
theorem Qqr (p0:OA) (n1:Int):SH Qef [.pointer p0,.int .i32 n1] (Qk8 p0 n1):=cdf Tryz.func354 Qmp
def Qk9 (p0:OA) (n1 n2:Int) (b3:Bool) (w:World) (R:RV):Prop:=nr Tryz.f355 [] [.v (.pointer p0),.v (.int .i32 n1),.v (.int .i32 n2),.v (.bool b3)] w R
theorem Qqs (p0:OA) (n1 n2:Int) (b3:Bool):SH Ql4 [.pointer p0,.int .i32 n1,.int .i32 n2,.bool b3] (Qk9 p0 n1 n2 b3):=cdf Tryz.func355 []
abbrev Qmo:HL:=[.r (.t 0 7 (.k 7 [16,17,18,19,20,21,22,23,24,25,26,27] [18,21,24,27] (.t 8 3 (.k 11 [16,17,18,19,20,21,22,23,24,25,26,27] [18,21,24,27] (.t 12 3 (.k 15 [16,17,18,19,20,21,22,23,24,25,26,27] [18,21,24,27] (.t 16 2 (.o 18 (.t 19 2 (.o 21 (.t 22 2 (.o 24 (.t 25 2 (.o 27 .e)))))))))))))),.r (.t 0 10 .e),.u 3,.r (.t 0 3 (.k 3 [8,9,10,11] [11] (.t 4 3 (.k 7 [8,9,10,11] [11] (.t 8 3 (.o 11 .e)))))),.r (.t 0 3 (.k 3 [8,9,10,11] [11] (.t 4 3 (.k 7 [8,9,10,11] [11] (.t 8 3 (.o 11 .e)))))),.r (.t 0 5 (.k 5 [10,20,21,22,23,24,25] [22,25] (.t 6 3 (.k 9 [10,20,21,22,23,24,25] [22,25] (.t 10 4 (.k 14 [19,20,21,22,23,24,25] [22,25] (.t 15 3 (.k 18 [19,20,21,22,23,24,25] [22,25] (.t 19 3 (.o 22 (.t 23 2 (.o 25 .e))))))))))))]
def Qk7 (p0:OA) (n1:Int) (w:World) (R:RV):Prop:=nr Tryz.f356 Qmo [.v (.pointer p0),.v (.int .i32 n1)] w R
theorem Qqq (p0:OA) (n1:Int):SH Ql3 [.pointer p0,.int .i32 n1] (Qk7 p0 n1):=cdf Tryz.func356 Qmo
abbrev Qmn:HL:=[.r (.t 0 5 (.k 5 [10,11,12,13,14,15] [12,15] (.t 6 3 (.k 9 [10,11,12,13,14,15] [12,15] (.t 10 2 (.o 12 (.t 13 2 (.o 15 .e)))))))),.r (.t 0 10 .e),.u 3,.r (.t 0 3 (.k 3 [14,15,16] [16] (.t 4 4 (.k 8 [10,11,12,13,14,15,16] [16] (.t 9 3 (.k 12 [13,14,15,16] [16] (.t 13 3 (.o 16 .e))))))))]
def Qk6 (p0:OA) (n1:Int) (w:World) (R:RV):Prop:=nr Tryz.f362 Qmn [.v (.pointer p0),.v (.int .i32 n1)] w R
theorem Qqp (p0:OA) (n1:Int):SH Ql2 [.pointer p0,.int .i32 n1] (Qk6 p0 n1):=cdf Tryz.func362 Qmn
abbrev Qmq:HL:=[.o [1] [.one (.int .i32)]]
def Qla (p0:OA) (n1:Int) (f2:Value) (w:World) (R:RV):Prop:=nr Tryz.f373 Qmq [.v (.pointer p0),.v (.int .i32 n1),.o f2] w R
theorem Qqt (p0:OA) (n1:Int) (f2:Value):SH Qhi [.pointer p0,.int .i32 n1,f2] (Qla p0 n1 f2):=cdf Tryz.func373 Qmq
abbrev Qms:HL:=[.r (.t 0 11 .e)]
def Qlb (n0 n1 n2:Int) (b3:Bool) (n4 n5 n6 n7 n8:Int) (q9 q10:OA) (w:World) (R:RV):Prop:=nr Tryz.f374 Qms [.a [.v (.int .i32 n0),.v (.int .i32 n1),.v (.int .i32 n2),.v (.bool b3),.v (.int .i32 n4),.v (.int .i64 n5),.v (.int .i64 n6),.v (.int .i64 n7),.v (.int .i64 n8)],.v (.pointer q9),.v (.pointer q10)] w R
theorem Qqu (n0 n1 n2:Int) (b3:Bool) (n4 n5 n6 n7 n8:Int) (q9 q10:OA):SH Ql5 [.agg #[.int .i32 n0,.int .i32 n1,.int .i32 n2,.bool b3,.int .i32 n4,.int .i64 n5,.int .i64 n6,.int .i64 n7,.int .i64 n8],.pointer q9,.pointer q10] (Qlb n0 n1 n2 b3 n4 n5 n6 n7 n8 q9 q10):=cdf Tryz.func374 Qms
def Qja (p0:OA) (n1:Int) (w:World) (R:RV):Prop:=nr Tryz.f375 [] [.v (.pointer p0),.v (.int .i32 n1)] w R
theorem Qoi (p0:OA) (n1:Int):SH Qjj [.pointer p0,.int .i32 n1] (Qja p0 n1):=cdf Tryz.func375 []
end Go.Proofs.YtokjfdggpapkbaaGreatDoor
/-
What each function does, as one formula, printed by a program of this session out of the translation; the kernel holds each print against the translation.
Conditions: none.
-/

set_option linter.unusedVariables false
namespace Go.Proofs.YtokjfdggpapkbaaGreatDoor
open Go
set_option maxRecDepth 100000
set_option maxHeartbeats 4000000
def Qi9 (p0:OA) (n1:Int) (w:World) (R:RV):Prop:=nr Tryz.f142 [] [.v (.pointer p0),.v (.int .i64 n1)] w R
theorem Qoh (p0:OA) (n1:Int):SH Qji [.pointer p0,.int .i64 n1] (Qi9 p0 n1):=cdf Tryz.func142 []
abbrev Qv8:HL:=[.j 1 [] [],.o [5] [.one (.int .i64)],.j 2 [] []]
def Qk5 (n0:Int) (w:World) (R:RV):Prop:=nr Tryz.f203 Qv8 [.v (.int .i64 n0)] w R
theorem Qkn (n0:Int):SH Ql1 [.int .i64 n0] (Qk5 n0):=cdf Tryz.func203 Qv8
def Qi8 (p0:OA) (n1:Int) (w:World) (R:RV):Prop:=nr Tryz.f228 [] [.v (.pointer p0),.v (.int .i64 n1)] w R
theorem Qog (p0:OA) (n1:Int):SH Qjh [.pointer p0,.int .i64 n1] (Qi8 p0 n1):=cdf Tryz.func228 []
def Qk4 (p0:OA) (n1:Int) (w:World) (R:RV):Prop:=nr Tryz.f229 [] [.v (.pointer p0),.v (.int .i64 n1)] w R
theorem Qqo (p0:OA) (n1:Int):SH Ql0 [.pointer p0,.int .i64 n1] (Qk4 p0 n1):=cdf Tryz.func229 []
abbrev Qmm:HL:=[.o [1,15] [.one (.int .i64),.one (.int .i64)],.r (.t 0 4 (.k 4 [8,9,10] [10] (.t 5 5 (.o 10 .e))))]
def Qk3 (p0:OA) (n1:Int) (w:World) (R:RV):Prop:=nr Tryz.f230 Qmm [.v (.pointer p0),.v (.int .i64 n1)] w R
theorem Qqn (p0:OA) (n1:Int):SH Qlz [.pointer p0,.int .i64 n1] (Qk3 p0 n1):=cdf Tryz.func230 Qmm
def Qsa (n0:Int) (w:World) (R:RV):Prop:=nr Tryz.f277 [] [.v (.int .i64 n0)] w R
theorem Qvk (n0:Int):SH Qsg [.int .i64 n0] (Qsa n0):=cdf Tryz.func277 []
end Go.Proofs.YtokjfdggpapkbaaGreatDoor
/-
What each function does, as one formula, printed by a program of this session out of the translation; the kernel holds each print against the translation.
Conditions: none.
-/

set_option linter.unusedVariables false
namespace Go.Proofs.YtokjfdggpapkbaaGreatDoor
open Go
set_option maxRecDepth 100000
set_option maxHeartbeats 4000000
def Qvs (n0:Int) (s1b:OA) (s1l s1c:Nat) (w:World) (R:RV):Prop:=nr Tryz.f181 [] [.v (.int .i64 n0),.v (.slice s1b s1l s1c)] w R
theorem Qxl (n0:Int) (s1b:OA) (s1l s1c:Nat):SH Qv0 [.int .i64 n0,.slice s1b s1l s1c] (Qvs n0 s1b s1l s1c):=cdf Tryz.func181 []
def Qtu (n0:Int) (s1b:OA) (s1l s1c:Nat) (w:World) (R:RV):Prop:=nr Tryz.f263 [] [.v (.int .i64 n0),.v (.slice s1b s1l s1c)] w R
theorem Qwd (n0:Int) (s1b:OA) (s1l s1c:Nat):SH Qt7 [.int .i64 n0,.slice s1b s1l s1c] (Qtu n0 s1b s1l s1c):=cdf Tryz.func263 []
abbrev Qsq:HL:=[.o [12,34] [.one (.int .i64),.one (.int .i64)],.r (.t 0 5 (.k 5 [11,12,13,14,15,16] [11] (.t 6 4 (.k 10 [11,12,13,14,15,16] [11] (.o 11 (.t 12 5 .e))))))]
def Qr9 (n0:Int) (s1b:OA) (s1l s1c:Nat) (s2b:OA) (s2l s2c:Nat) (w:World) (R:RV):Prop:=nr Tryz.f264 Qsq [.v (.int .i64 n0),.v (.slice s1b s1l s1c),.v (.slice s2b s2l s2c)] w R
theorem Qvj (n0:Int) (s1b:OA) (s1l s1c:Nat) (s2b:OA) (s2l s2c:Nat):SH Qsf [.int .i64 n0,.slice s1b s1l s1c,.slice s2b s2l s2c] (Qr9 n0 s1b s1l s1c s2b s2l s2c):=cdf Tryz.func264 Qsq
abbrev Qsp:HL:=[.o [10] [.one (.int .i64)]]
def Qr8 (s0b:OA) (s0l s0c:Nat) (w:World) (R:RV):Prop:=nr Tryz.f265 Qsp [.v (.slice s0b s0l s0c)] w R
theorem Qvi (s0b:OA) (s0l s0c:Nat):SH Qse [.slice s0b s0l s0c] (Qr8 s0b s0l s0c):=cdf Tryz.func265 Qsp
def Qpu (n0 n1 n2:Int) (q3:OA) (w:World) (R:RV):Prop:=nr Tryz.f314 [] [.a [.v (.int .i64 n0),.v (.int .i64 n1),.v (.int .i32 n2)],.v (.pointer q3)] w R
theorem Quh (n0 n1 n2:Int) (q3:OA):SH Qhg [.agg #[.int .i64 n0,.int .i64 n1,.int .i32 n2],.pointer q3] (Qpu n0 n1 n2 q3):=cdf Tryz.func314 []
abbrev Qo9:HL:=[.r (.k 0 [2,3,4,10,13,14,15,16] [10,13,14,15] (.t 1 3 (.k 4 [10,13,14,15,16] [10,13,14,15] (.k 5 [7,8,9,10,13,14,15,16] [10,13,14,15] (.t 6 3 (.k 9 [10,13,14,15,16] [10,13,14,15] (.t 11 2 (.o 10 (.o 13 (.o 14 (.o 15 (.t 16 1 .e))))))))))))]
def Qor (n0 n1:Int) (q2:OA) (w:World) (R:RV):Prop:=nr Tryz.f317 Qo9 [.v (.int .i64 n0),.v (.int .i64 n1),.v (.pointer q2)] w R
theorem Qtb (n0 n1:Int) (q2:OA):SH Qcf [.int .i64 n0,.int .i64 n1,.pointer q2] (Qor n0 n1 q2):=cdf Tryz.func317 Qo9
end Go.Proofs.YtokjfdggpapkbaaGreatDoor
/-
What each function does, as one formula, printed by a program of this session out of the translation; the kernel holds each print against the translation.
Conditions: none.
-/

set_option linter.unusedVariables false
namespace Go.Proofs.YtokjfdggpapkbaaGreatDoor
open Go
set_option maxRecDepth 100000
set_option maxHeartbeats 4000000
abbrev Qso:HL:=[.o [] []]
def Qr7 (p0 s1b:OA) (s1l s1c:Nat) (w:World) (R:RV):Prop:=nr Tryz.f85 Qso [.v (.pointer p0),.v (.slice s1b s1l s1c)] w R
theorem Qvh (p0 s1b:OA) (s1l s1c:Nat):SH Qna [.pointer p0,.slice s1b s1l s1c] (Qr7 p0 s1b s1l s1c):=cdf Tryz.func85 Qso
abbrev Qsn:HL:=[.o [37] [.one (.int .i64)],.o [73] [.one (.int .i64)]]
def Qm3 (p0 s1b:OA) (s1l s1c:Nat) (w:World) (R:RV):Prop:=nr Tryz.f177 Qsn [.v (.pointer p0),.v (.slice s1b s1l s1c)] w R
theorem Qnt (p0 s1b:OA) (s1l s1c:Nat):SH Qm9 [.pointer p0,.slice s1b s1l s1c] (Qm3 p0 s1b s1l s1c):=cdf Tryz.func177 Qsn
abbrev Qrc:HL:=[.o [34] [.one (.int .i64)],.o [49] [.one (.int .i64)]]
def Qj5 (p0 s1b:OA) (s1l s1c:Nat) (w:World) (R:RV):Prop:=nr Tryz.f254 Qrc [.v (.pointer p0),.v (.slice s1b s1l s1c)] w R
theorem Qmj (p0 s1b:OA) (s1l s1c:Nat):SH Qke [.pointer p0,.slice s1b s1l s1c] (Qj5 p0 s1b s1l s1c):=cdf Tryz.func254 Qrc
abbrev Qo8:HL:=[.o [28] [.one (.int .i64)]]
def Qi2 (p0:OA) (w:World) (R:RV):Prop:=nr Tryz.f255 Qo8 [.v (.pointer p0)] w R
theorem Qkm (p0:OA):SH Qi3 [.pointer p0] (Qi2 p0):=cdf Tryz.func255 Qo8
def Qtt (m0:Option Nat) (p1:OA) (n2 n3 n4 n5 n6:Int) (w:World) (R:RV):Prop:=nr Tryz.f256 [] [.v (.map m0),.v (.pointer p1),.v (.int .i64 n2),.a [.v (.int .i64 n3),.v (.int .i64 n4),.v (.int .i64 n5),.v (.int .i64 n6)]] w R
theorem Qwc (m0:Option Nat) (p1:OA) (n2 n3 n4 n5 n6:Int):SH Qt6 [.map m0,.pointer p1,.int .i64 n2,.agg #[.int .i64 n3,.int .i64 n4,.int .i64 n5,.int .i64 n6]] (Qtt m0 p1 n2 n3 n4 n5 n6):=cdf Tryz.func256 []
def Qne (n0:Int) (q1:OA) (w:World) (R:RV):Prop:=nr Tryz.f303 [] [.v (.int .i64 n0),.v (.pointer q1)] w R
theorem Qrz (n0:Int) (q1:OA):SH Qe9 [.int .i64 n0,.pointer q1] (Qne n0 q1):=cdf Tryz.func303 []
def Qr6 (p0:OA) (n1:Int) (w:World) (R:RV):Prop:=nr Tryz.f306 [] [.v (.pointer p0),.v (.int .i64 n1)] w R
theorem Qvg (p0:OA) (n1:Int):SH Qsd [.pointer p0,.int .i64 n1] (Qr6 p0 n1):=cdf Tryz.func306 []
end Go.Proofs.YtokjfdggpapkbaaGreatDoor
/-
What each function does, as one formula, printed by a program of this session out of the translation; the kernel holds each print against the translation.
Conditions: none.
-/

set_option linter.unusedVariables false
namespace Go.Proofs.YtokjfdggpapkbaaGreatDoor
open Go
set_option maxRecDepth 100000
set_option maxHeartbeats 4000000
def Qw0 (n0:Int) (w:World) (R:RV):Prop:=nr Tryz.f76 [] [.v (.int .i64 n0)] w R
theorem Qum (n0:Int):SH Qqg [.int .i64 n0] (Qw0 n0):=cdf Tryz.func76 []
def Qxz (w:World) (R:RV):Prop:=nr Tryz.f162 [] [] w R
theorem Qvm:SH Qx5 [] (Qxz):=cdf Tryz.func162 []
def Qvt (n0 n1:Int) (w:World) (R:RV):Prop:=nr Tryz.f164 [] [.v (.int .i32 n0),.v (.int .i64 n1)] w R
theorem Qxm (n0 n1:Int):SH Qv1 [.int .i32 n0,.int .i64 n1] (Qvt n0 n1):=cdf Tryz.func164 []
abbrev Qv7:HL:=[.o [30] [.one (.int .i64)],.o [12,37] [.one (.int .i64),.one (.int .i64)]]
def Qpt (n0 n1:Int) (s2b:OA) (s2l s2c:Nat) (w:World) (R:RV):Prop:=nr Tryz.f84 Qv7 [.v (.int .i64 n0),.v (.int .i64 n1),.v (.slice s2b s2l s2c)] w R
theorem Qqm (n0 n1:Int) (s2b:OA) (s2l s2c:Nat):SH Qqc [.int .i64 n0,.int .i64 n1,.slice s2b s2l s2c] (Qpt n0 n1 s2b s2l s2c):=cdf Tryz.func84 Qv7
def Qe0 (p0:OA) (n1:Int) (w:World) (R:RV):Prop:=nr Tryz.f151 [] [.v (.pointer p0),.v (.int .i64 n1)] w R
theorem Qfr (p0:OA) (n1:Int):SH Qe8 [.pointer p0,.int .i64 n1] (Qe0 p0 n1):=cdf Tryz.func151 []
abbrev Qxs:HL:=[.j 1 [] [],.j 2 [6] [.one .ptr],.r (.t 0 2 (.t 3 1 (.t 5 1 (.h 2 (.w 4 (.o 6 (.t 7 1 (.o 8 (.t 9 1 .e)))) 6 (.o 4 (.t 7 1 (.o 8 (.t 9 1 .e))))) 4 (.w 2 (.o 6 (.t 7 1 (.o 8 (.t 9 1 .e)))) 6 (.o 2 (.t 7 1 (.o 8 (.t 9 1 .e))))) 6 (.w 2 (.o 4 (.t 7 1 (.o 8 (.t 9 1 .e)))) 4 (.o 2 (.t 7 1 (.o 8 (.t 9 1 .e))))))))),.o [38] [.one (.int .i64)],.o [54] [.one (.int .i64)]]
def Qsv (n0 n1:Int) (w:World) (R:RV):Prop:=nr Tryz.f158 Qxs [.v (.int .i64 n0),.v (.int .i64 n1)] w R
theorem Qsj (n0 n1:Int):SH Qs3 [.int .i64 n0,.int .i64 n1] (Qsv n0 n1):=cdf Tryz.func158 Qxs
abbrev Qnw:HL:=[.o [20] [.one (.int .i64)],.o [26] [.one (.int .i64)],.o [51] [.one (.int .i64)]]
def Qh8 (p0 s1b:OA) (s1l s1c:Nat) (w:World) (R:RV):Prop:=nr Tryz.f175 Qnw [.v (.pointer p0),.v (.slice s1b s1l s1c)] w R
theorem Qjo (p0 s1b:OA) (s1l s1c:Nat):SH Qie [.pointer p0,.slice s1b s1l s1c] (Qh8 p0 s1b s1l s1c):=cdf Tryz.func175 Qnw
abbrev Qnv:HL:=[.j 2 [6] [.one (.int .i32)],.r (.t 0 9 .e),.r (.t 0 3 (.k 3 [6,7,8,9,10] [10] (.t 4 1 (.k 5 [6,7,8,9,10] [10] (.t 6 1 (.k 7 [8,9,10] [10] (.t 8 2 (.o 10 .e)))))))),.r (.t 0 3 (.k 3 [11,12] [12] (.t 4 2 (.k 6 [7,10,11,12] [12] (.t 7 5 (.o 12 .e)))))),.r (.t 0 3 (.k 3 [7,8] [8] (.t 4 1 (.k 5 [7,8] [8] (.t 6 2 (.o 8 .e)))))),.r (.t 0 3 (.k 3 [11,12] [12] (.t 4 2 (.k 6 [7,10,11,12] [12] (.t 7 5 (.o 12 .e)))))),.r (.t 0 3 (.k 3 [12,13,14,15,16,17] [14,17] (.t 4 4 (.k 8 [12,13,14,15,16,17] [14,17] (.t 9 5 (.o 14 (.t 15 2 (.o 17 .e))))))))]
def Qh7 (p0:OA) (n1 n2 n3:Int) (w:World) (R:RV):Prop:=nr Tryz.f176 Qnv [.v (.pointer p0),.v (.int .i32 n1),.a [.v (.int .i64 n2),.v (.int .i64 n3)]] w R
theorem Qjn (p0:OA) (n1 n2 n3:Int):SH Qid [.pointer p0,.int .i32 n1,.agg #[.int .i64 n2,.int .i64 n3]] (Qh7 p0 n1 n2 n3):=cdf Tryz.func176 Qnv
def Qea (p0:OA) (n1:Int) (w:World) (R:RV):Prop:=nr Tryz.f187 [] [.v (.pointer p0),.v (.int .i64 n1)] w R
theorem Qev (p0:OA) (n1:Int):SH Qee [.pointer p0,.int .i64 n1] (Qea p0 n1):=cdf Tryz.func187 []
def Qdk (p0:OA) (n1:Int) (w:World) (R:RV):Prop:=nr Tryz.f188 [] [.v (.pointer p0),.v (.int .i64 n1)] w R
theorem Qd2 (p0:OA) (n1:Int):SH Qdl [.pointer p0,.int .i64 n1] (Qdk p0 n1):=cdf Tryz.func188 []
def Qfj (p0:OA) (n1:Int) (w:World) (R:RV):Prop:=nr Tryz.f195 [] [.v (.pointer p0),.v (.int .i64 n1)] w R
theorem Qht (p0:OA) (n1:Int):SH Qfo [.pointer p0,.int .i64 n1] (Qfj p0 n1):=cdf Tryz.func195 []
def Qgz (p0:OA) (n1:Int) (w:World) (R:RV):Prop:=nr Tryz.f236 [] [.v (.pointer p0),.v (.int .i64 n1)] w R
theorem Qip (p0:OA) (n1:Int):SH Qhe [.pointer p0,.int .i64 n1] (Qgz p0 n1):=cdf Tryz.func236 []
abbrev Qkt:HL:=[.r (.t 0 13 .e)]
def Qf7 (p0:OA) (w:World) (R:RV):Prop:=nr Tryz.f257 Qkt [.v (.pointer p0)] w R
theorem Qhy (p0:OA):SH Qge [.pointer p0] (Qf7 p0):=cdf Tryz.func257 Qkt
abbrev Qml:HL:=[.j 4 [11] [.one .bool]]
def Qg0 (p0:OA) (n1:Int) (w:World) (R:RV):Prop:=nr Tryz.f268 Qml [.v (.pointer p0),.v (.int .i64 n1)] w R
theorem Qiq (p0:OA) (n1:Int):SH Qhf [.pointer p0,.int .i64 n1] (Qg0 p0 n1):=cdr Tryz.func268 Qml
def Qfi (p0:OA) (n1:Int) (w:World) (R:RV):Prop:=nr Tryz.f272 [] [.v (.pointer p0),.v (.int .i64 n1)] w R
theorem Qhs (p0:OA) (n1:Int):SH Qfn [.pointer p0,.int .i64 n1] (Qfi p0 n1):=cdf Tryz.func272 []
end Go.Proofs.YtokjfdggpapkbaaGreatDoor
/-
What each function does, as one formula, printed by a program of this session out of the translation; the kernel holds each print against the translation.
Conditions: none.
-/

set_option linter.unusedVariables false
namespace Go.Proofs.YtokjfdggpapkbaaGreatDoor
open Go
set_option maxRecDepth 100000
set_option maxHeartbeats 4000000
abbrev Qv6:HL:=[.j 1 [] [],.j 2 [4] [.one .ptr],.r (.t 0 1 (.t 2 1 (.t 4 1 (.h 1 (.w 3 (.o 5 (.t 6 1 (.o 7 (.t 8 1 .e)))) 5 (.o 3 (.t 6 1 (.o 7 (.t 8 1 .e))))) 3 (.w 1 (.o 5 (.t 6 1 (.o 7 (.t 8 1 .e)))) 5 (.o 1 (.t 6 1 (.o 7 (.t 8 1 .e))))) 5 (.w 1 (.o 3 (.t 6 1 (.o 7 (.t 8 1 .e)))) 3 (.o 1 (.t 6 1 (.o 7 (.t 8 1 .e))))))))),.o [26] [.one (.int .i64)],.r (.t 0 3 (.k 3 [19,20,21,22,23,24] [20,22,24] (.t 4 4 (.k 8 [19,20,21,22,23,24] [20,22,24] (.t 9 4 (.k 13 [19,20,21,22,23,24] [20,22,24] (.t 14 6 (.o 20 (.t 21 1 (.o 22 (.t 23 1 (.o 24 .e))))))))))))]
def Qps (n0:Int) (w:World) (R:RV):Prop:=nr Tryz.f305 Qv6 [.v (.int .i64 n0)] w R
theorem Qql (n0:Int):SH Qqb [.int .i64 n0] (Qps n0):=cdf Tryz.func305 Qv6
abbrev Qjr:HL:=[.j 2 [] [],.j 2 [8,9] [.one (.int .i32),.one (.int .i32)],.r (.t 0 15 .e),.r (.t 0 4 (.k 4 [16,17,18,19] [16,19] (.t 5 5 (.k 10 [12,13,14,15,16,17,18,19] [15,16,19] (.t 11 2 (.k 13 [14,15,16,17,18,19] [15,16,19] (.t 14 1 (.o 15 (.o 16 (.t 17 2 (.o 19 .e))))))))))),.r (.t 0 3 (.k 3 [5,6,14,15,16] [16] (.t 4 2 (.k 6 [14,15,16] [16] (.t 7 3 (.k 10 [12,13,14,15,16] [16] (.t 11 2 (.k 13 [14,15,16] [16] (.t 14 2 (.o 16 .e)))))))))),.r (.t 0 3 (.k 3 [20,21] [21] (.t 4 4 (.k 8 [10,11,19,20,21] [21] (.t 9 2 (.k 11 [19,20,21] [21] (.t 12 3 (.k 15 [17,18,19,20,21] [21] (.t 16 2 (.k 18 [19,20,21] [21] (.t 19 2 (.o 21 .e))))))))))))]
def Qi7 (p0:OA) (n1 n2:Int) (w:World) (R:RV):Prop:=nr Tryz.f307 Qjr [.v (.pointer p0),.v (.int .i64 n1),.v (.int .i64 n2)] w R
theorem Qof (p0:OA) (n1 n2:Int):SH Qjg [.pointer p0,.int .i64 n1,.int .i64 n2] (Qi7 p0 n1 n2):=cdf Tryz.func307 Qjr
def Qij (p0:OA) (n1:Int) (w:World) (R:RV):Prop:=nr Tryz.f308 [] [.v (.pointer p0),.v (.int .i64 n1)] w R
theorem Qns (p0:OA) (n1:Int):SH Qin [.pointer p0,.int .i64 n1] (Qij p0 n1):=cdf Tryz.func308 []
def Qj4 (p0:OA) (n1 n2:Int) (w:World) (R:RV):Prop:=nr Tryz.f349 [] [.v (.pointer p0),.v (.int .i64 n1),.v (.int .i64 n2)] w R
theorem Qpg (p0:OA) (n1 n2:Int):SH Qs2 [.pointer p0,.int .i64 n1,.int .i64 n2] (Qj4 p0 n1 n2):=cdf Tryz.func349 []
abbrev Qjq:HL:=[.j 1 [] [],.o [6] [.one (.int .i32)]]
def Qi6 (p0:OA) (n1:Int) (w:World) (R:RV):Prop:=nr Tryz.f350 Qjq [.v (.pointer p0),.v (.int .i64 n1)] w R
theorem Qoe (p0:OA) (n1:Int):SH Qjf [.pointer p0,.int .i64 n1] (Qi6 p0 n1):=cdf Tryz.func350 Qjq
end Go.Proofs.YtokjfdggpapkbaaGreatDoor
/-
What each function does, as one formula, printed by a program of this session out of the translation; the kernel holds each print against the translation.
Conditions: none.
-/

set_option linter.unusedVariables false
namespace Go.Proofs.YtokjfdggpapkbaaGreatDoor
open Go
set_option maxRecDepth 100000
set_option maxHeartbeats 4000000
def Qj3 (p0:OA) (n1:Int) (w:World) (R:RV):Prop:=nr Tryz.f123 [] [.v (.pointer p0),.v (.int .i64 n1)] w R
theorem Qmi (p0:OA) (n1:Int):SH Qkd [.pointer p0,.int .i64 n1] (Qj3 p0 n1):=cdf Tryz.func123 []
abbrev Qyr:HL:=[.j 1 [] [],.o [54] [.one (.int .i64)],.o [69] [.one (.int .i64)]]
def Quz (n0 n1:Int) (w:World) (R:RV):Prop:=nr Tryz.f159 Qyr [.v (.int .i64 n0),.v (.int .i64 n1)] w R
theorem Qug (n0 n1:Int):SH Qu8 [.int .i64 n0,.int .i64 n1] (Quz n0 n1):=cdf Tryz.func159 Qyr
def Qf0 (p0:OA) (n1 n2:Int) (w:World) (R:RV):Prop:=nr Tryz.f179 [] [.v (.pointer p0),.v (.int .i64 n1),.v (.int .i64 n2)] w R
theorem Qgi (p0:OA) (n1 n2:Int):SH Qc4 [.pointer p0,.int .i64 n1,.int .i64 n2] (Qf0 p0 n1 n2):=cdf Tryz.func179 []
def Qop (p0:OA) (w:World) (R:RV):Prop:=nr Tryz.f206 [] [.v (.pointer p0)] w R
theorem Qs9 (p0:OA):SH Qoz [.pointer p0] (Qop p0):=cdf Tryz.func206 []
def Qoq (p0:OA) (n1:Int) (w:World) (R:RV):Prop:=nr Tryz.f208 [] [.v (.pointer p0),.v (.int .i64 n1)] w R
theorem Qta (p0:OA) (n1:Int):SH Qo0 [.pointer p0,.int .i64 n1] (Qoq p0 n1):=cdf Tryz.func208 []
def Qh6 (p0:OA) (n1 n2:Int) (w:World) (R:RV):Prop:=nr Tryz.f259 [] [.v (.pointer p0),.v (.int .i64 n1),.v (.int .i64 n2)] w R
theorem Qjm (p0:OA) (n1 n2:Int):SH Qic [.pointer p0,.int .i64 n1,.int .i64 n2] (Qh6 p0 n1 n2):=cdf Tryz.func259 []
abbrev Qrb:HL:=[.j 2 [] []]
def Qpr (p0:OA) (n1:Int) (w:World) (R:RV):Prop:=nr Tryz.f260 Qrb [.v (.pointer p0),.v (.int .i64 n1)] w R
theorem Quf (p0:OA) (n1:Int):SH Qqa [.pointer p0,.int .i64 n1] (Qpr p0 n1):=cdf Tryz.func260 Qrb
def Qfx (p0:OA) (n1 n2 n3 n4:Int) (w:World) (R:RV):Prop:=nr Tryz.f266 [] [.v (.pointer p0),.v (.int .i64 n1),.v (.int .i64 n2),.v (.int .i64 n3),.v (.int .i64 n4)] w R
theorem Qfe (p0:OA) (n1 n2 n3 n4:Int):SH Qfy [.pointer p0,.int .i64 n1,.int .i64 n2,.int .i64 n3,.int .i64 n4] (Qfx p0 n1 n2 n3 n4):=cdf Tryz.func266 []
def Qr5 (p0:OA) (n1 n2:Int) (w:World) (R:RV):Prop:=nr Tryz.f300 [] [.v (.pointer p0),.v (.int .i64 n1),.v (.int .i64 n2)] w R
theorem Qvf (p0:OA) (n1 n2:Int):SH Qsc [.pointer p0,.int .i64 n1,.int .i64 n2] (Qr5 p0 n1 n2):=cdf Tryz.func300 []
end Go.Proofs.YtokjfdggpapkbaaGreatDoor
/-
What each function does, as one formula, printed by a program of this session out of the translation; the kernel holds each print against the translation.
Conditions: none.
-/

set_option linter.unusedVariables false
namespace Go.Proofs.YtokjfdggpapkbaaGreatDoor
open Go
set_option maxRecDepth 100000
set_option maxHeartbeats 4000000
end Go.Proofs.YtokjfdggpapkbaaGreatDoor
