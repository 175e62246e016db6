/-
Bytes: numbers out of bytes and into them, clones, what is joined; frames cut and made (layer 1's program).
Conditions: those that each theorem states.
-/
import Derived.Test.YtokjfdggpapkbaaGreatDoorGNew
import Derived.Lib.AppendZeros
import Derived.Test.YtokjfdggpapkbaaGreatDoorHsh
set_option linter.unusedVariables false
set_option linter.unusedSimpArgs false
namespace Go.Proofs.YtokjfdggpapkbaaGreatDoor
open Go Go.RowKit
namespace Core
open Go.Proofs.YtokjfdggpapkbaaGreatDoor.Seq
theorem al_s (w:World) (o:Obj):(w.alloc o).heap.size=w.heap.size+1:=by show (w.heap.push _).size=_;simp
def nb (l:List Nat):Nat:=l.foldl (fun v c=>v*256+c) 0
theorem wrap_u64 {n:Int} (h0:0≤n) (h1:n<18446744073709551616):IntKind.wrap .u64 n=n:=by
 simp [IntKind.wrap,IntKind.bits,IntKind.signed];omega
section
variable {w w':World} {b:Option Addr} {l c base:Nat} {xs ys:List Nat}
structure Pt where
 b:Option Addr
 l:Nat
 c:Nat
 xs:List Value
def pl (ps:List Pt):Nat:=(ps.map (·.l)).sum
end
end Core
end Go.Proofs.YtokjfdggpapkbaaGreatDoor
