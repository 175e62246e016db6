/-
Bytes: numbers out of bytes and into them, clones, what is joined; frames cut and made (layer 1's program).
Conditions: those that each theorem states.
-/
import Derived.Test.YtfeekmmfdkfgmaaGreatDoorGNew
import Derived.Lib.AppendZeros
import Derived.Test.YtfeekmmfdkfgmaaGreatDoorHsh
set_option linter.unusedVariables false
set_option linter.unusedSimpArgs false
namespace Go.Proofs.YtfeekmmfdkfgmaaGreatDoor
open Go Go.RowKit
namespace Core
open Go.Proofs.YtfeekmmfdkfgmaaGreatDoor.Seq
theorem al_s (w:World) (o:Obj):(w.alloc o).heap.size=w.heap.size+1:=by show (w.heap.push _).size=_;simp
theorem Q7o:ET Pg Qc6 Qbx 1 1:=ET.of (by kernel_rfl) (by kernel_rfl)
def bys (l:List Nat):List Value:=l.map fun (x:Nat)=>.int .u8 (x:Int)
def nb (l:List Nat):Nat:=l.foldl (fun v c=>v*256+c) 0
theorem Zaw {l:List Nat}:(bys l).length=l.length:=List.length_map ..
theorem Q25 {l:List Nat}:∀u∈bys l,oneC u=true:=by intro u hu;obtain ⟨x,_,rfl⟩:=List.mem_map.1 hu;rfl
theorem Zax {l:List Nat} {i:Nat} (h:i<l.length):(bys l)[i]?=some (.int .u8 (l[i]:Int)):=by unfold bys;rw [List.getElem?_map,List.getElem?_eq_getElem h];rfl
theorem Q47 {l m:List Nat}:bys (l++m)=bys l++bys m:=List.map_append
theorem wrap_u64 {n:Int} (h0:0≤n) (h1:n<18446744073709551616):IntKind.wrap .u64 n=n:=by
 simp [IntKind.wrap,IntKind.bits,IntKind.signed];omega
section
variable {w w':World} {b:Option Addr} {l c base:Nat} {xs ys:List Nat}
def pbs (v:Nat):Nat→List Nat
 | 0=>[]
 | k+1=>v/256 ^ k % 256::pbs v k
theorem Qbh (v:Nat):∀k,(pbs v k).length=k
 | 0=>rfl
 | k+1=>by rw [pbs,List.length_cons,Qbh v k]
end
end Core
end Go.Proofs.YtfeekmmfdkfgmaaGreatDoor
