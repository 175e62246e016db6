/-
Places that are given (layers 2 and 3's program), as far as a new state needs them: new ones, and none.
Conditions: those that each theorem states.
-/
import Derived.Test.YtfeekmmfdkfgmaaGreatDoorGTurn
import Derived.Test.YtfeekmmfdkfgmaaGreatDoorGMem
import Derived.Test.YtfeekmmfdkfgmaaGreatDoorHsh
import Derived.Laws.IdiomRangeMap
set_option linter.unusedVariables false
set_option linter.unusedSimpArgs false
namespace Go.Proofs.YtfeekmmfdkfgmaaGreatDoor
open Go Go.RowKit
namespace Core
set_option linter.ambiguousOpen false
open Seq Cut Web
section
variable {w w':World}
theorem Q4k:ET Pg 334 338 1 24:=ET.of (by kernel_rfl) (by kernel_rfl)
theorem Qxa {n:Int} (h0:0≤n) (h1:n≤1048576):Calls Pg 236 #[.int .i64 n] w fun r w'=>r=.returned (.int .i64 ((n+63)/64))∧w'=w:=by
 refine (Qzb _).go ?_
 unfold Qvm nr
 rw [wrap64_in (x:=n+64) (by omega) (by omega),wrap64_in (x:=n+64-1) (by omega) (by omega),Int.tdiv_eq_ediv_of_nonneg (by omega),wrap64_in (by omega) (by omega),show n+64-1=n+63 by omega]
 exact ⟨by decide,rfl,rfl⟩
theorem Q9a {n:Int} (h:¬(1≤n∧n≤1048576)):Calls Pg 176 #[.int .i64 n] w fun r w'=>r=.returned (.tuple #[.pointer none,errV 1])∧w'=w:=by
 refine (Qim _).go ?_
 unfold Qjc nr
 refine ⟨fun _ _=>False,?_,fun _ _ h=>h.elim⟩
 refine Qac (fun h=>⟨rfl,rfl⟩) (fun h1=>Qac (fun h=>⟨rfl,rfl⟩) (fun h2=>?_))
 simp only [b1s] at h1 h2
 omega
theorem Q9r {n:Int} (h:¬(1≤n∧n≤1048576)):Calls Pg 99 #[.int .i64 n] w fun r w'=>r=.returned (.tuple #[.pointer none,errV 1])∧w'=w:=by
 refine (Qio _).go ?_
 unfold Qjg nr
 refine (Q9a h).mono ?_
 rintro r w3 ⟨rfl,rfl⟩
 exact ⟨_,_,rfl,Qaj (fun _=>⟨rfl,rfl⟩) (fun e=>absurd e (by decide))⟩
end
section
variable {w w':World} {T TD TL TM N:Nat} {tl:Nat→List Nat} {ob:Option Addr} {oc:Nat}
end
end Core
end Go.Proofs.YtfeekmmfdkfgmaaGreatDoor
