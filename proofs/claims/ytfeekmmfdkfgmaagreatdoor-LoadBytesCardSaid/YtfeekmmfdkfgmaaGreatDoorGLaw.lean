/-
What the laws' own helpers make: an error's number.
Conditions: the package variable of errors is laid out.
-/
import Derived.Test.YtfeekmmfdkfgmaaGreatDoorAs
import Derived.Test.YtfeekmmfdkfgmaaGreatDoorGNew
import Derived.Laws.Bits64
set_option linter.unusedVariables false
set_option linter.unusedSimpArgs false
namespace Go.Proofs.YtfeekmmfdkfgmaaGreatDoor
open Go
namespace Seq
def LaidG (w:World):Prop:=w.cell? ⟨0,0,none⟩=some (.iface 278 (.agg #[.pointer (some ⟨2,30,none⟩)]))
theorem LaidG.pos {w:World} (h:LaidG w):0<w.heap.size:=by
 rcases Nat.eq_zero_or_pos w.heap.size with h0 | h1
 ·unfold LaidG World.cell? at h;simp [h0] at h
 ·exact h1
theorem Qy4 {w w':World} {a:Addr} (h:w'.heap[a.block]?=w.heap[a.block]?):w'.cell? a=w.cell? a:=by
 unfold World.cell?;rw [h]
theorem LaidG.chg {w w':World} {S:Nat→Prop} (h:LaidG w) (c:Chg S w w') (hS:¬S 0):LaidG w':=by
 have hp:=h.pos
 unfold LaidG at *
 rw [←h];exact Qy4 (c.block 0 hp hS)
theorem LaidG.alloc {w:World} (h:LaidG w) (o:Obj):LaidG (w.alloc o):=h.chg ((Chg.refl Qaa w).alloc o) (fun h=>h)
section
variable {w w':World} {b:Option Addr} {l c base:Nat} {A:List Int}
end
section
variable {w₀ w w':World} {F L n:Nat} {v v':Nat→Int} {q q':List (List Nat)}
end
end Seq
end Go.Proofs.YtfeekmmfdkfgmaaGreatDoor
namespace Go.Proofs.YtfeekmmfdkfgmaaGreatDoor
open Go
theorem Qeb (a:Addr) (k:Nat):(a.add k).block=a.block:=by unfold Addr.add;split<;>rfl
section
variable {w w':World} {b:Option Addr} {l sz:Nat} {f:Nat→Nat→Int}
end
namespace Seq
section
variable {w₀ w w':World} {F L n:Nat} {v v':Nat→Int} {q q':List (List Nat)} {a b x:Nat}
theorem AF.find2 (k:AF w.heap F L n v q) (hx:a<n) (hy:b<n):(∃A q',q.Perm (A::q')∧a∈A∧b∈A)∨∃A B q',q.Perm (A::B::q')∧a∈A∧b∈B∧b∉A:=by
 obtain ⟨A,q',hp,ha⟩:=k.find hx
 by_cases hb:b∈A
 ·exact .inl ⟨A,q',hp,ha,hb⟩
 ·obtain ⟨_,_,_,_,_,hall⟩:=(k.perm hp).nodup
  obtain ⟨B,hB,hbB⟩:=hall b hy
  rcases List.mem_cons.1 hB with rfl | hB
  ·exact absurd hbB hb
  ·obtain ⟨q'',hq⟩:∃q'',q'.Perm (B::q''):=⟨_,List.perm_cons_erase hB⟩
   exact .inr ⟨A,B,q'',hp.trans (hq.cons A),ha,hbB,hb⟩
end
end Seq
theorem Qcb {b o l sz:Nat} {i:Int} {K:Addr→Prop} (h:0≤i∧i<(l:Int)) (k:K ⟨b,o+i.toNat*sz,none⟩):ixA ⟨b,o,none⟩ l i sz K:=⟨h.1,h.2,by rw [Qad];exact k⟩
namespace Seq
section
variable {w₀ w w':World} {F L n:Nat} {v v':Nat→Int} {q q':List (List Nat)} {A:List Nat} {a b x:Nat}
end
end Seq
end Go.Proofs.YtfeekmmfdkfgmaaGreatDoor
namespace Go.Proofs.YtfeekmmfdkfgmaaGreatDoor
open Go
namespace Seq
section
variable {w₀ w:World} {F L m:Nat} {v:Nat→Int} {q:List (List Nat)} {c:Int}
end
end Seq
end Go.Proofs.YtfeekmmfdkfgmaaGreatDoor
namespace Go.Proofs.YtfeekmmfdkfgmaaGreatDoor
open Go Go.RowKit
namespace Seq
end Seq
end Go.Proofs.YtfeekmmfdkfgmaaGreatDoor
namespace Go.Proofs.YtfeekmmfdkfgmaaGreatDoor
open Go
namespace Seq
section
variable {w₀ w w':World} {F L n B:Nat} {v v':Nat→Int} {q q':List (List Nat)} {A:List Nat} {x:Nat}
end
open Classical in
section
variable {q:List (List Nat)} {A:List Nat} {x k u:Nat}
end
end Seq
end Go.Proofs.YtfeekmmfdkfgmaaGreatDoor
