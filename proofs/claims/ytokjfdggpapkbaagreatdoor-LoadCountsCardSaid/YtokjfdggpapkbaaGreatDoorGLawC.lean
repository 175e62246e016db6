/-
What the laws' own helpers of layer 16 make: an error's number, lists compared.
Conditions: the package variable of errors is laid out.
-/
import Derived.Test.YtokjfdggpapkbaaGreatDoorGLaw
import Derived.Test.YtokjfdggpapkbaaGreatDoorHsh
import Derived.Test.YtokjfdggpapkbaaGreatDoorGRefC
import Derived.Test.YtokjfdggpapkbaaGreatDoorGCoreC
set_option linter.unusedVariables false
set_option linter.unusedSimpArgs false
namespace Go.Proofs.YtokjfdggpapkbaaGreatDoor
open Go
namespace Seq
end Seq
end Go.Proofs.YtokjfdggpapkbaaGreatDoor
namespace Go.Proofs.YtokjfdggpapkbaaGreatDoor
open Go Go.RowKit
namespace Core
open Go.Proofs.YtokjfdggpapkbaaGreatDoor.Seq Go.Proofs.YtokjfdggpapkbaaGreatDoor.Cut Go.Proofs.YtokjfdggpapkbaaGreatDoor.Web
section
variable {w₀ w w':World} {b:Bk} {lb tb wb sb:Option Addr} {lc tc wc' sl sc N d:Nat} {bad X:Nat→Prop} {be ce er:Int} {lv lv':Nat→Bool} {tl tl':Nat→List Nat} {ky ky' W W':Nat→Int} {q q':List (List Nat)} {B B' D D':Nat→Option (Nat × Nat)}
theorem Bk.sub {k:Nat} (h:b.ch k):b.has k:=by
 unfold Bk.ch at h
 unfold Bk.has
 rcases h with rfl | rfl | rfl | (rfl | rfl | rfl) | (rfl | rfl | rfl) | rfl<;>simp
theorem MX.lowA {E:Int} (h:MX w.heap b N lv tl q B D ky E) (k:Nat) (hk:b.has k):k<w.heap.size:=by
 obtain ⟨t1,t2,t3,t4⟩:=h.t.lt
 obtain ⟨_,f,_⟩:=h.w.f
 obtain ⟨_,g,_⟩:=h.f
 unfold Bk.has at hk
 rcases hk with rfl | rfl | rfl | (rfl | rfl | rfl | rfl) | (rfl | rfl | rfl | rfl | rfl | rfl | rfl) | rfl | rfl
 ·exact h.r.lt
 ·exact h.v.lt
 ·exact h.k.lt
 ·exact t1
 ·exact t2
 ·exact t3
 ·exact t4
 ·exact h.w.r.lt
 ·exact h.w.a.r.lt
 ·exact h.w.a.a.lt.1
 ·exact h.w.a.a.lt.2
 ·exact f.lt.1
 ·exact f.lt.2
 ·exact h.w.e.lt
 ·exact g.lt.1
 ·exact g.lt.2
theorem lf {A C:Nat} {ty ty2:TypeId} {a0 a1 b0 b1:Int} {K:World→Prop} (hne:A≠C) (r:Row w.heap A ty [.int .i64 0,.int .i64 0]) (r2:Row w.heap C ty2 [.int .i64 0,.int .i64 0]) (k:∀w',Chg (fun k=>k=A∨k=C) w w'→Row w'.heap A ty [.int .i64 a0,.int .i64 a1]→Row w'.heap C ty2 [.int .i64 b0,.int .i64 b1]→K w') :
  sto ⟨A,0,none⟩ (.int .i64 a0) w fun w1=>sto (Addr.add ⟨A,0,none⟩ 1) (.int .i64 a1) w1 fun w2=>sto ⟨C,0,none⟩ (.int .i64 b0) w2 fun w3=>sto (Addr.add ⟨C,0,none⟩ 1) (.int .i64 b1) w3 K:=by
 rw [Qac,Qac]
 refine Qa0 r (by simp) rfl fun w1 c1 r1=>Qa0 r1 (by simp) rfl fun w2 c2 r3=>Qa0 ((c1.trans c2).row hne.symm r2) (by simp) rfl fun w3 c3 r4=>Qa0 r4 (by simp) rfl fun w4 c4 r5=>k _ ?_ ((c3.trans c4).row hne r3) r5
 exact ((c1.trans c2).mono fun _ _ e=>.inl e).trans ((c3.trans c4).mono fun _ _ e=>.inr e)
end
end Core
end Go.Proofs.YtokjfdggpapkbaaGreatDoor
namespace Go.Proofs.YtokjfdggpapkbaaGreatDoor
open Go Go.RowKit
section
variable {w w':World} {b:Option Addr} {l:Nat} {f:Nat→Nat→Int}
end
namespace Core
open Go.Proofs.YtokjfdggpapkbaaGreatDoor.Seq Go.Proofs.YtokjfdggpapkbaaGreatDoor.Cut Go.Proofs.YtokjfdggpapkbaaGreatDoor.Web
section
variable {w₀ w w':World} {b:Bk} {N:Nat} {X:Nat→Prop} {sb:Option Addr} {sl sc:Nat} {f:Nat→Nat→Int}
end
end Core
end Go.Proofs.YtokjfdggpapkbaaGreatDoor
namespace Go.Proofs.YtokjfdggpapkbaaGreatDoor
open Go Go.RowKit
namespace Core
open Go.Proofs.YtokjfdggpapkbaaGreatDoor.Seq Go.Proofs.YtokjfdggpapkbaaGreatDoor.Cut Go.Proofs.YtokjfdggpapkbaaGreatDoor.Web
def V3:Nat→Bool:=upd (upd (upd (fun _=>false) 0 true) 1 true) 2 true
def T1:Nat→List Nat:=lay (fun _=>[]) 0 0 (-1) 1 (-1)
def T2:Nat→List Nat:=lay T1 1 1 1 2 (-1)
section
variable {w₀ w w':World} {b:Bk} {N v x y:Nat} {lv:Nat→Bool} {tl:Nat→List Nat} {q:List (List Nat)} {B D:Nat→Option (Nat × Nat)} {ky:Nat→Int}
theorem gc_iso (h:∀e,Laid tl N e→og tl N (2*e)≠v∧og tl N (2*e+1)≠v) (k:GC tl N v y):y=v:=by
 induction k with
 | refl=>rfl
 | step _ k ih=>
  subst ih
  obtain ⟨e,he,⟨k,_⟩ | ⟨k,_⟩⟩:=k
  ·exact absurd k.symm (h e he).1
  ·exact absurd k.symm (h e he).2
theorem jE_of {e u v:Nat} {be ce:Int} (h0:e<N) (h1:¬Laid tl N e) (h2:k2E lv tl N u be v ce=0) (h3:Lgl tl N u be v ce):jE lv tl N e u be v ce=0:=by
 unfold jE
 rw [if_pos (by omega),Int.toNat_natCast,if_neg h1,if_pos h2,Int.toNat_natCast,Int.toNat_natCast,if_pos h3]
theorem j1:jE V3 (fun _=>[]) 3 (0:Nat) (0:Nat) (-1) (1:Nat) (-1)=0:=
 jE_of (by omega) (by unfold Laid;decide) (by decide) (.inr fun k=>by
  have := gc_iso (v := 0) (fun e he => by have : ∀ d, d ∉ dl (fun _ => []) 3 := by decide
                                          exact absurd he (this _)) k
  cases this)
theorem j2:jE V3 T1 3 (1:Nat) (1:Nat) 1 (2:Nat) (-1)=0:=
 jE_of (by omega) (by unfold Laid;decide) (by decide) (.inr fun k=>by
  have:=gc_iso (v:=2) (fun e he=>by
   have:∀d∈dl T1 3,d/2=0:=by decide
   have:=this _ he
   obtain rfl:e=0:=by omega
   decide) (RT.symm (fun x y ⟨e,he,k⟩=>⟨e,he,k.symm.imp And.symm And.symm⟩) k)
  cases this)
theorem j3:jE V3 T2 3 (2:Nat) (2:Nat) 3 (0:Nat) 0=0:=
 jE_of (by omega) (by unfold Laid;decide) (by decide) (.inl (by
  show PF T2 3 3 0
  have a:PF T2 3 3 1:=RT.one (by decide)
  exact RT.step a (by decide)))
end
end Core
end Go.Proofs.YtokjfdggpapkbaaGreatDoor
namespace Go.Proofs.YtokjfdggpapkbaaGreatDoor
open Go Go.RowKit
namespace Core
open Go.Proofs.YtokjfdggpapkbaaGreatDoor.Seq Go.Proofs.YtokjfdggpapkbaaGreatDoor.Cut Go.Proofs.YtokjfdggpapkbaaGreatDoor.Web
section
variable {w₀ w w':World} {b:Bk} {N:Nat} {lv lv':Nat→Bool} {tl tl':Nat→List Nat} {q q':List (List Nat)} {B D B' D':Nat→Option (Nat × Nat)} {ky ky':Nat→Int}
theorem x_Has {e:Int} (h:GM w.heap b N lv tl q B D ky):Calls Pg Qqh #[.pointer (some ⟨b.M,0,none⟩),.int .i64 e] w fun r w'=>r=.returned (.bool (decide (eE tl N e=0)))∧w'=w:=by
 refine (Qup _ _ _ (fun v' w'=>v'=.bool (decide (eE tl N e=0))∧w'=w) ?_).mono (by rintro e w' ⟨v,rfl,rfl,k⟩;exact ⟨rfl,k⟩)
 unfold Qpy nr
 refine (Qx9 h.toMR.x).mono ?_
 rintro r w3 ⟨rfl,rfl⟩
 exact ⟨_,rfl,Qbx _,by rw [Qbw],rfl⟩
end
end Core
end Go.Proofs.YtokjfdggpapkbaaGreatDoor
