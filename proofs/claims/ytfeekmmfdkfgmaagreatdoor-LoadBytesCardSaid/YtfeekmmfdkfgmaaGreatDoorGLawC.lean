/-
What the laws' own helpers of layer 16 make: an error's number, lists compared.
Conditions: the package variable of errors is laid out.
-/
import Derived.Test.YtfeekmmfdkfgmaaGreatDoorGLaw
import Derived.Test.YtfeekmmfdkfgmaaGreatDoorHsh
import Derived.Test.YtfeekmmfdkfgmaaGreatDoorGRefC
import Derived.Test.YtfeekmmfdkfgmaaGreatDoorGCoreC
set_option linter.unusedVariables false
set_option linter.unusedSimpArgs false
namespace Go.Proofs.YtfeekmmfdkfgmaaGreatDoor
open Go
namespace Seq
end Seq
end Go.Proofs.YtfeekmmfdkfgmaaGreatDoor
namespace Go.Proofs.YtfeekmmfdkfgmaaGreatDoor
open Go Go.RowKit
namespace Core
set_option linter.ambiguousOpen false
open Seq Cut Web
section
variable {w₀ w w':World} {b:Bk} {lb tb wb sb:Option Addr} {lc tc wc' sl sc N d:Nat} {bad X:Nat→Prop} {be ce er:Int} {lv lv':Nat→Bool} {tl tl':Nat→List Nat} {ky ky' W W':Nat→Int} {q q':List (List Nat)} {B B' D D':Nat→Option (Nat × Nat)}
theorem Bk.sub {k:Nat} (h:b.ch k):b.has k:=by
 unfold Bk.ch at h
 unfold Bk.has
 rcases h with rfl | rfl | rfl | (rfl | rfl | rfl) | (rfl | rfl | rfl) | rfl<;>simp
theorem MX.lowA {E:Int} (h:MX w.heap b N lv tl q B D ky E) (k:Nat) (hk:b.has k):k<w.heap.size:=by
 obtain ⟨t1,t2,t3,t4⟩:=h.t.lt
 obtain ⟨_,f,_⟩:=h.w.f
 obtain ⟨_,g,_⟩:=h.f
 unfold Bk.has at hk
 rcases hk with rfl | rfl | rfl | (rfl | rfl | rfl | rfl) | (rfl | rfl | rfl | rfl | rfl | rfl | rfl) | rfl | rfl
 ·exact h.r.lt
 ·exact h.v.lt
 ·exact h.k.lt
 ·exact t1
 ·exact t2
 ·exact t3
 ·exact t4
 ·exact h.w.r.lt
 ·exact h.w.a.r.lt
 ·exact h.w.a.a.lt.1
 ·exact h.w.a.a.lt.2
 ·exact f.lt.1
 ·exact f.lt.2
 ·exact h.w.e.lt
 ·exact g.lt.1
 ·exact g.lt.2
theorem lf {A C:Nat} {ty ty2:TypeId} {a0 a1 b0 b1:Int} {K:World→Prop} (hne:A≠C) (r:Row w.heap A ty [.int .i64 0,.int .i64 0]) (r2:Row w.heap C ty2 [.int .i64 0,.int .i64 0]) (k:∀w',Chg (fun k=>k=A∨k=C) w w'→Row w'.heap A ty [.int .i64 a0,.int .i64 a1]→Row w'.heap C ty2 [.int .i64 b0,.int .i64 b1]→K w') :
  sto ⟨A,0,none⟩ (.int .i64 a0) w fun w1=>sto (Addr.add ⟨A,0,none⟩ 1) (.int .i64 a1) w1 fun w2=>sto ⟨C,0,none⟩ (.int .i64 b0) w2 fun w3=>sto (Addr.add ⟨C,0,none⟩ 1) (.int .i64 b1) w3 K:=by
 rw [Qad,Qad]
 refine Qao r (by simp) rfl fun w1 c1 r1=>Qao r1 (by simp) rfl fun w2 c2 r3=>Qao ((c1.trans c2).row hne.symm r2) (by simp) rfl fun w3 c3 r4=>Qao r4 (by simp) rfl fun w4 c4 r5=>k _ ?_ ((c3.trans c4).row hne r3) r5
 exact ((c1.trans c2).mono fun _ _ e=>.inl e).trans ((c3.trans c4).mono fun _ _ e=>.inr e)
end
end Core
end Go.Proofs.YtfeekmmfdkfgmaaGreatDoor
namespace Go.Proofs.YtfeekmmfdkfgmaaGreatDoor
open Go Go.RowKit
section
variable {w w':World} {b:Option Addr} {l:Nat} {f:Nat→Nat→Int}
end
namespace Core
set_option linter.ambiguousOpen false
open Seq Cut Web
section
variable {w₀ w w':World} {b:Bk} {N:Nat} {X:Nat→Prop} {sb:Option Addr} {sl sc:Nat} {f:Nat→Nat→Int}
theorem Qwn:dl (fun _=>[]) N=[]:=by
 unfold dl
 exact List.flatMap_eq_nil_iff.2 fun _ _=>rfl
theorem GM.new (h:MR w.heap b N (fun _=>false) (fun _=>[]) (ones (3*N)) (fun _=>none) (fun _=>none) (fun _=>0)):GM w.heap b N (fun _=>false) (fun _=>[]) (ones (3*N)) (fun _=>none) (fun _=>none) (fun _=>0):=by
 obtain ⟨nd,lt,_,al⟩:=h.w.nodup
 have hl:∀e,¬Laid (fun _=>[]) N e:=fun e k=>by unfold Laid at k;rw [Qwn] at k;cases k
 refine ⟨h,⟨⟨⟨(by rw [Qwn];exact List.nodup_nil),fun d k=>(by rw [Qwn] at k;cases k)⟩,fun d k=>(by rw [Qwn] at k;cases k)⟩,fun A hA x y k=>?_,nd,fun x hx=>al x hx,lt,fun i p k=>(by cases k),fun i p k=>(by cases k),fun _=>.inl rfl,fun _ k=>k.elim,fun i k=>absurd k (hl i)⟩,fun g f p r _ k=>(by cases k),fun v _ k=>absurd rfl k,fun e k=>absurd k (hl e)⟩
 obtain ⟨i,_,rfl⟩:∃i,i<3*N∧[i]=A:=by simpa [ones] using hA
 have hm:=k.mem
 rw [List.mem_singleton] at hm
 rw [List.mem_singleton] at hm
 rw [hm.1,hm.2]
 exact Qd7 (by rw [Qwn];exact List.not_mem_nil)
end
end Core
end Go.Proofs.YtfeekmmfdkfgmaaGreatDoor
namespace Go.Proofs.YtfeekmmfdkfgmaaGreatDoor
open Go Go.RowKit
namespace Core
set_option linter.ambiguousOpen false
open Seq Cut Web
def V3:Nat→Bool:=upd (upd (upd (fun _=>false) 0 true) 1 true) 2 true
def T1:Nat→List Nat:=lay (fun _=>[]) 0 0 (-1) 1 (-1)
def T2:Nat→List Nat:=lay T1 1 1 1 2 (-1)
section
variable {w₀ w w':World} {b:Bk} {N v x y:Nat} {lv:Nat→Bool} {tl:Nat→List Nat} {q:List (List Nat)} {B D:Nat→Option (Nat × Nat)} {ky:Nat→Int}
theorem Zgw (h:∀e,Laid tl N e→og tl N (2*e)≠v∧og tl N (2*e+1)≠v) (k:GC tl N v y):y=v:=by
 induction k with
 | refl=>rfl
 | step _ k ih=>
  subst ih
  obtain ⟨e,he,⟨k,_⟩ | ⟨k,_⟩⟩:=k
  ·exact absurd k.symm (h e he).1
  ·exact absurd k.symm (h e he).2
theorem Zi9 {e u v:Nat} {be ce:Int} (h0:e<N) (h1:¬Laid tl N e) (h2:k2E lv tl N u be v ce=0) (h3:Lgl tl N u be v ce):jE lv tl N e u be v ce=0:=by
 unfold jE
 rw [if_pos (by omega),Int.toNat_natCast,if_neg h1,if_pos h2,Int.toNat_natCast,Int.toNat_natCast,if_pos h3]
theorem j1:jE V3 (fun _=>[]) 3 (0:Nat) (0:Nat) (-1) (1:Nat) (-1)=0:=
 Zi9 (by omega) (by unfold Laid;decide) (by decide) (.inr fun k=>by
  have:=Zgw (v:=0) (fun e he=>by
   have:∀d,d∉dl (fun _=>[]) 3:=by decide
   exact absurd he (this _)) k
  cases this)
theorem j2:jE V3 T1 3 (1:Nat) (1:Nat) 1 (2:Nat) (-1)=0:=
 Zi9 (by omega) (by unfold Laid;decide) (by decide) (.inr fun k=>by
  have:=Zgw (v:=2) (fun e he=>by
   have:∀d∈dl T1 3,d/2=0:=by decide
   have:=this _ he
   obtain rfl:e=0:=by omega
   decide) (RT.symm (fun x y ⟨e,he,k⟩=>⟨e,he,k.symm.imp And.symm And.symm⟩) k)
  cases this)
theorem j3:jE V3 T2 3 (2:Nat) (2:Nat) 3 (0:Nat) 0=0:=
 Zi9 (by omega) (by unfold Laid;decide) (by decide) (.inl (by
  show PF T2 3 3 0
  have a:PF T2 3 3 1:=RT.one (by decide)
  exact RT.step a (by decide)))
end
section
variable {w₀ w w':World} {b:Bk} {N:Nat} {lv lv':Nat→Bool} {tl tl':Nat→List Nat} {q q':List (List Nat)} {B D B' D':Nat→Option (Nat × Nat)} {ky ky':Nat→Int}
theorem Qwq {d:Int} (h:dE tl N d=0):∃x:Nat,d=x∧x∈dl tl N:=by
 unfold dE at h
 split at h
 ·refine ⟨d.toNat,by omega,?_⟩
  split at h
  ·assumption
  ·cases h
 ·cases h
theorem Zm3 {d:Nat} (hN:d<2*N) (h:d∈dl tl N):dE tl N d=0:=by unfold dE;rw [if_pos (by omega),Int.toNat_natCast,if_pos h]
theorem Zdd {d:Int} (h:GM w.heap b N lv tl q B D ky):Calls Pg 80 #[.pointer (some ⟨b.M,0,none⟩),.int .i64 d] w fun r w'=>∃z:Int,r=.returned (.tuple #[.int .i64 z,errV (dE tl N d)])∧(dE tl N d=0→z=og tl N d.toNat)∧Chg Qaa w w':=by
 refine (Qub _ _).go ?_
 unfold Qnp nr
 refine Qac (fun k=>by cases k) fun _=>pt_i ?_
 rw [Qad]
 refine Qav h.r rfl ?_
 by_cases hd:dE tl N d=0
 ·obtain ⟨x,rfl,hx⟩:=Qwq hd
  refine (Q0k h.t hx).mono ?_
  rintro r w4 ⟨rfl,c⟩
  exact ⟨_,_,rfl,_,by rw [hd],fun _=>by rw [Int.toNat_natCast],c⟩
 ·refine (Qzm h.t hd).mono ?_
  rintro r w4 ⟨rfl,c⟩
  exact ⟨_,_,rfl,_,rfl,fun j=>absurd j hd,c⟩
end
end Core
end Go.Proofs.YtfeekmmfdkfgmaaGreatDoor
