/-
Asks of a map's faces (layer 16's program).
Conditions: those that each theorem states.
-/
import Derived.Test.YtpmicakdjhoafaaGreatDoorGCoreE
import Derived.Test.YtpmicakdjhoafaaGreatDoorGRefC
import Derived.Test.YtpmicakdjhoafaaGreatDoorGLawC
set_option linter.unusedVariables false
set_option linter.unusedSimpArgs false
namespace Go.Proofs.YtpmicakdjhoafaaGreatDoor
open Go Go.RowKit
namespace Core
open Go.Proofs.YtpmicakdjhoafaaGreatDoor.Seq Go.Proofs.YtpmicakdjhoafaaGreatDoor.Cut Go.Proofs.YtpmicakdjhoafaaGreatDoor.Web
section
variable {w₀ w w':World} {b:Bk} {N d x y:Nat} {lv:Nat→Bool} {tl:Nat→List Nat} {q:List (List Nat)} {B D:Nat→Option (Nat × Nat)} {ky:Nat→Int} {L L':List Nat}
def itp (tl:Nat→List Nat) (N d:Nat):Nat→Nat
 | 0=>d
 | i+1=>ph tl N (itp tl N d i)
theorem Orb.at' (h:Orb tl N d L):∀i,i<L.length→L[i]?=some (itp tl N d i)
 | 0,_=>by rw [←List.head?_eq_getElem?];exact h.h
 | i+1,hi=>by
  have ih:=h.at' i (by omega)
  have e:=List.getElem?_eq_getElem hi
  rw [e]
  have:=h.c _ _ (.inl (nx_of ih e))
  rw [←this];rfl
theorem Orb.back (h:Orb tl N d L):itp tl N d L.length=d:=by
 have hp:0<L.length:=by
  cases L with
  | nil=>cases h.h
  | cons a l=>simp
 obtain ⟨m,hm⟩:∃m,L.length=m+1:=⟨L.length-1,by omega⟩
 rw [hm]
 show ph tl N (itp tl N d m)=d
 refine h.c _ _ (.inr ⟨?_,h.h⟩)
 rw [List.getLast?_eq_getElem?,hm,Nat.add_sub_cancel]
 exact h.at' m (by omega)
theorem Orb.le (h:Orb tl N d L) (h':Orb tl N d L'):L'.length≤L.length:=by
 rcases Nat.lt_or_ge L.length L'.length with k | k
 ·exfalso
  have h1:=h'.at' _ k
  rw [h.back] at h1
  have h2:=h'.at' 0 (by omega)
  have hp:0<L.length:=by
   cases L with
   | nil=>cases h.h
   | cons a l=>simp
  have:=(List.getElem?_inj k h'.n (j:=0)).1 (by rw [h1,h2];rfl)
  omega
 ·exact k
theorem Orb.uniq (h:Orb tl N d L) (h':Orb tl N d L'):L=L':=by
 have hl:L.length=L'.length:=Nat.le_antisymm (h'.le h) (h.le h')
 refine List.ext_getElem? fun i=>?_
 rcases Nat.lt_or_ge i L.length with k | k
 ·rw [h.at' i k,h'.at' i (by omega)]
 ·rw [List.getElem?_eq_none k,List.getElem?_eq_none (by omega)]
variable {A p s:List Nat} {lim:Nat→Prop}
theorem CB.orbA (h:CB lim N tl q B D) (hd:d∈dl tl N) (hA:p++d::s∈q):Orb tl N d (d::(s++p)):=by
 have hn:(d::(s++p)).Nodup:=by
  have h1:=(List.perm_cons_erase hA).flatten.nodup_iff.1 h.nd
  rw [List.flatten_cons] at h1
  have:=(List.perm_append_comm (l₁:=p) (l₂:=d::s)).nodup_iff.1 (List.nodup_append.1 h1).1
  simpa using this
 refine ⟨rfl,hn,fun x hx=>Classical.byContradiction fun k=>?_,fun u v k=>h.fq _ hA u v (Qq3.2 (by simpa using k))⟩
 have:=h.alone k (LK.sf (x:=d) ⟨_,hA,List.mem_append_right _ List.mem_cons_self,Core.Qf6.2 hx⟩)
 exact k (this ▸ hd)
theorem x_Face {d:Int} (h:GM w.heap b N lv tl q B D ky):Calls Pg Qhe #[.pointer (some ⟨b.M,0,none⟩),.int .i64 d] w fun r w'=>∃L ob oc,r=.returned (.tuple #[.slice ob L.length oc,errV (dE tl N d)])∧VA w' ob L.length 1 (ivs L)∧Okb (fun k=>k<w.heap.size) L.length ob∧GS w w' b N lv tl q B D ky∧(dE tl N d=0→Orb tl N d.toNat L)∧(dE tl N d≠0→L=[])∧L.length≤oc:=by
 refine (Qrw _ _ _ (fun v' w'=>∃L ob oc,v'=.tuple #[.slice ob L.length oc,errV (dE tl N d)]∧VA w' ob L.length 1 (ivs L)∧Okb (fun k=>k<w.heap.size) L.length ob∧GS w w' b N lv tl q B D ky∧(dE tl N d=0→Orb tl N d.toNat L)∧(dE tl N d≠0→L=[])∧L.length≤oc) ?_).mono (by rintro r w' ⟨v,rfl,L,ob,oc,rfl,j⟩;exact ⟨L,ob,oc,rfl,j⟩)
 unfold Qn9
 refine (Qy2 h).mono ?_
 rintro r w3 ⟨rfl,c3⟩
 have g3:=h.nob c3
 have s3:=c3.size
 refine ⟨_,rfl,Qan (fun k=>⟨[],none,0,rfl,VA.zero,fun g hg=>by simp at hg,g3,fun j=>absurd j k,fun _=>rfl,Nat.le_refl _⟩) (fun k=>pt_i ?_)⟩
 obtain ⟨x,rfl,hx⟩:=Qta k
 have hlt:=h.cb.mp.lt x hx
 have hx0:=g3.a.toMR.x
 obtain ⟨A,q0,hp,hA⟩:=hx0.w.a.a.find (x:=x) (by omega)
 obtain ⟨p,s,rfl⟩:=List.append_of_mem hA
 rw [Qaf]
 refine Qa7 hx0.r rfl ((w_Walk (hx0.w.perm hp)).mono ?_)
 rintro e w4 ⟨ob,oc,rfl,own,ws⟩
 have xs:=hx0.web (ws.perm hp.symm)
 have hl:(p++x::s).length=(x::(s++p)).length:=by simp;omega
 rw [hl] at own ⊢
 refine ⟨_,_,_,_,rfl,x::(s++p),ob,oc,by rw [k],VA.Qj9 own,fun g hg e k=>?_,g3.trans (g3.a.xs xs),fun _=>?_,fun j=>absurd k j,own.cap.1⟩
 ·have:=(own.Qfb e).1;omega
 ·rw [Int.toNat_natCast];exact h.cb.orbA hx (hp.mem_iff.2 (by simp))
end
end Core
end Go.Proofs.YtpmicakdjhoafaaGreatDoor
