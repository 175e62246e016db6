/-
Asks of a map's faces (layer 16's program).
Conditions: those that each theorem states.
-/
import Derived.Test.YtpmicakdjhoafaaGreatDoorGCoreE
import Derived.Test.YtpmicakdjhoafaaGreatDoorGRefC
import Derived.Test.YtpmicakdjhoafaaGreatDoorGLawC
set_option linter.unusedVariables false
set_option linter.unusedSimpArgs false
namespace Go.Proofs.YtpmicakdjhoafaaGreatDoor
open Go Go.RowKit
namespace Core
open Go.Proofs.YtpmicakdjhoafaaGreatDoor.Seq Go.Proofs.YtpmicakdjhoafaaGreatDoor.Cut Go.Proofs.YtpmicakdjhoafaaGreatDoor.Web
section
variable {w₀ w w':World} {b:Bk} {N d x y:Nat} {lv:Nat→Bool} {tl:Nat→List Nat} {q:List (List Nat)} {B D:Nat→Option (Nat × Nat)} {ky:Nat→Int} {L L':List Nat}
def itp (tl:Nat→List Nat) (N d:Nat):Nat→Nat
 | 0=>d
 | i+1=>ph tl N (itp tl N d i)
theorem Orb.at' (h:Orb tl N d L):∀i,i<L.length→L[i]?=some (itp tl N d i)
 | 0,_=>by rw [←List.head?_eq_getElem?];exact h.h
 | i+1,hi=>by
  have ih:=h.at' i (by omega)
  have e:=List.getElem?_eq_getElem hi
  rw [e]
  have:=h.c _ _ (.inl (nx_of ih e))
  rw [←this];rfl
theorem Orb.back (h:Orb tl N d L):itp tl N d L.length=d:=by
 have hp:0<L.length:=by
  cases L with
  | nil=>cases h.h
  | cons a l=>simp
 obtain ⟨m,hm⟩:∃m,L.length=m+1:=⟨L.length-1,by omega⟩
 rw [hm]
 show ph tl N (itp tl N d m)=d
 refine h.c _ _ (.inr ⟨?_,h.h⟩)
 rw [List.getLast?_eq_getElem?,hm,Nat.add_sub_cancel]
 exact h.at' m (by omega)
theorem Orb.le (h:Orb tl N d L) (h':Orb tl N d L'):L'.length≤L.length:=by
 rcases Nat.lt_or_ge L.length L'.length with k | k
 ·exfalso
  have h1:=h'.at' _ k
  rw [h.back] at h1
  have h2:=h'.at' 0 (by omega)
  have hp:0<L.length:=by
   cases L with
   | nil=>cases h.h
   | cons a l=>simp
  have:=(List.getElem?_inj k h'.n (j:=0)).1 (by rw [h1,h2];rfl)
  omega
 ·exact k
theorem Orb.uniq (h:Orb tl N d L) (h':Orb tl N d L'):L=L':=by
 have hl:L.length=L'.length:=Nat.le_antisymm (h'.le h) (h.le h')
 refine List.ext_getElem? fun i=>?_
 rcases Nat.lt_or_ge i L.length with k | k
 ·rw [h.at' i k,h'.at' i (by omega)]
 ·rw [List.getElem?_eq_none k,List.getElem?_eq_none (by omega)]
variable {A p s:List Nat} {lim:Nat→Prop}
theorem CB.orbA (h:CB lim N tl q B D) (hd:d∈dl tl N) (hA:p++d::s∈q):Orb tl N d (d::(s++p)):=by
 have hn:(d::(s++p)).Nodup:=by
  have h1:=(List.perm_cons_erase hA).flatten.nodup_iff.1 h.nd
  rw [List.flatten_cons] at h1
  have:=(List.perm_append_comm (l₁:=p) (l₂:=d::s)).nodup_iff.1 (List.nodup_append.1 h1).1
  simpa using this
 refine ⟨rfl,hn,fun x hx=>Classical.byContradiction fun k=>?_,fun u v k=>h.fq _ hA u v (cy_rot.2 (by simpa using k))⟩
 have:=h.alone k (LK.sf (x:=d) ⟨_,hA,List.mem_append_right _ List.mem_cons_self,Core.Qgd.2 hx⟩)
 exact k (this ▸ hd)
theorem Orb.sf (h:Orb tl N d L) (cb:CB lim N tl q B D) (hd:d<3*N):y∈L↔SF q d y:=by rw [h.pf,cb.pf hd]
theorem x_Face {d:Int} (h:GM w.heap b N lv tl q B D ky):Calls Pg Qfo #[.pointer (some ⟨b.M,0,none⟩),.int .i64 d] w fun r w'=>∃L ob oc,r=.returned (.tuple #[.slice ob L.length oc,errV (dE tl N d)])∧VA w' ob L.length 1 (ivs L)∧Okb (fun k=>k<w.heap.size) L.length ob∧GS w w' b N lv tl q B D ky∧(dE tl N d=0→Orb tl N d.toNat L)∧(dE tl N d≠0→L=[]):=by
 refine (calls_core_Map_Face _ _ _ (fun v' w'=>∃L ob oc,v'=.tuple #[.slice ob L.length oc,errV (dE tl N d)]∧VA w' ob L.length 1 (ivs L)∧Okb (fun k=>k<w.heap.size) L.length ob∧GS w w' b N lv tl q B D ky∧(dE tl N d=0→Orb tl N d.toNat L)∧(dE tl N d≠0→L=[])) ?_).mono (by rintro r w' ⟨v,rfl,L,ob,oc,rfl,j⟩;exact ⟨L,ob,oc,rfl,j⟩)
 unfold sh_core_Map_Face
 refine (x_dart h).mono ?_
 rintro r w3 ⟨rfl,c3⟩
 have g3:=h.nob c3
 have s3:=c3.size
 refine ⟨_,rfl,Qan (fun k=>⟨[],none,0,rfl,VA.zero,fun g hg=>by simp at hg,g3,fun j=>absurd j k,fun _=>rfl⟩) (fun k=>pt_i ?_)⟩
 obtain ⟨x,rfl,hx⟩:=dE_laid k
 have hlt:=h.cb.mp.lt x hx
 have hx0:=g3.a.toMR.x
 obtain ⟨A,q0,hp,hA⟩:=hx0.w.a.a.find (x:=x) (by omega)
 obtain ⟨p,s,rfl⟩:=List.append_of_mem hA
 rw [Qag]
 refine Qba hx0.r rfl ((w_Walk (hx0.w.perm hp)).mono ?_)
 rintro e w4 ⟨ob,oc,rfl,own,ws⟩
 have xs:=hx0.web (ws.perm hp.symm)
 have hl:(p++x::s).length=(x::(s++p)).length:=by simp;omega
 rw [hl] at own ⊢
 refine ⟨_,_,_,_,rfl,x::(s++p),ob,oc,by rw [k],VA.of_own own,fun g hg e k=>?_,g3.trans (g3.a.xs xs),fun _=>?_,fun j=>absurd k j⟩
 ·have:=(own.bk_lt e).1;omega
 ·rw [Int.toNat_natCast];exact h.cb.orbA hx (hp.mem_iff.2 (by simp))
theorem x_FaceLen {d:Int} (h:GM w.heap b N lv tl q B D ky):Calls Pg Qhx #[.pointer (some ⟨b.M,0,none⟩),.int .i64 d] w fun r w'=>∃n:Int,r=.returned (.tuple #[.int .i64 n,errV (dE tl N d)])∧GS w w' b N lv tl q B D ky∧(dE tl N d=0→∀L,Orb tl N d.toNat L→n=L.length)∧(dE tl N d≠0→n=0):=by
 refine (calls_core_Map_FaceLen _ _ _ (fun v' w'=>∃n:Int,v'=.tuple #[.int .i64 n,errV (dE tl N d)]∧GS w w' b N lv tl q B D ky∧(dE tl N d=0→∀L,Orb tl N d.toNat L→n=L.length)∧(dE tl N d≠0→n=0)) ?_).mono (by rintro r w' ⟨v,rfl,n,rfl,j⟩;exact ⟨n,rfl,j⟩)
 unfold sh_core_Map_FaceLen
 refine (x_dart h).mono ?_
 rintro r w3 ⟨rfl,c3⟩
 have g3:=h.nob c3
 refine ⟨_,rfl,Qan (fun k=>⟨0,rfl,g3,fun j=>absurd j k,fun _=>rfl⟩) (fun k=>pt_i ?_)⟩
 obtain ⟨x,rfl,hx⟩:=dE_laid k
 have hlt:=h.cb.mp.lt x hx
 have hx0:=g3.a.toMR.x
 obtain ⟨A,q0,hp,hA⟩:=hx0.w.a.a.find (x:=x) (by omega)
 obtain ⟨p,s,rfl⟩:=List.append_of_mem hA
 rw [Qag]
 refine Qba hx0.r rfl ((w_Len (hx0.w.perm hp) (by simp)).mono ?_)
 rintro e w4 ⟨rfl,ws⟩
 have xs:=hx0.web (ws.perm hp.symm)
 refine ⟨_,_,rfl,_,by rw [k],g3.trans (g3.a.xs xs),fun _ L hL=>?_,fun j=>absurd k j⟩
 rw [Int.toNat_natCast] at hL
 rw [hL.uniq (h.cb.orbA (p:=p) (s:=s) hx (hp.mem_iff.2 (by simp)))]
 simp;omega
theorem x_SameFace {c d:Int} (h:GM w.heap b N lv tl q B D ky):Calls Pg Qhb #[.pointer (some ⟨b.M,0,none⟩),.int .i64 c,.int .i64 d] w fun r w'=>∃z,r=.returned (.tuple #[.bool z,errV (if dE tl N c=0 then dE tl N d else dE tl N c)])∧GS w w' b N lv tl q B D ky∧(dE tl N c=0→dE tl N d=0→(z=true↔SF q c.toNat d.toNat)):=by
 refine (calls_core_Map_SameFace _ _ _ _ (fun v' w'=>∃z,v'=.tuple #[.bool z,errV (if dE tl N c=0 then dE tl N d else dE tl N c)]∧GS w w' b N lv tl q B D ky∧(dE tl N c=0→dE tl N d=0→(z=true↔SF q c.toNat d.toNat))) ?_).mono (by rintro r w' ⟨v,rfl,z,rfl,j⟩;exact ⟨z,rfl,j⟩)
 unfold sh_core_Map_SameFace
 refine (x_dart h).mono ?_
 rintro r w3 ⟨rfl,c3⟩
 have g3:=h.nob c3
 refine ⟨_,rfl,(x_dart g3.a).mono ?_⟩
 rintro r w4 ⟨rfl,c4⟩
 have g4:=g3.trans (g3.a.nob c4)
 refine ⟨_,rfl,first2 fun w5 c5=>?_⟩
 have g5:=g4.trans (g4.a.nob c5)
 by_cases hc:dE tl N c=0
 ·rw [if_pos hc]
  refine Qan (fun k=>⟨_,rfl,g5,fun _ j=>absurd j k⟩) (fun k=>pt_i ?_)
  obtain ⟨x,rfl,hx⟩:=dE_laid hc
  obtain ⟨y,rfl,hy⟩:=dE_laid k
  have h1:=h.cb.mp.lt x hx
  have h2:=h.cb.mp.lt y hy
  have hx0:=g5.a.toMR.x
  rw [Qag]
  refine Qba hx0.r rfl ((f_Same hx0 (by omega) (by omega)).mono ?_)
  rintro r w6 ⟨z,rfl,hz,xs⟩
  exact ⟨_,_,rfl,z,by rw [k],g5.trans (g5.a.xs xs),fun _ _=>by rw [Int.toNat_natCast,Int.toNat_natCast];exact hz⟩
 ·rw [if_neg hc]
  exact Qan (fun k=>⟨_,rfl,g5,fun j=>absurd j hc⟩) (fun k=>absurd k hc)
end
end Core
end Go.Proofs.YtpmicakdjhoafaaGreatDoor
