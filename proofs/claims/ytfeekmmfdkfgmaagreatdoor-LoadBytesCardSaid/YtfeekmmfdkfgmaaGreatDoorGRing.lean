/-
The cycles of layer 5 over the sequences of layer 4; Go's slices.Index and slices.Concat.
Conditions: those that each theorem states.
-/
import Derived.Test.YtfeekmmfdkfgmaaGreatDoorGLaw
import Derived.Test.YtfeekmmfdkfgmaaGreatDoorGRef
import Derived.Test.YtfeekmmfdkfgmaaGreatDoorHsh
import Derived.Lib.AppendZeros
import Derived.Deep.Upon
set_option linter.unusedVariables false
set_option linter.unusedSimpArgs false
namespace Go.Proofs.YtfeekmmfdkfgmaaGreatDoor
open Go Go.RowKit
namespace Seq
structure AR (h:Array Obj) (R F L n:Nat) (v:Nat→Int) (q:List (List Nat)):Prop where
 r:Row h R 349 [.pointer (some ⟨F,0,none⟩)]
 a:AF h F L n v q
 nF:R≠F
 nL:R≠L
structure RS (w₀ w:World) (R F L n:Nat) (v:Nat→Int) (q:List (List Nat)):Prop where
 s:AS w₀ w F L n v q
 r:Row w.heap R 349 [.pointer (some ⟨F,0,none⟩)]
 nF:R≠F
 nL:R≠L
section
variable {w₀ w w':World} {R F L n a b x:Nat} {v v':Nat→Int} {q q':List (List Nat)} {A B pre post pra poa prb pob:List Nat}
theorem RS.ar (h:RS w₀ w R F L n v q):AR w.heap R F L n v q:=⟨h.r,h.s.af,h.nF,h.nL⟩
theorem RS.chg (h:RS w₀ w R F L n v q):Chg (·=L) w₀ w:=h.s.chg
theorem AR.rs (h:AR w.heap R F L n v q) (k:AS w w' F L n v' q'):RS w w' R F L n v' q':=⟨k,k.chg.row (fun e=>h.nL e) h.r,h.nF,h.nL⟩
theorem RS.trans (h:RS w₀ w R F L n v q) (k:RS w w' R F L n v' q'):RS w₀ w' R F L n v' q':=⟨h.s.trans k.s,k.r,k.nF,k.nL⟩
theorem RS.as (h:RS w₀ w R F L n v q) (k:AS w w' F L n v' q'):RS w₀ w' R F L n v' q':=h.trans (h.ar.rs k)
theorem AR.perm {h:Array Obj} (k:AR h R F L n v q) (p:q.Perm q'):AR h R F L n v q':=⟨k.r,k.a.perm p,k.nF,k.nL⟩
theorem RS.perm (k:RS w₀ w R F L n v q) (p:q.Perm q'):RS w₀ w R F L n v q':=⟨k.s.perm p,k.r,k.nF,k.nL⟩
theorem RS.drew (k:RS w₀ w R F L n v q):RS w₀ w.drew R F L n v q:=⟨k.s.drew,k.r,k.nF,k.nL⟩
theorem AR.keep (h:AR w.heap R F L n v q) {S:Nat→Prop} (c:Chg S w w') (hR:¬S R) (hF:¬S F) (hL:¬S L):AR w'.heap R F L n v q:=⟨c.row hR h.r,h.a.keep c hF hL,h.nF,h.nL⟩
theorem Qqp (h:Row w.heap R 349 [.pointer (some ⟨F,0,none⟩)]):Calls Pg 240 #[.pointer (some ⟨R,0,none⟩)] w fun e w'=>e=.returned (.pointer (some ⟨F,0,none⟩))∧w'=w:=by
 refine (Qjw _).go ?_
 unfold Qho nr
 exact Qac (fun h=>by cases h) (fun _=>pt_i (Qav h rfl ⟨rfl,rfl⟩))
theorem Qyp (h:AR w.heap R F L n v (A::B::q)) (ha:a∈A) (hb:b∈B) :
  Calls Pg 204 #[.pointer (some ⟨R,0,none⟩),.int .i64 a,.int .i64 b] w fun e w'=>e=.returned (.tuple #[.bool false,errV 0])∧RS w w' R F L n v (A::B::q):=by
 refine (Qdt _ _ _).go ?_
 unfold Qdi nr
 refine (Qqp h.r).mono ?_
 rintro e w4 ⟨rfl,rfl⟩
 refine ⟨_,rfl,(Zcu h.a ha hb).mono ?_⟩
 rintro e w8 ⟨rfl,has⟩
 exact ⟨_,_,rfl,rfl,h.rs has⟩
theorem Zf1 (h:AR w.heap R F L n v (A::q)) (hx:x∈A) :
  Calls Pg 181 #[.pointer (some ⟨R,0,none⟩),.int .i64 x] w fun e w'=>e=.returned (.tuple #[.int .i64 A.length,errV 0])∧RS w w' R F L n v (A::q):=by
 refine (Qgg _ _).go ?_
 unfold Qfl nr
 refine (Qqp h.r).mono ?_
 rintro e w4 ⟨rfl,rfl⟩
 refine ⟨_,rfl,(Zmf h.a hx).mono ?_⟩
 rintro e w8 ⟨rfl,has⟩
 exact ⟨_,_,rfl,rfl,h.rs has⟩
theorem Q0m {y:Nat} {A':List Nat} (h:AR w.heap R F L n v ((y::A')::q)) (hx:x∈y::A') :
  Calls Pg 262 #[.pointer (some ⟨R,0,none⟩),.int .i64 x] w fun e w'=>e=.returned (.tuple #[.int .i64 y,errV 0])∧RS w w' R F L n v ((y::A')::q):=by
 refine (Qeq _ _).go ?_
 unfold Qee nr
 refine (Qqp h.r).mono ?_
 rintro e w4 ⟨rfl,rfl⟩
 refine ⟨_,rfl,(c_At h.a hx (i:=0) (by omega)).mono ?_⟩
 rintro e w8 ⟨⟨z,hz⟩,has⟩
 rcases hz with ⟨_,h2,rfl⟩ | ⟨h1,_⟩
 ·simp at h2;subst h2
  exact ⟨_,_,rfl,rfl,h.rs has⟩
 ·exact absurd ⟨by omega,by simp⟩ h1
theorem AR.bds (h:AR w.heap R F L n v (A::q)):A.Nodup∧(∀x∈A,x<n)∧A.length≤n∧n≤8388608∧A≠[]:=by
 obtain ⟨h1,h2,h3,_,h5,_⟩:=h.a.nodup
 simp only [List.flatten_cons,List.nodup_append] at h1
 exact ⟨h1.1,h2 A (by simp),Qbh h1.1 (h2 A (by simp)),h5,h3 A (by simp)⟩
theorem Zag {by_:Int} {i k y:Nat} (h:AR w.heap R F L n v (A::q)) (hx:A[i]?=some x) (hb:by_=1∨by_=-1) (hk:A[k]?=some y) (hik:(k:Int)=Int.tmod ((i:Int)+by_+A.length) A.length) :
  Calls Pg 264 #[.pointer (some ⟨R,0,none⟩),.int .i64 x,.int .i64 by_] w fun e w'=>e=.returned (.tuple #[.int .i64 y,errV 0])∧RS w w' R F L n v (A::q):=by
 obtain ⟨b1,b2,b3,b4,b5⟩:=h.bds
 have hxA:=List.mem_of_getElem? hx
 have hi:=(List.getElem?_eq_some_iff.1 hx).1
 have hkl:=(List.getElem?_eq_some_iff.1 hk).1
 refine (Qfe _ _ _).go ?_
 unfold Qeu nr
 refine (Zf1 h hxA).mono ?_
 rintro e w5 ⟨rfl,hrs⟩
 refine ⟨_,_,rfl,Qaj (fun e=>absurd rfl e) (fun _=>?_)⟩
 refine pt_i (Qav hrs.r rfl ?_)
 have hsplit:A=A.take i++x::A.drop (i+1):=by
  conv=>lhs;rw [←List.take_append_drop i A]
  congr 1
  rw [List.drop_eq_getElem_cons hi]
  congr 1
  exact (List.getElem?_eq_some_iff.1 hx).2
 have hrank:=Zmg (w:=w5) (F:=F) (L:=L) (n:=n) (v:=v) (x:=x) (pre:=A.take i) (post:=A.drop (i+1)) (q:=q) (by rw [←hsplit];exact hrs.ar.a)
 rw [←hsplit] at hrank
 refine hrank.mono ?_
 rintro e w11 ⟨rfl,has⟩
 have hrs:=hrs.as has
 refine ⟨_,_,rfl,Qaj (fun e=>absurd rfl e) (fun _=>?_)⟩
 refine pt_i (Qav hrs.r rfl ?_)
 have hle:((A.take i).length:Int)=i:=by rw [List.length_take];omega
 rw [hle,wrap64_in (x:=(i:Int)+by_) (by omega) (by omega),wrap64_in (x:=(i:Int)+by_+(A.length:Int)) (by omega) (by omega),←hik]
 refine ⟨by omega,?_⟩
 refine (c_At hrs.drew.ar.a hxA (i:=(k:Int)) (by omega)).mono ?_
 rintro e w17 ⟨⟨z,hz⟩,has⟩
 rcases hz with ⟨_,h2,rfl⟩ | ⟨h1,_⟩
 ·have:(k:Int).toNat=k:=by omega
  rw [this,hk] at h2
  injection h2 with h2
  subst h2
  exact ⟨_,_,rfl,rfl,hrs.drew.as has⟩
 ·exact absurd ⟨by omega,by omega⟩ h1
theorem Q3y {i k y:Nat} (h:AR w.heap R F L n v (A::q)) (hx:A[i]?=some x) (hk:i=if k+1=A.length then 0 else k+1) (hy:A[k]?=some y) :
  Calls Pg 220 #[.pointer (some ⟨R,0,none⟩),.int .i64 x] w fun e w'=>e=.returned (.tuple #[.int .i64 y,errV 0])∧RS w w' R F L n v (A::q):=by
 refine (Qjx _ _).go ?_
 unfold Qhp nr
 have hi:=(List.getElem?_eq_some_iff.1 hx).1
 have hkl:=(List.getElem?_eq_some_iff.1 hy).1
 refine (Zag h hx (.inr rfl) hy ?_).mono ?_
 ·rw [Int.tmod_eq_emod_of_nonneg (by omega)]
  split at hk
  ·subst hk
   rw [Int.emod_eq_of_lt (by omega) (by omega)];omega
  ·have:(i:Int)+-1+A.length=k+A.length*1:=by omega
   rw [this,Int.add_mul_emod_self_left,Int.emod_eq_of_lt (by omega) (by omega)]
 ·rintro e w5 ⟨rfl,hrs⟩
  exact ⟨_,_,rfl,rfl,hrs⟩
theorem Q3x (h:AR w.heap R F L n v ((pre++x::post)::q)) :
  Calls Pg 263 #[.pointer (some ⟨R,0,none⟩),.int .i64 x] w fun e w'=>e=.returned (errV 0)∧RS w w' R F L n v ((x::post++pre)::q):=by
 obtain ⟨b1,b2,b3,b4,b5⟩:=h.bds
 refine (Qff _ _).go ?_
 unfold Qev nr
 cases pre with
 | nil=>
  refine (Q0m (y:=x) (A':=post) (x:=x) h (by simp)).mono ?_
  rintro e w4 ⟨rfl,hrs⟩
  refine ⟨_,_,rfl,Qaj (fun e=>absurd rfl e) (fun _=>?_)⟩
  refine Qac (fun _=>⟨rfl,by simpa using hrs⟩) (fun h=>?_)
  simp at h
 | cons y pre=>
  refine (Q0m (y:=y) (A':=pre++x::post) (x:=x) h (by simp)).mono ?_
  rintro e w4 ⟨rfl,hrs⟩
  refine ⟨_,_,rfl,Qaj (fun e=>absurd rfl e) (fun _=>?_)⟩
  have hyx:y≠x:=by
   rintro rfl
   simp at b1
  refine Qac (fun h=>?_) (fun _=>?_)
  ·simp only [b1s] at h;omega
  refine pt_i (Qav hrs.r rfl ?_)
  refine (Q18 (pre:=y::pre) (post:=post) hrs.ar.a (by simp)).mono ?_
  rintro e w10 ⟨rfl,has⟩
  have hrs:=hrs.as has
  refine ⟨_,_,rfl,Qaj (fun e=>absurd rfl e) (fun _=>?_)⟩
  refine pt_i (Qav hrs.r rfl ?_)
  have hrs:=hrs.perm (List.Perm.swap _ _ _)
  refine (Zcv (a:=x) (b:=y) hrs.ar.a (by simp) (by simp)).mono ?_
  rintro e w16 ⟨rfl,has⟩
  exact ⟨_,rfl,rfl,hrs.as has⟩
theorem Zd1 (h:AR w.heap R F L n v ((pra++a::poa)::(prb++b::pob)::q)) :
  Calls Pg 221 #[.pointer (some ⟨R,0,none⟩),.int .i64 a,.int .i64 b] w fun e w'=>e=.returned (errV 0)∧RS w w' R F L n v (((a::poa++pra)++(b::pob++prb))::q):=by
 refine (Qdc _ _ _).go ?_
 unfold Qc4 nr
 refine (Qyp h (by simp) (by simp)).mono ?_
 rintro e w4 ⟨rfl,hrs⟩
 refine ⟨_,_,rfl,Qaj (fun e=>absurd rfl e) (fun _=>?_)⟩
 refine Qac (fun h=>by cases h) (fun _=>?_)
 refine (Q3x hrs.ar).mono ?_
 rintro e w8 ⟨rfl,hrs2⟩
 have hrs:=(hrs.trans hrs2).perm (List.Perm.swap _ _ _)
 refine ⟨_,rfl,Qaj (fun e=>absurd rfl e) (fun _=>?_)⟩
 refine (Q3x hrs.ar).mono ?_
 rintro e w11 ⟨rfl,hrs2⟩
 have hrs:=(hrs.trans hrs2).perm (List.Perm.swap _ _ _)
 refine ⟨_,rfl,Qaj (fun e=>absurd rfl e) (fun _=>?_)⟩
 refine pt_i (Qav hrs.r rfl ?_)
 refine (Zcv (a:=a) (b:=b) hrs.ar.a (by simp) (by simp)).mono ?_
 rintro e w16 ⟨rfl,has⟩
 exact ⟨_,rfl,rfl,hrs.as has⟩
theorem Zkx {n:Nat} (h1:1≤n) (hn:n≤8388608) :
  Calls Pg 197 #[.int .i64 n] w fun e w'=>∃R F L,e=.returned (.tuple #[.pointer (some ⟨R,0,none⟩),errV 0])∧Chg Qaa w w'∧w.heap.size≤R∧w.heap.size≤F∧w.heap.size≤L∧AR w'.heap R F L n (fun _=>0) (ones n):=by
 refine (Qv5 _).go ?_
 unfold Qwf nr
 refine (Ze6 h1 hn).mono ?_
 rintro e w3 ⟨F,L,rfl,hc,hF,hL,ha⟩
 refine ⟨_,_,rfl,Qaj (fun e=>absurd rfl e) (fun _=>?_)⟩
 refine Qal fun hrow=>?_
 have hlt:=ha.lt
 exact ⟨w3.heap.size,F,L,rfl,hc.alloc _,hc.size,hF,hL,hrow,ha.alloc _,by omega,by omega⟩
end
end Seq
end Go.Proofs.YtfeekmmfdkfgmaaGreatDoor
