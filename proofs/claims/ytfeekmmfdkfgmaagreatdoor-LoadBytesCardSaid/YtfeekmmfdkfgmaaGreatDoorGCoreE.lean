/-
Which edges are marked, in plain words: sums apart, an edge less or greater than all, one answer.
Conditions: those that each theorem states.
-/
import Derived.Test.YtfeekmmfdkfgmaaGreatDoorGCoreC
set_option linter.unusedVariables false
set_option linter.unusedSimpArgs false
namespace Go.Proofs.YtfeekmmfdkfgmaaGreatDoor
open Go Go.RowKit
namespace Core
set_option linter.ambiguousOpen false
open Seq Cut Web
section
variable {w₀ w w':World} {b b':Bk} {N m e f a c x y u v:Nat} {lv lv':Nat→Bool} {tl:Nat→List Nat} {q q':List (List Nat)} {B D B' D':Nat→Option (Nat × Nat)} {ky:Nat→Int} {P:Nat→Nat→Prop} {h0 h1:Array Obj}
theorem Q7a {α:Type} (s:Nat→α) {i j:Nat} (x y:α) (h:i≠j):upd (upd s i x) j y=upd (upd s j y) i x:=by
 funext k
 by_cases h1:k=i
 ·subst h1;rw [Qag _ _ h,Qab,Qab]
 ·by_cases h2:k=j
  ·subst h2;rw [Qab,Qag _ _ h1,Qab]
  ·rw [Qag _ _ h2,Qag _ _ h1,Qag _ _ h1,Qag _ _ h2]
theorem FO.less (h:FO q D):FO q (upd D m none):=by
 intro e a b he hl
 obtain ⟨hne,he⟩:=Qb3 he
 rw [Q7a _ _ _ (Ne.symm hne)] at hl
 exact h e a b he hl.less
end
section
variable {N n m e f a c x y u v:Nat} {be ce:Int} {lv:Nat→Bool} {tl:Nat→List Nat} {q:List (List Nat)} {B D:Nat→Option (Nat × Nat)} {P P':Nat→Nat→Prop} {S S':Nat→Prop}
noncomputable def bl (p:Prop):Bool:=@decide p (Classical.propDecidable p)
theorem Qc8 {p:Prop}:bl p=true↔p:=by unfold bl;exact @decide_eq_true_iff p (Classical.propDecidable p)
noncomputable def cl (P:Nat→Nat→Prop) (S:Nat→Prop) (n:Nat):Nat:=((List.range n).filter fun x=>bl (S x∧∀y,y<x→S y→¬P x y)).length
theorem Qyv {α β:Type} [DecidableEq β] (φ:α→β):∀{l1:List α} {l2:List β},l1.Nodup→(∀x∈l1,φ x∈l2)→(∀x∈l1,∀y∈l1,φ x=φ y→x=y)→l1.length≤l2.length
 | [],_,_,_,_=>Nat.zero_le _
 | x::l1,l2,h1,h2,h3=>by
  have hx:=h2 x List.mem_cons_self
  obtain ⟨h4,h5⟩:=List.nodup_cons.1 h1
  have:=Qyv φ (l1:=l1) (l2:=l2.erase (φ x)) h5 (fun y hy=>(List.mem_erase_of_ne (fun k=>h4 (by
   have:=h3 y (List.mem_cons_of_mem _ hy) x List.mem_cons_self k
   rwa [this] at hy))).2 (h2 y (List.mem_cons_of_mem _ hy))) fun y hy z hz=>h3 y (List.mem_cons_of_mem _ hy) z (List.mem_cons_of_mem _ hz)
  rw [List.length_erase_of_mem hx] at this
  have hl:0<l2.length:=List.length_pos_of_mem hx
  simp only [List.length_cons];omega
theorem Qla {Q:Nat→Prop} (h:Q x):∃y,y≤x∧Q y∧∀z,z<y→¬Q z:=by
 induction x using Nat.strongRecOn with
 | ind x ih=>
  by_cases k:∃z,z<x∧Q z
  ·obtain ⟨z,hz,k⟩:=k
   obtain ⟨y,h1,h2,h3⟩:=ih z hz k
   exact ⟨y,by omega,h2,h3⟩
  ·exact ⟨x,Nat.le_refl _,h,fun z hz j=>k ⟨z,hz,j⟩⟩
theorem Qu0 {p:Nat→Bool}:∀{l:List Nat},l.Nodup→a∈l→p a=true→(l.filter p).length=(l.filter fun x=>p x&&decide (x≠a)).length+1
 | [],_,h,_=>by cases h
 | x::l,h1,h2,h3=>by
  obtain ⟨h4,h5⟩:=List.nodup_cons.1 h1
  rcases List.mem_cons.1 h2 with rfl | h2
  ·rw [List.filter_cons_of_pos h3,List.filter_cons_of_neg (by simp)]
   have:l.filter (fun x=>p x&&decide (x≠a))=l.filter p:=List.filter_congr fun y hy=>by
    have:y≠a:=by rintro rfl;exact h4 hy
    simp [this]
   rw [this];rfl
  ·have hx:x≠a:=by rintro rfl;exact h4 h2
   have ih:=Qu0 h5 h2 h3
   by_cases hp:p x=true
   ·rw [List.filter_cons_of_pos hp,List.filter_cons_of_pos (by simp [hp,hx])]
    simp only [List.length_cons];omega
   ·rw [List.filter_cons_of_neg hp,List.filter_cons_of_neg (by simp [hp])];exact ih
theorem Zcq (pr:∀x,P x x) (ps:∀x y,P x y→P y x) (pt:∀x y z,P x y→P y z→P x z) (hu:u<n) (hv:v<n) (su:S u) (sv:S v) (hn:¬P u v) (h:∀x y,P' x y↔P x y∨(P x u∧P v y)∨(P x v∧P u y)):cl P S n=cl P' S n+1:=by
 classical
 obtain ⟨a,a1,⟨a0,a2⟩,a3⟩:=Qla (Q:=fun z=>S z∧P u z) ⟨su,pr u⟩
 obtain ⟨c,c1,⟨c0,c2⟩,c3⟩:=Qla (Q:=fun z=>S z∧P v z) ⟨sv,pr v⟩
 have hac:a≠c:=by rintro rfl;exact hn (pt _ _ _ a2 (ps _ _ c2))
 have key:∀{u v a c:Nat},(∀x y,P' x y↔P x y∨(P x u∧P v y)∨(P x v∧P u y))→S a→P u a→(∀z,z<a→¬(S z∧P u z))→S c→P v c→(∀z,z<c→¬(S z∧P v z))→c<n→a<c→cl P S n=cl P' S n+1:=fun {u v a c} h a0 a2 a3 c0 c2 c3 hc hlt=>by
  have hp:∀x,S x→((∀y,y<x→S y→¬P' x y)↔(∀y,y<x→S y→¬P x y)∧x≠c):=fun x sx=>by
   constructor
   ·intro k
    refine ⟨fun y hy sy j=>k y hy sy ((h _ _).2 (.inl j)),?_⟩
    rintro rfl
    exact k a hlt a0 ((h _ _).2 (.inr (.inr ⟨ps _ _ c2,a2⟩)))
   ·rintro ⟨k,hx⟩ y hy sy j
    rcases (h _ _).1 j with j | ⟨j,i⟩ | ⟨j,i⟩
    ·exact k y hy sy j
    ·have h1:x=a:=by
      rcases Nat.lt_trichotomy x a with l | l | l
      ·exact absurd ⟨sx,ps _ _ j⟩ (a3 x l)
      ·exact l
      ·exact absurd (pt _ _ _ j a2) (k a l a0)
     have:¬y<c:=fun l=>c3 y l ⟨sy,i⟩
     omega
    ·have h1:x=c:=by
      rcases Nat.lt_trichotomy x c with l | l | l
      ·exact absurd ⟨sx,ps _ _ j⟩ (c3 x l)
      ·exact l
      ·exact absurd (pt _ _ _ j c2) (k c l c0)
     exact hx h1
  unfold cl
  rw [Qu0 List.nodup_range (List.mem_range.2 hc) (Qc8.2 ⟨c0,fun y hy sy j=>c3 y hy ⟨sy,pt _ _ _ c2 j⟩⟩)]
  congr 2
  refine List.filter_congr fun x _=>?_
  rw [Bool.eq_iff_iff,Bool.and_eq_true,decide_eq_true_iff,Qc8,Qc8]
  constructor
  ·rintro ⟨⟨sx,k⟩,hx⟩;exact ⟨sx,(hp x sx).2 ⟨k,hx⟩⟩
  ·rintro ⟨sx,k⟩;obtain ⟨k1,k2⟩:=(hp x sx).1 k;exact ⟨⟨sx,k1⟩,k2⟩
 rcases Nat.lt_or_gt_of_ne hac with k | k
 ·exact key h a0 a2 a3 c0 c2 c3 (by omega) k
 ·exact key (u:=v) (v:=u) (fun x y=>by rw [h];exact ⟨fun i=>i.elim .inl fun i=>.inr i.symm,fun i=>i.elim .inl fun i=>.inr i.symm⟩) c0 c2 c3 a0 a2 a3 (by omega) k
theorem Qy3:∀(m:Nat) (D:Nat→Option (Nat × Nat)),(∀i,m≤i→D i=none)→FO q D→(∀i u v,D i=some (u,v)→(u<n∧S u)∧v<n∧S v)→(cl (LK q fun _=>none) S n:Int)=cl (LK q D) S n+cB D m
 | 0,D,hD,_,_=>by
  have:D=fun _=>none:=funext fun i=>hD i (Nat.zero_le _)
  subst this
  simp [cB,sm]
 | m+1,D,hD,hF,hl=>by
  cases hm:D m with
  | none=>
   have:=Qy3 m D (fun i hi=>by
    rcases Nat.lt_or_ge m i with k | k
    ·exact hD i k
    ·obtain rfl:i=m:=by omega
     exact hm) hF hl
   rw [this];simp [cB,sm,hm]
  | some p=>
   obtain ⟨u,v⟩:=p
   have h1:=Qy3 m (upd D m none) (fun i hi=>by
    by_cases k:i=m
    ·rw [k,Qab]
    ·rw [Qag _ _ k];exact hD i (by omega)) hF.less fun i u v k=>hl i u v (Qb3 k).2
   obtain ⟨⟨hu,su⟩,hv,sv⟩:=hl m u v hm
   have h2:=Zcq (P:=LK q (upd D m none)) (P':=LK q D) (fun _=>LK.refl) (fun _ _=>LK.symm) (fun _ _ _=>LK.trans) hu hv su sv (hF m u v hm) fun x y=>Qsv hm
   have h3:cB (upd D m none) m=cB D m:=Qfi fun i hi=>by rw [Qag _ _ (by omega)]
   rw [h1,h2,h3]
   simp only [cB,sm,hm]
   simp;omega
theorem Q8q (h:∀x y,S x→S y→P x y→x=y):cl P S n=((List.range n).filter fun x=>bl (S x)).length:=by
 unfold cl
 congr 1
 refine List.filter_congr fun x _=>?_
 rw [Bool.eq_iff_iff,Qc8,Qc8]
 exact ⟨fun k=>k.1,fun k=>⟨k,fun y hy sy j=>by have:=h x y k sy j;omega⟩⟩
theorem Q1j:LK [] (fun _=>none) x y→x=y:=fun h=>by
 induction h with
 | refl=>rfl
 | step _ k ih=>
  rcases k with ⟨_,k,_⟩ | ⟨_,k | k⟩
  ·cases k
  ·cases k
  ·cases k
variable {b:Bk} {ky:Nat→Int} {h0:Array Obj}
theorem Q1l {p:Nat→Bool}:∀n:Nat,(((List.range n).filter p).length:Int)=sm (fun x=>if p x then 1 else 0) n
 | 0=>rfl
 | n+1=>by
  have:=Q1l (p:=p) n
  rw [List.range_succ,List.filter_append,List.length_append]
  unfold sm
  rw [←this]
  by_cases h:p n=true
  ·rw [List.filter_cons_of_pos h,if_pos h];simp
  ·rw [List.filter_cons_of_neg h,if_neg h];simp
theorem Q3q {f g:Nat→Int}:∀n:Nat,sm f n+sm g n=sm (fun i=>f i+g i) n
 | 0=>rfl
 | n+1=>by unfold sm;rw [←Q3q n];omega
end
end Core
end Go.Proofs.YtfeekmmfdkfgmaaGreatDoor
