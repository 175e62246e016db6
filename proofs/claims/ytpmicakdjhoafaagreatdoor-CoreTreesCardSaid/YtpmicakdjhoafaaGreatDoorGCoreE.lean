/-
Which edges are marked, in plain words: sums apart, an edge less or greater than all, one answer.
Conditions: those that each theorem states.
-/
import Derived.Test.YtpmicakdjhoafaaGreatDoorGCoreC
set_option linter.unusedVariables false
set_option linter.unusedSimpArgs false
namespace Go.Proofs.YtpmicakdjhoafaaGreatDoor
open Go Go.RowKit
namespace Core
open Go.Proofs.YtpmicakdjhoafaaGreatDoor.Seq Go.Proofs.YtpmicakdjhoafaaGreatDoor.Cut Go.Proofs.YtpmicakdjhoafaaGreatDoor.Web
section
variable {w₀ w w':World} {b b':Bk} {N m e f a c x y u v:Nat} {lv lv':Nat→Bool} {tl:Nat→List Nat} {q q':List (List Nat)} {B D B' D':Nat→Option (Nat × Nat)} {ky:Nat→Int} {P:Nat→Nat→Prop} {h0 h1:Array Obj}
theorem Qyp {α:Type} (s:Nat→α) {i j:Nat} (x y:α) (h:i≠j):upd (upd s i x) j y=upd (upd s j y) i x:=by
 funext k
 by_cases h1:k=i
 ·subst h1;rw [Qai _ _ h,Qab,Qab]
 ·by_cases h2:k=j
  ·subst h2;rw [Qab,Qai _ _ h1,Qab]
  ·rw [Qai _ _ h2,Qai _ _ h1,Qai _ _ h1,Qai _ _ h2]
theorem FO.less (h:FO q D):FO q (upd D m none):=by
 intro e a b he hl
 obtain ⟨hne,he⟩:=Qdt he
 rw [Qyp _ _ _ (Ne.symm hne)] at hl
 exact h e a b he hl.less
theorem sepP (pr:∀x,P x x) (ps:∀x y,P x y→P y x) (pt:∀x y z,P x y→P y z→P x z) (pq:∀x y,SF q x y→P x y) :
  ∀(m:Nat) (D:Nat→Option (Nat × Nat)) (a b:Nat),(∀i,m≤i→D i=none)→FO q D→LK q D a b→¬P a b→∃f u v,D f=some (u,v)∧¬LK q (upd D f none) a b∧¬P u v:=by
 intro m
 induction m with
 | zero=>
  intro D a b hD _ hl hp
  exfalso
  apply hp
  clear hp
  induction hl with
  | refl=>exact pr _
  | step _ k ih=>
   rcases k with k | ⟨i,k | k⟩
   ·exact pt _ _ _ ih (pq _ _ k)
   ·rw [hD i (Nat.zero_le _)] at k;cases k
   ·rw [hD i (Nat.zero_le _)] at k;cases k
 | succ m ih=>
  intro D a b hD hF hl hp
  cases hm:D m with
  | none=>exact ih D a b (fun i hi=>by
    rcases Nat.lt_or_ge m i with k | k
    ·exact hD i k
    ·obtain rfl:i=m:=by omega
     exact hm) hF hl hp
  | some p=>
   obtain ⟨u,v⟩:=p
   have hD':∀i,m≤i→upd D m none i=none:=fun i hi=>by
    by_cases k:i=m
    ·rw [k,Qab]
    ·rw [Qai _ _ k];exact hD i (by omega)
   have huv:=hF m u v hm
   have up:∀{a' b':Nat},¬P a' b'→LK q (upd D m none) a' b'→(∀f,f≠m→¬LK q (upd (upd D m none) f none) a' b'→LK q (upd D f none) a b→False)→∃f u v,D f=some (u,v)∧¬LK q (upd D f none) a b∧¬P u v:=fun {a' b'} h1 h2 h3=>by
    obtain ⟨f,x,y,k1,k2,k3⟩:=ih (upd D m none) a' b' hD' hF.less h2 h1
    obtain ⟨hf,k1⟩:=Qdt k1
    exact ⟨f,x,y,k1,fun k=>h3 f hf k2 k,k3⟩
   have back:∀{f:Nat},f≠m→LK q (upd D f none) a b→LK q (upd (upd D m none) f none) a b∨(LK q (upd (upd D m none) f none) a u∧LK q (upd (upd D m none) f none) v b)∨(LK q (upd (upd D m none) f none) a v∧LK q (upd (upd D m none) f none) u b):=fun {f} hf k=>by
    have hm':upd D f none m=some (u,v):=by rw [Qai _ _ (Ne.symm hf)];exact hm
    have:=(Qsl hm').1 k
    rwa [Qyp _ _ _ hf] at this
   by_cases hl':LK q (upd D m none) a b
   ·refine up hp hl' fun f hf k1 k2=>?_
    rcases back hf k2 with k | ⟨k,j⟩ | ⟨k,j⟩
    ·exact k1 k
    ·exact huv ((k.less.symm.trans hl').trans j.less.symm)
    ·exact huv ((j.less.trans hl'.symm).trans k.less)
   ·by_cases hpu:P u v
    ·rcases (Qsl hm).1 hl with k | ⟨k,j⟩ | ⟨k,j⟩
     ·exact absurd k hl'
     ·by_cases h1:P a u
      ·have h2:¬P v b:=fun k2=>hp (pt _ _ _ h1 (pt _ _ _ hpu k2))
       refine up h2 j fun f hf k1 k2=>?_
       rcases back hf k2 with i | ⟨i,i'⟩ | ⟨i,i'⟩
       ·exact hl' i.less
       ·exact k1 i'
       ·exact hl' (k.trans i'.less)
      ·refine up h1 k fun f hf k1 k2=>?_
       rcases back hf k2 with i | ⟨i,i'⟩ | ⟨i,i'⟩
       ·exact hl' i.less
       ·exact k1 i
       ·exact hl' (i.less.trans j)
     ·by_cases h1:P a v
      ·have h2:¬P u b:=fun k2=>hp (pt _ _ _ h1 (pt _ _ _ (ps _ _ hpu) k2))
       refine up h2 j fun f hf k1 k2=>?_
       rcases back hf k2 with i | ⟨i,i'⟩ | ⟨i,i'⟩
       ·exact hl' i.less
       ·exact hl' (k.trans i'.less)
       ·exact k1 i'
      ·refine up h1 k fun f hf k1 k2=>?_
       rcases back hf k2 with i | ⟨i,i'⟩ | ⟨i,i'⟩
       ·exact hl' i.less
       ·exact hl' (i.less.trans j)
       ·exact k1 i
    ·exact ⟨m,u,v,hm,hl',hpu⟩
theorem GM.bN (h:GM h0 b N lv tl q B D ky) (i:Nat) (hi:N≤i):B i=none:=by
 cases k:B i with
 | none=>rfl
 | some p=>have:=h.cb.mp.Qbv (h.cb.bB i p k).1;omega
theorem GM.dN (h:GM h0 b N lv tl q B D ky) (i:Nat) (hi:N≤i):D i=none:=by
 cases k:D i with
 | none=>rfl
 | some p=>have:=h.cb.mp.Qbv (h.cb.bD i p k).1;omega
theorem GM.cj' {h0:Array Obj} (h:GM h0 b N lv tl q B D ky):CJ (fun _=>False) N tl q B D:=(GM.cj (w:={(default:World) with heap:=h0}) h)
theorem GM.tied (h:GM h0 b N lv tl q B D ky) (hl:Laid tl N e) (hB:B e=none):D e=some (2*e,2*e+1):=by
 cases k:D e with
 | none => rcases h.cb.cov e hl with j | j | j
           · exact j.elim
           · rw [hB] at j;cases j
           · rw [k] at j;cases j
 | some p=>rw [(h.cb.bD e p k).2]
end
end Core
end Go.Proofs.YtpmicakdjhoafaaGreatDoor
namespace Go.Proofs.YtpmicakdjhoafaaGreatDoor
open Go Go.RowKit
namespace Core
open Go.Proofs.YtpmicakdjhoafaaGreatDoor.Seq Go.Proofs.YtpmicakdjhoafaaGreatDoor.Cut Go.Proofs.YtpmicakdjhoafaaGreatDoor.Web
section
variable {N n m e f a c x y u v:Nat} {be ce:Int} {lv:Nat→Bool} {tl:Nat→List Nat} {q:List (List Nat)} {B D:Nat→Option (Nat × Nat)} {P P':Nat→Nat→Prop} {S S':Nat→Prop}
noncomputable def bl (p:Prop):Bool:=@decide p (Classical.propDecidable p)
theorem Qmp {p:Prop}:bl p=true↔p:=by unfold bl;exact @decide_eq_true_iff p (Classical.propDecidable p)
theorem Qpm {Q:Nat→Prop} (h:Q x):∃y,y≤x∧Q y∧∀z,z<y→¬Q z:=by
 induction x using Nat.strongRecOn with
 | ind x ih=>
  by_cases k:∃z,z<x∧Q z
  ·obtain ⟨z,hz,k⟩:=k
   obtain ⟨y,h1,h2,h3⟩:=ih z hz k
   exact ⟨y,by omega,h2,h3⟩
  ·exact ⟨x,Nat.le_refl _,h,fun z hz j=>k ⟨z,hz,j⟩⟩
theorem Qtz:LK [] (fun _=>none) x y→x=y:=fun h=>by
 induction h with
 | refl=>rfl
 | step _ k ih=>
  rcases k with ⟨_,k,_⟩ | ⟨_,k | k⟩
  ·cases k
  ·cases k
  ·cases k
variable {b:Bk} {ky:Nat→Int} {h0:Array Obj}
theorem GM.Qzy (h:GM h0 b N lv tl q B D ky) (hv:v<N) (hx:x∈tl v) (hy:y∈tl v):LK q D x y:=by
 have hM:=h.cb.mp
 refine RT.bind (E:=Cy (tl v)) (fun s t k=>?_) (cy_rt hx hy)
 have hs:=k.mem.1
 have hsd:=Qbp.2 ⟨v,hv,hs⟩
 have hnd:=(Qtg (f:=tl) (l:=List.range N) hM.nd).1 v (List.mem_range.2 hv)
 have e1:sg tl N s=t:=by
  unfold sg
  rw [if_pos hsd,hM.ogE hv hs]
  exact Qzu hnd k
 have htw:=hM.tw s hsd
 have e2:ph tl N (Core.tw s)=t:=by
  rw [hM.phE htw,show Core.tw (Core.tw s)=s from tw_tw s,e1]
 have hlt:=hM.lt _ htw
 have h1:LK q D s (Core.tw s):=by
  have:=h.cj'.link (hM.laid hsd)
  by_cases h2:s % 2=0
  ·have e:s=2*(s/2):=by omega
   have:Core.tw s=2*(s/2)+1:=by unfold Core.tw;rw [if_pos h2];omega
   rw [this,show LK q D s (2*(s/2)+1)↔LK q D (2*(s/2)) (2*(s/2)+1) by rw [←e]]
   assumption
  ·have e:s=2*(s/2)+1:=by omega
   have:Core.tw s=2*(s/2):=by unfold Core.tw;rw [if_neg h2];omega
   rw [this,show LK q D s (2*(s/2))↔LK q D (2*(s/2)+1) (2*(s/2)) by rw [←e]]
   exact LK.symm (by assumption)
 refine h1.trans (LK.sf ?_)
 rw [←e2]
 exact h.cb.sf_ph (by omega)
theorem org_og (h:MP N tl) (hd:x∈dl tl N):org tl N x=og tl N x:=by
 have:=h.lt _ hd
 unfold org;rw [if_neg (by omega)]
theorem GM.nearD (h:GM h0 b N lv tl q B D ky) (hx:x∈dl tl N) (hy:y∈dl tl N):LK q D x y↔LK [] B (og tl N x) (og tl N y):=by
 have hM:=h.cb.mp
 constructor
 ·intro k
  have:=h.cj'.near k
  rwa [org_og hM hx,org_og hM hy] at this
 ·intro k
  have at':∀{z},z∈dl tl N→z∈tl (og tl N z)∧og tl N z<N:=fun {z} hz=>by
   obtain ⟨v,hv,hz'⟩:=Qbp.1 hz
   rw [hM.ogE hv hz'];exact ⟨hz',hv⟩
  have key:∀{v},LK [] B (og tl N x) v→∀y,y∈dl tl N→og tl N y=v→LK q D x y:=fun {v} k=>by
   induction k with
   | refl=>
    intro y hy e
    have h1:=at' hx
    have h2:=at' hy
    rw [e] at h2
    exact h.Qzy h1.2 h1.1 h2.1
   | @step v z _ k ih=>
    intro y hy e
    have h2:=at' hy
    rw [e] at h2
    rcases k with ⟨_,k,_⟩ | ⟨i,k | k⟩
    ·cases k
    ·obtain ⟨hl,k,_⟩:=h.cb.bB i _ k
     cases k
     have h3:=at' (hM.odd hl)
     exact ((ih _ hl rfl).trans (h.cj'.link hl)).trans (h.Qzy h2.2 h3.1 h2.1)
    ·obtain ⟨hl,k,_⟩:=h.cb.bB i _ k
     cases k
     have h3:=at' hl
     exact ((ih _ (hM.odd hl) rfl).trans (h.cj'.link hl).symm).trans (h.Qzy h2.2 h3.1 h2.1)
  exact key k y hy rfl
end
end Core
end Go.Proofs.YtpmicakdjhoafaaGreatDoor
