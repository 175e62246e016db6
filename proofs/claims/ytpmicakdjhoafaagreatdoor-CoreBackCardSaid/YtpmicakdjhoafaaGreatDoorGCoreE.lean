/-
Which edges are marked, in plain words: sums apart, an edge less or greater than all, one answer.
Conditions: those that each theorem states.
-/
import Derived.Test.YtpmicakdjhoafaaGreatDoorGCoreC
set_option linter.unusedVariables false
set_option linter.unusedSimpArgs false
namespace Go.Proofs.YtpmicakdjhoafaaGreatDoor
open Go Go.RowKit
namespace Core
open Go.Proofs.YtpmicakdjhoafaaGreatDoor.Seq Go.Proofs.YtpmicakdjhoafaaGreatDoor.Cut Go.Proofs.YtpmicakdjhoafaaGreatDoor.Web
section
variable {w₀ w w':World} {b b':Bk} {N m e f a c x y u v:Nat} {lv lv':Nat→Bool} {tl:Nat→List Nat} {q q':List (List Nat)} {B D B' D':Nat→Option (Nat × Nat)} {ky:Nat→Int} {P:Nat→Nat→Prop} {h0 h1:Array Obj}
theorem Qy7 {α:Type} (s:Nat→α) {i j:Nat} (x y:α) (h:i≠j):upd (upd s i x) j y=upd (upd s j y) i x:=by
 funext k
 by_cases h1:k=i
 ·subst h1;rw [Qak _ _ h,Qab,Qab]
 ·by_cases h2:k=j
  ·subst h2;rw [Qab,Qak _ _ h1,Qab]
  ·rw [Qak _ _ h2,Qak _ _ h1,Qak _ _ h1,Qak _ _ h2]
theorem FO.less (h:FO q D):FO q (upd D m none):=by
 intro e a b he hl
 obtain ⟨hne,he⟩:=Qdq he
 rw [Qy7 _ _ _ (Ne.symm hne)] at hl
 exact h e a b he hl.less
theorem sepP (pr:∀x,P x x) (ps:∀x y,P x y→P y x) (pt:∀x y z,P x y→P y z→P x z) (pq:∀x y,SF q x y→P x y) :
  ∀(m:Nat) (D:Nat→Option (Nat × Nat)) (a b:Nat),(∀i,m≤i→D i=none)→FO q D→LK q D a b→¬P a b→∃f u v,D f=some (u,v)∧¬LK q (upd D f none) a b∧¬P u v:=by
 intro m
 induction m with
 | zero=>
  intro D a b hD _ hl hp
  exfalso
  apply hp
  clear hp
  induction hl with
  | refl=>exact pr _
  | step _ k ih=>
   rcases k with k | ⟨i,k | k⟩
   ·exact pt _ _ _ ih (pq _ _ k)
   ·rw [hD i (Nat.zero_le _)] at k;cases k
   ·rw [hD i (Nat.zero_le _)] at k;cases k
 | succ m ih=>
  intro D a b hD hF hl hp
  cases hm:D m with
  | none=>exact ih D a b (fun i hi=>by
    rcases Nat.lt_or_ge m i with k | k
    ·exact hD i k
    ·obtain rfl:i=m:=by omega
     exact hm) hF hl hp
  | some p=>
   obtain ⟨u,v⟩:=p
   have hD':∀i,m≤i→upd D m none i=none:=fun i hi=>by
    by_cases k:i=m
    ·rw [k,Qab]
    ·rw [Qak _ _ k];exact hD i (by omega)
   have huv:=hF m u v hm
   have up:∀{a' b':Nat},¬P a' b'→LK q (upd D m none) a' b'→(∀f,f≠m→¬LK q (upd (upd D m none) f none) a' b'→LK q (upd D f none) a b→False)→∃f u v,D f=some (u,v)∧¬LK q (upd D f none) a b∧¬P u v:=fun {a' b'} h1 h2 h3=>by
    obtain ⟨f,x,y,k1,k2,k3⟩:=ih (upd D m none) a' b' hD' hF.less h2 h1
    obtain ⟨hf,k1⟩:=Qdq k1
    exact ⟨f,x,y,k1,fun k=>h3 f hf k2 k,k3⟩
   have back:∀{f:Nat},f≠m→LK q (upd D f none) a b→LK q (upd (upd D m none) f none) a b∨(LK q (upd (upd D m none) f none) a u∧LK q (upd (upd D m none) f none) v b)∨(LK q (upd (upd D m none) f none) a v∧LK q (upd (upd D m none) f none) u b):=fun {f} hf k=>by
    have hm':upd D f none m=some (u,v):=by rw [Qak _ _ (Ne.symm hf)];exact hm
    have:=(Qs4 hm').1 k
    rwa [Qy7 _ _ _ hf] at this
   by_cases hl':LK q (upd D m none) a b
   ·refine up hp hl' fun f hf k1 k2=>?_
    rcases back hf k2 with k | ⟨k,j⟩ | ⟨k,j⟩
    ·exact k1 k
    ·exact huv ((k.less.symm.trans hl').trans j.less.symm)
    ·exact huv ((j.less.trans hl'.symm).trans k.less)
   ·by_cases hpu:P u v
    ·rcases (Qs4 hm).1 hl with k | ⟨k,j⟩ | ⟨k,j⟩
     ·exact absurd k hl'
     ·by_cases h1:P a u
      ·have h2:¬P v b:=fun k2=>hp (pt _ _ _ h1 (pt _ _ _ hpu k2))
       refine up h2 j fun f hf k1 k2=>?_
       rcases back hf k2 with i | ⟨i,i'⟩ | ⟨i,i'⟩
       ·exact hl' i.less
       ·exact k1 i'
       ·exact hl' (k.trans i'.less)
      ·refine up h1 k fun f hf k1 k2=>?_
       rcases back hf k2 with i | ⟨i,i'⟩ | ⟨i,i'⟩
       ·exact hl' i.less
       ·exact k1 i
       ·exact hl' (i.less.trans j)
     ·by_cases h1:P a v
      ·have h2:¬P u b:=fun k2=>hp (pt _ _ _ h1 (pt _ _ _ (ps _ _ hpu) k2))
       refine up h2 j fun f hf k1 k2=>?_
       rcases back hf k2 with i | ⟨i,i'⟩ | ⟨i,i'⟩
       ·exact hl' i.less
       ·exact hl' (k.trans i'.less)
       ·exact k1 i'
      ·refine up h1 k fun f hf k1 k2=>?_
       rcases back hf k2 with i | ⟨i,i'⟩ | ⟨i,i'⟩
       ·exact hl' i.less
       ·exact hl' (i.less.trans j)
       ·exact k1 i
    ·exact ⟨m,u,v,hm,hl',hpu⟩
theorem GM.bN (h:GM h0 b N lv tl q B D ky) (i:Nat) (hi:N≤i):B i=none:=by
 cases k:B i with
 | none=>rfl
 | some p=>have:=h.cb.mp.Qcb (h.cb.bB i p k).1;omega
theorem GM.cj' {h0:Array Obj} (h:GM h0 b N lv tl q B D ky):CJ (fun _=>False) N tl q B D:=(GM.cj (w:={(default:World) with heap:=h0}) h)
theorem GM.tied (h:GM h0 b N lv tl q B D ky) (hl:Laid tl N e) (hB:B e=none):D e=some (2*e,2*e+1):=by
 cases k:D e with
 | none => rcases h.cb.cov e hl with j | j | j
           · exact j.elim
           · rw [hB] at j;cases j
           · rw [k] at j;cases j
 | some p=>rw [(h.cb.bD e p k).2]
end
end Core
end Go.Proofs.YtpmicakdjhoafaaGreatDoor
namespace Go.Proofs.YtpmicakdjhoafaaGreatDoor
open Go Go.RowKit
namespace Core
open Go.Proofs.YtpmicakdjhoafaaGreatDoor.Seq Go.Proofs.YtpmicakdjhoafaaGreatDoor.Cut Go.Proofs.YtpmicakdjhoafaaGreatDoor.Web
section
variable {N n m e f a c x y u v:Nat} {be ce:Int} {lv:Nat→Bool} {tl:Nat→List Nat} {q:List (List Nat)} {B D:Nat→Option (Nat × Nat)} {P P':Nat→Nat→Prop} {S S':Nat→Prop}
theorem Qvl:∀{l:List Nat},a∉l→(ins be a l).filter (·≠a)=l
 | [],_=>by simp [ins]
 | x::l,h=>by
  have hx:x≠a:=fun k=>h (by simp [k])
  have hl:a∉l:=fun k=>h (by simp [k])
  have hf:l.filter (·≠a)=l:=List.filter_eq_self.2 fun y hy=>by
   simp only [decide_eq_true_eq];rintro rfl;exact hl hy
  unfold ins
  split
  ·rw [List.filter_cons_of_pos (by simpa using hx),List.filter_cons_of_neg (by simp),hf]
  ·rw [List.filter_cons_of_pos (by simpa using hx),Qvl hl]
theorem Qxg (h:a∉tl v):lift1 (put1 tl v be a) v a=tl:=by
 unfold lift1 put1
 rw [Qab,Qvl h,Qoi,Qp5]
theorem lift_lay (hM:MP N tl) (he:¬Laid tl N e) (heN:e<N) (hu:u<N) (hv:v<N):lift (lay tl e u be v ce) N e=tl:=by
 unfold lift
 rw [hM.Qq1 he heN hu hv,hM.Qq1 he heN hu hv,if_pos rfl,if_neg (by omega),if_pos rfl]
 unfold lay
 have hn:∀{d:Nat},d/2=e→∀{x},x<N→d∉tl x:=fun {d} hd {x} hx k=>he (by
  have:=hM.laid (Qbq.2 ⟨x,hx,k⟩)
  rwa [hd] at this)
 rw [Qxg,Qxg]
 ·exact hn (by omega) hu
 ·unfold put1
  by_cases h:v=u
  ·subst h
   rw [Qab]
   intro k
   rcases List.mem_cons.1 (Qh8.mem_iff.1 k) with k | k
   ·omega
   ·exact hn (by omega) hv k
  ·rw [Qak _ _ h];exact hn (by omega) hv
theorem Qsb {Q:Nat→Prop} (h:Q x):∃y,y≤x∧Q y∧∀z,z<y→¬Q z:=by
 induction x using Nat.strongRecOn with
 | ind x ih=>
  by_cases k:∃z,z<x∧Q z
  ·obtain ⟨z,hz,k⟩:=k
   obtain ⟨y,h1,h2,h3⟩:=ih z hz k
   exact ⟨y,by omega,h2,h3⟩
  ·exact ⟨x,Nat.le_refl _,h,fun z hz j=>k ⟨z,hz,j⟩⟩
variable {b:Bk} {ky:Nat→Int} {h0:Array Obj}
end
end Core
end Go.Proofs.YtpmicakdjhoafaaGreatDoor
