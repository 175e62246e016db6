/-
A map with one place more: what is the same.
Conditions: those that each theorem states.
-/
import Derived.Test.YtpmicakdjhoafaaGreatDoorGLawC
set_option linter.unusedVariables false
set_option linter.unusedSimpArgs false
namespace Go.Proofs.YtpmicakdjhoafaaGreatDoor
open Go Go.RowKit
namespace Core
open Go.Proofs.YtpmicakdjhoafaaGreatDoor.Seq Go.Proofs.YtpmicakdjhoafaaGreatDoor.Cut Go.Proofs.YtpmicakdjhoafaaGreatDoor.Web
section
variable {N d e u v x y:Nat} {be ce:Int} {lv:Nat→Bool} {tl:Nat→List Nat} {q:List (List Nat)} {B D:Nat→Option (Nat × Nat)} {lim:Nat→Prop}
theorem dl_up (h:tl N=[]):dl tl (N+1)=dl tl N:=by
 unfold dl;rw [List.range_succ,List.flatMap_append];simp [h]
theorem og_up (h:tl N=[]):og tl (N+1) d=og tl N d:=by
 unfold og
 rw [List.range_succ,List.find?_append]
 have:[N].find? (fun v=>decide (d∈tl v))=none:=by simp [h]
 rw [this,Option.or_none]
theorem sg_up (h:tl N=[]):sg tl (N+1) d=sg tl N d:=by unfold sg;rw [dl_up h,og_up h]
theorem ph_up (h:tl N=[]):ph tl (N+1) d=ph tl N d:=by unfold ph;rw [dl_up h,sg_up h]
theorem Qmg (h:tl N=[]):Laid tl (N+1) e↔Laid tl N e:=by unfold Laid;rw [dl_up h]
theorem lift_up (h:tl N=[]):lift tl (N+1) e=lift tl N e:=by unfold lift;rw [og_up h,og_up h]
theorem gc_up (h:tl N=[]):GC tl (N+1) x y↔GC tl N x y:=by
 have:(fun x y=>∃e,Laid tl (N+1) e∧((x=og tl (N+1) (2*e)∧y=og tl (N+1) (2*e+1))∨(x=og tl (N+1) (2*e+1)∧y=og tl (N+1) (2*e))))=fun x y=>∃e,Laid tl N e∧((x=og tl N (2*e)∧y=og tl N (2*e+1))∨(x=og tl N (2*e+1)∧y=og tl N (2*e))):=by
  funext x y
  simp only [Qmg h,og_up h]
 unfold GC;rw [this]
theorem pf_up (h:tl N=[]):PF tl (N+1) x y↔PF tl N x y:=by
 have:(fun x y=>y=ph tl (N+1) x)=fun x y=>y=ph tl N x:=by funext x y;rw [ph_up h]
 unfold PF;rw [this]
theorem Qzo (h:x∉dl tl N):PF tl N x y↔y=x:=by
 constructor
 ·intro k
  induction k with
  | refl=>rfl
  | step _ k ih=>subst ih;rw [k,Qd3 h]
 ·rintro rfl;exact .refl
theorem pf_back (hM:MP N tl) (h:y∉dl tl N) (k:PF tl N x y):x=y:=by
 induction k with
 | refl=>rfl
 | @step x y _ k ih=>
  by_cases hx:x∈dl tl N
  ·rw [k] at h;exact absurd (hM.Qvf hx) h
  ·rw [k,Qd3 hx];exact ih hx
theorem lgl_up (hM:MP N tl) (h:tl N=[]) (hu:u<N) (hv:v<N) (hcu:Cn tl u be) (hcv:Cn tl v ce):Lgl tl (N+1) u be v ce↔Lgl tl N u be v ce:=by
 unfold Lgl
 rw [gc_up h,pf_up h]
 have big:∀{z:Nat},2*N≤z→z∉dl tl N:=fun {z} hz k=>by have:=hM.lt z k;omega
 have sgm:∀{x s:Nat},x<N→s∈tl x→sg tl N s∈dl tl N:=fun {x s} hx hs=>(hM.Qeo (Qbq.2 ⟨x,hx,hs⟩)).1
 have key:PF tl N (itm' tl (N+1) u be) (itm' tl (N+1) v ce)↔PF tl N (itm' tl N u be) (itm' tl N v ce):=by
  unfold itm'
  by_cases h1:be=-1
  ·rw [if_pos h1,if_pos h1,Qzo (big (by omega)),Qzo (big (by omega))]
   by_cases h2:ce=-1
   ·rw [if_pos h2,if_pos h2];omega
   ·rw [if_neg h2,if_neg h2,sg_up h]
    rcases hcv with ⟨k,_⟩ | ⟨s,hs,rfl⟩
    ·exact absurd k h2
    ·rw [Int.toNat_natCast]
     have:=hM.lt _ (sgm hv hs)
     omega
  ·rw [if_neg h1,if_neg h1,sg_up h]
   by_cases h2:ce=-1
   ·rw [if_pos h2,if_pos h2]
    rcases hcu with ⟨k,_⟩ | ⟨s,hs,rfl⟩
    ·exact absurd k h1
    ·rw [Int.toNat_natCast]
     have:=hM.lt _ (sgm hu hs)
     constructor
     ·intro k;have:=pf_back hM (big (by omega)) k;omega
     ·intro k;have:=pf_back hM (big (by omega)) k;omega
   ·rw [if_neg h2,if_neg h2,sg_up h]
 rw [key]
theorem MP.down (hM:MP (N+1) tl) (h:tl N=[]) (hl:∀e,Laid tl N e→e<N):MP N tl:=by
 have e:=dl_up h
 refine ⟨⟨by rw [←e];exact hM.nd,fun d hd=>?_⟩,fun d hd=>by rw [←e] at hd ⊢;exact hM.tw d hd⟩
 have:=hl _ ((Qmg h).1 (hM.laid (by rw [e];exact hd)))
 omega
theorem Qwk {p:List Nat→Bool}:∀q:List (List Nat),(q.filter p).flatten.Sublist q.flatten
 | []=>List.Sublist.refl _
 | a::q=>by
  by_cases h:p a=true
  ·rw [List.filter_cons_of_pos h,List.flatten_cons,List.flatten_cons]
   exact (List.Sublist.refl a).append (Qwk q)
  ·rw [List.filter_cons_of_neg h,List.flatten_cons]
   exact (Qwk q).trans (List.sublist_append_right a _)
theorem CB.down (cb:CB lim (N+1) tl q B D) (h:tl N=[]) (hl:∀e,Laid tl N e→e<N):∃q',CB lim N tl q' B D:=by
 have e:=dl_up h
 have hM:=cb.mp.down h hl
 refine ⟨(q.filter fun A=>A.all fun x=>decide (x∈dl tl N))++((List.range (3*N)).filter fun x=>decide (x∉dl tl N)).map fun x=>[x],hM,fun A hA x y k=>?_,?_,fun x hx=>?_,fun x hx=>?_,fun i p k=>?_,fun i p k=>?_,cb.ex,cb.li,fun i hi=>cb.cov i ((Qmg h).2 hi)⟩
 ·rcases List.mem_append.1 hA with hA | hA
  ·rw [←ph_up h];exact cb.fq A (List.mem_filter.1 hA).1 x y k
  ·obtain ⟨z,hz,rfl⟩:=List.mem_map.1 hA
   have hz:=of_decide_eq_true (List.mem_filter.1 hz).2
   have hm:=k.mem
   rw [List.mem_singleton,List.mem_singleton] at hm
   rw [hm.1,hm.2,Qd3 hz]
 ·rw [List.flatten_append,List.nodup_append]
  refine ⟨cb.nd.sublist (Qwk _),?_,fun a ha c hc hac=>?_⟩
  ·rw [←List.flatMap_def,List.flatMap_singleton']
   exact List.nodup_range.filter _
  ·subst hac
   obtain ⟨A,hA,ha⟩:=List.mem_flatten.1 ha
   have h1:=of_decide_eq_true (List.all_eq_true.1 (List.mem_filter.1 hA).2 a ha)
   rw [←List.flatMap_def,List.flatMap_singleton'] at hc
   exact of_decide_eq_true (List.mem_filter.1 hc).2 h1
 ·by_cases hd:x∈dl tl N
  ·obtain ⟨A,hA,hxA⟩:=cb.al x (by omega)
   refine ⟨A,List.mem_append_left _ (List.mem_filter.2 ⟨hA,List.all_eq_true.2 fun y hy=>decide_eq_true (Classical.byContradiction fun hy2=>?_)⟩),hxA⟩
   have:=cb.alone (x:=y) (by rw [e];exact hy2) (LK.sf ⟨A,hA,hxA,hy⟩)
   exact hy2 (this ▸ hd)
  ·exact ⟨[x],List.mem_append_right _ (List.mem_map.2 ⟨x,List.mem_filter.2 ⟨List.mem_range.2 hx,decide_eq_true hd⟩,rfl⟩),List.mem_singleton.2 rfl⟩
 ·rw [List.flatten_append,List.mem_append] at hx
  rcases hx with hx | hx
  ·obtain ⟨A,hA,ha⟩:=List.mem_flatten.1 hx
   have h1:=of_decide_eq_true (List.all_eq_true.1 (List.mem_filter.1 hA).2 x ha)
   have:=hM.lt x h1
   omega
  ·rw [←List.flatMap_def,List.flatMap_singleton'] at hx
   exact List.mem_range.1 (List.mem_filter.1 hx).1
 ·obtain ⟨k1,k2,k3⟩:=cb.bB i p k
  rw [og_up h,og_up h] at k2
  exact ⟨(Qmg h).1 k1,k2,k3⟩
 ·obtain ⟨k1,k2⟩:=cb.bD i p k
  exact ⟨(Qmg h).1 k1,k2⟩
end
end Core
end Go.Proofs.YtpmicakdjhoafaaGreatDoor
