/-
Maps as lists of darts round vertices, in plain mathematics: how many edges two sets part.
Conditions: those that each theorem states.
-/
import Derived.Test.YtfeekmmfdkfgmaaGreatDoorGWeb
set_option linter.unusedVariables false
set_option linter.unusedSimpArgs false
namespace Go.Proofs.YtfeekmmfdkfgmaaGreatDoor
open Go
namespace Core
set_option linter.ambiguousOpen false
open Seq Cut Web
def tw (d:Nat):Nat:=if d % 2=0 then d+1 else d-1
theorem Q02 (d:Nat):tw (tw d)=d:=by unfold tw;split<;>split<;>omega
theorem Zkk (d:Nat):tw d/2=d/2:=by unfold tw;split<;>omega
theorem Qwc (e:Nat):tw (2*e)=2*e+1:=by unfold tw;rw [if_pos (by omega)]
theorem Q2u (e:Nat):tw (2*e+1)=2*e:=by unfold tw;rw [if_neg (by omega)];omega
def nxt (l:List Nat) (d:Nat):Nat:=match l.idxOf? d with
 | some i=>l.getD ((i+1) % l.length) d
 | none=>d
theorem Zbp {l:List Nat} {d i:Nat} (hn:l.Nodup) (h:l[i]?=some d):l.idxOf? d=some i:=by
 induction l generalizing i with
 | nil=>simp at h
 | cons x l ih=>
  rw [List.idxOf?_cons]
  cases i with
  | zero=>simp at h;subst h;simp
  | succ i=>
   simp at h
   have hne:x≠d:=fun e=>(List.nodup_cons.1 hn).1 (e ▸ List.mem_of_getElem? h)
   have hb:(x==d)=false:=by simpa using hne
   rw [hb,ih (List.nodup_cons.1 hn).2 h];rfl
theorem Q73 {l:List Nat} {d i:Nat} (hn:l.Nodup) (h:l[i]?=some d):nxt l d=l.getD ((i+1) % l.length) d:=by
 unfold nxt;rw [Zbp hn h]
theorem Zir {x:Nat} {l:List Nat} (hn:(x::l).Nodup):(x::l).map (nxt (x::l))=l++[x]:=by
 refine List.ext_getElem? fun i=>?_
 rw [List.getElem?_map]
 by_cases hi:i<(x::l).length
 ·have h1:=List.getElem?_eq_getElem hi
  rw [h1,Option.map_some,Q73 hn h1]
  simp only [List.length_cons] at hi ⊢
  by_cases he:i=l.length
  ·subst he
   rw [Nat.mod_self,List.getElem?_append_right (Nat.le_refl _)]
   simp
  ·rw [Nat.mod_eq_of_lt (by omega),List.getElem?_append_left (by omega)]
   have hil:i<l.length:=by omega
   simp [List.getD_eq_getElem?_getD,List.getElem?_eq_getElem hil]
 ·rw [List.getElem?_eq_none (by omega),List.getElem?_eq_none (by simp at hi ⊢;omega)];rfl
theorem Qsu {l:List Nat} (hn:l.Nodup):(l.map (nxt l)).Perm l:=by
 cases l with
 | nil=>exact List.Perm.refl _
 | cons x l=>
  rw [Zir hn]
  exact (List.perm_append_comm (l₁:=l) (l₂:=[x]))
theorem Qyr {l:List Nat} {d:Nat} (hn:l.Nodup) (h:d∈l):nxt l d∈l:=by
 have:=(Qsu hn).mem_iff (a:=nxt l d)
 exact this.1 (List.mem_map.2 ⟨d,h,rfl⟩)
def dl (tl:Nat→List Nat) (N:Nat):List Nat:=(List.range N).flatMap tl
structure ND (N:Nat) (tl:Nat→List Nat):Prop where
 nd:(dl tl N).Nodup
 lt:∀d∈dl tl N,d<2*N
structure MP (N:Nat) (tl:Nat→List Nat):Prop extends ND N tl where
 tw:∀d∈dl tl N,tw d∈dl tl N
def og (tl:Nat→List Nat) (N d:Nat):Nat:=((List.range N).find? fun v=>decide (d∈tl v)).getD 0
def sg (tl:Nat→List Nat) (N d:Nat):Nat:=if d∈dl tl N then nxt (tl (og tl N d)) d else d
section
variable {N a b d e v z:Nat} {tl:Nat→List Nat} {f g:Nat→Nat}
theorem Qa2:d∈dl tl N↔∃v,v<N∧d∈tl v:=by simp [dl]
theorem Qxx {f:Nat→List Nat}:∀{l:List Nat},(l.flatMap f).Nodup→(∀x∈l,(f x).Nodup)∧∀{x y d:Nat},l.Nodup→x∈l→y∈l→d∈f x→d∈f y→x=y
 | [],_=>⟨fun x h=>(by cases h),fun _ h=>(by cases h)⟩
 | a::l,h=>by
  rw [List.flatMap_cons,List.nodup_append] at h
  obtain ⟨h1,h2,h3⟩:=h
  obtain ⟨h4,h5⟩:=Qxx h2
  refine ⟨fun x hx=>?_,fun {x y d} hl hx hy hdx hdy=>?_⟩
  ·rcases List.mem_cons.1 hx with rfl | hx
   ·exact h1
   ·exact h4 x hx
  ·rw [List.nodup_cons] at hl
   rcases List.mem_cons.1 hx with ex | kx<;>rcases List.mem_cons.1 hy with ey | ky
   ·rw [ex,ey]
   ·subst ex;exact absurd rfl (h3 d hdx d (List.mem_flatMap.2 ⟨y,ky,hdy⟩))
   ·subst ey;exact absurd rfl (h3 d hdy d (List.mem_flatMap.2 ⟨x,kx,hdx⟩))
   ·exact h5 hl.2 kx ky hdx hdy
theorem ND.nodup (h:ND N tl) (hv:v<N):(tl v).Nodup:=(Qxx h.nd).1 v (List.mem_range.2 hv)
theorem ND.uniq {u:Nat} (h:ND N tl) (hu:u<N) (hv:v<N) (h1:d∈tl u) (h2:d∈tl v):u=v:=
 (Qxx h.nd).2 List.nodup_range (List.mem_range.2 hu) (List.mem_range.2 hv) h1 h2
theorem Qbm (hd:d∈dl tl N):og tl N d<N∧d∈tl (og tl N d):=by
 obtain ⟨v,hv,hdv⟩:=Qa2.1 hd
 unfold og
 cases hf:(List.range N).find? fun v=>decide (d∈tl v) with
 | none=>
  rw [List.find?_eq_none] at hf
  exact absurd hdv (by simpa using hf v (List.mem_range.2 hv))
 | some u=>
  have h1:=List.find?_some hf
  have h2:=List.mem_of_find?_eq_some hf
  exact ⟨List.mem_range.1 h2,by simpa using h1⟩
theorem ND.ogE (h:ND N tl) (hv:v<N) (hd:d∈tl v):Core.og tl N d=v:=by
 have:=Qbm (Qa2.2 ⟨v,hv,hd⟩)
 exact h.uniq this.1 hv this.2 hd
theorem ND.sgE (h:ND N tl) (hv:v<N) (hd:d∈tl v):Core.sg tl N d=nxt (tl v) d:=by unfold Core.sg;rw [if_pos (Qa2.2 ⟨v,hv,hd⟩),h.ogE hv hd]
theorem ND.Qcs (h:ND N tl) (hd:d∈dl tl N):Core.sg tl N d∈dl tl N∧Core.og tl N (Core.sg tl N d)=Core.og tl N d:=by
 obtain ⟨h1,h2⟩:=Qbm hd
 have h3:Core.sg tl N d∈tl (Core.og tl N d):=by unfold Core.sg;rw [if_pos hd];exact Qyr (h.nodup h1) h2
 exact ⟨Qa2.2 ⟨_,h1,h3⟩,h.ogE h1 h3⟩
theorem ND.Zac (h:ND N tl):((dl tl N).map (Core.sg tl N)).Perm (dl tl N):=by
 have key:∀l:List Nat,(∀v∈l,v<N)→((l.flatMap tl).map (Core.sg tl N)).Perm (l.flatMap tl):=by
  intro l
  induction l with
  | nil=>intro _;exact List.Perm.refl _
  | cons v l ih=>
   intro hl
   rw [List.flatMap_cons,List.map_append]
   refine List.Perm.append ?_ (ih fun u hu=>hl u (List.mem_cons_of_mem _ hu))
   have hv:=hl v (by simp)
   have e:(tl v).map (Core.sg tl N)=(tl v).map (nxt (tl v)):=List.map_congr_left fun d hd=>h.sgE hv hd
   rw [e]
   exact Qsu (h.nodup hv)
 exact key _ fun v hv=>List.mem_range.1 hv
def Laid (tl:Nat→List Nat) (N e:Nat):Prop:=2*e∈dl tl N
theorem MP.odd (h:MP N tl) (he:Laid tl N e):2*e+1∈dl tl N:=by rw [←Qwc];exact h.tw _ he
theorem MP.laid (h:MP N tl) (hd:d∈dl tl N):Laid tl N (d/2):=by
 by_cases h2:d % 2=0
 ·have:2*(d/2)=d:=by omega
  unfold Laid;rw [this];exact hd
 ·have h3:=h.tw d hd
  unfold Core.tw at h3
  rw [if_neg h2] at h3
  have:2*(d/2)=d-1:=by omega
  unfold Laid;rw [this];exact h3
theorem MP.Qbj (h:MP N tl) (he:Laid tl N e):e<N:=by have:=h.lt _ he;omega
def el (tl:Nat→List Nat) (N:Nat):List Nat:=(List.range N).filter fun e=>decide (2*e∈dl tl N)
theorem MP.Q1i (h:MP N tl):e∈el tl N↔Laid tl N e:=by
 unfold el Laid
 rw [List.mem_filter,List.mem_range,decide_eq_true_iff]
 exact ⟨fun h=>h.2,fun k=>⟨h.Qbj k,k⟩⟩
theorem MP.Zl7:(el tl N).Nodup:=List.Nodup.sublist List.filter_sublist List.nodup_range
theorem MP.Zcb (h:MP N tl):((el tl N).flatMap fun e=>[2*e,2*e+1]).Perm (dl tl N):=by
 refine (List.perm_ext_iff_of_nodup ?_ h.nd).2 fun d=>?_
 ·have:∀l:List Nat,l.Nodup→(l.flatMap fun e=>[2*e,2*e+1]).Nodup:=by
   intro l
   induction l with
   | nil=>intro _;exact List.nodup_nil
   | cons x l ih=>
    intro hn
    rw [List.nodup_cons] at hn
    rw [List.flatMap_cons,List.nodup_append]
    refine ⟨by simp,ih hn.2,fun a ha b hb e=>?_⟩
    subst e
    obtain ⟨y,hy,hay⟩:=List.mem_flatMap.1 hb
    simp at ha hay
    have:x=y:=by omega
    exact hn.1 (this ▸ hy)
  exact this _ MP.Zl7
 ·rw [List.mem_flatMap]
  constructor
  ·rintro ⟨e,he,hd⟩
   have hl:=h.Q1i.1 he
   simp at hd
   rcases hd with rfl | rfl
   ·exact hl
   ·exact h.odd hl
  ·intro hd
   refine ⟨d/2,h.Q1i.2 (h.laid hd),?_⟩
   simp
   omega
def b2n (b:Bool):Nat:=if b then 1 else 0
theorem Zcn {x1 x2 z1 z2:Bool}:∃k,b2n (x1&&z1)+b2n (x2&&z2)+(b2n (x1&&z2)+b2n (x2&&z1))=b2n ((x1 != x2)&&(z1 != z2))+2*k:=by
 cases x1<;>cases x2<;>cases z1<;>cases z2<;>simp [b2n]<;>(try exact ⟨0,rfl⟩)<;>(try exact ⟨1,rfl⟩)<;>exact ⟨2,rfl⟩
theorem MP.par (h:MP N tl) (X Z:Nat→Bool) (hZ:∀d∈dl tl N,Z (Core.sg tl N (Core.tw d))=Z d) :
  ∃k,((el tl N).map fun e=>b2n ((X (Core.og tl N (2*e)) != X (Core.og tl N (2*e+1)))&&(Z (2*e) != Z (2*e+1)))).sum=2*k:=by
 let G:Nat→Nat:=fun d=>b2n (X (Core.og tl N d)&&Z d)
 let H:Nat→Nat:=fun d=>b2n (X (Core.og tl N d)&&Z (Core.tw d))
 have h1:((dl tl N).map H).sum=((dl tl N).map G).sum:=by
  have e1:(dl tl N).map H=((dl tl N).map (Core.sg tl N)).map G:=by
   rw [List.map_map]
   refine List.map_congr_left fun d hd=>?_
   show b2n (X (Core.og tl N d)&&Z (Core.tw d))=b2n (X (Core.og tl N (Core.sg tl N d))&&Z (Core.sg tl N d))
   rw [(h.Qcs hd).2,←hZ (Core.tw d) (h.tw d hd),Q02]
  rw [e1]
  exact (h.Zac.map G).sum_nat
 have h2:∀(F:Nat→Nat),((dl tl N).map F).sum=((el tl N).map fun e=>F (2*e)+F (2*e+1)).sum:=by
  intro F
  rw [←(h.Zcb.map F).sum_nat]
  induction (el tl N) with
  | nil=>rfl
  | cons x l ih=>rw [List.flatMap_cons,List.map_append,List.sum_append_nat,ih];simp
 have h3:∃k,((el tl N).map fun e=>G (2*e)+G (2*e+1)).sum+((el tl N).map fun e=>H (2*e)+H (2*e+1)).sum =
   ((el tl N).map fun e=>b2n ((X (Core.og tl N (2*e)) != X (Core.og tl N (2*e+1)))&&(Z (2*e) != Z (2*e+1)))).sum+2*k:=by
  induction (el tl N) with
  | nil=>exact ⟨0,rfl⟩
  | cons x l ih=>
   obtain ⟨k,hk⟩:=ih
   obtain ⟨k2,hk2⟩:=Zcn (x1:=X (Core.og tl N (2*x))) (x2:=X (Core.og tl N (2*x+1))) (z1:=Z (2*x)) (z2:=Z (2*x+1))
   refine ⟨k+k2,?_⟩
   simp only [List.map_cons,List.sum_cons]
   have e1:H (2*x)=b2n (X (Core.og tl N (2*x))&&Z (2*x+1)):=by show b2n (X _&&Z (Core.tw (2*x)))=_;rw [Qwc]
   have e2:H (2*x+1)=b2n (X (Core.og tl N (2*x+1))&&Z (2*x)):=by show b2n (X _&&Z (Core.tw (2*x+1)))=_;rw [Q2u]
   rw [e1,e2]
   show b2n (X (Core.og tl N (2*x))&&Z (2*x))+b2n (X (Core.og tl N (2*x+1))&&Z (2*x+1))+_+_=_
   omega
 obtain ⟨k,hk⟩:=h3
 rw [←h2 G,←h2 H,h1] at hk
 exact ⟨((dl tl N).map G).sum-k,by omega⟩
theorem MP.cross (h:MP N tl) {X Z:Nat→Prop} (hZ:∀d∈dl tl N,(Z (Core.sg tl N (Core.tw d))↔Z d)) (he:Laid tl N e) (hx:¬(X (Core.og tl N (2*e))↔X (Core.og tl N (2*e+1)))) (hz:¬(Z (2*e)↔Z (2*e+1))) :
  ∃e',e'≠e∧Laid tl N e'∧¬(X (Core.og tl N (2*e'))↔X (Core.og tl N (2*e'+1)))∧¬(Z (2*e')↔Z (2*e'+1)):=by
 classical
 obtain ⟨k,hk⟩:=h.par (fun v=>decide (X v)) (fun d=>decide (Z d)) (fun d hd=>decide_eq_decide.2 (hZ d hd))
 have conv:∀{p q:Prop} [Decidable p] [Decidable q],(decide p != decide q)=true↔¬(p↔q):=by
  intro p q _ _
  by_cases hp:p<;>by_cases hq:q<;>simp [hp,hq]
 have key:∀l:List Nat,l.Nodup→e∈l→(∀e'∈l,e'≠e→¬(((decide (X (Core.og tl N (2*e'))) != decide (X (Core.og tl N (2*e'+1))))&&(decide (Z (2*e')) != decide (Z (2*e'+1))))=true))→
   (l.map fun e=>b2n ((decide (X (Core.og tl N (2*e))) != decide (X (Core.og tl N (2*e+1))))&&(decide (Z (2*e)) != decide (Z (2*e+1))))).sum=1:=by
  intro l
  induction l with
  | nil=>intro _ h;cases h
  | cons x l ih=>
   intro hn hm hall
   rw [List.nodup_cons] at hn
   simp only [List.map_cons,List.sum_cons]
   rcases List.mem_cons.1 hm with rfl | hm
   ·have h0:(l.map fun e=>b2n ((decide (X (Core.og tl N (2*e))) != decide (X (Core.og tl N (2*e+1))))&&(decide (Z (2*e)) != decide (Z (2*e+1))))).sum=0:=by
     have:∀l':List Nat,(∀y∈l',y∈l)→(l'.map fun e=>b2n ((decide (X (Core.og tl N (2*e))) != decide (X (Core.og tl N (2*e+1))))&&(decide (Z (2*e)) != decide (Z (2*e+1))))).sum=0:=by
      intro l'
      induction l' with
      | nil=>intro _;rfl
      | cons y l' ih2=>
       intro hs
       have hy:=hs y (by simp)
       have:=hall y (List.mem_cons_of_mem _ hy) (fun e=>hn.1 (e ▸ hy))
       simp only [List.map_cons,List.sum_cons]
       rw [ih2 fun u hu=>hs u (List.mem_cons_of_mem _ hu)]
       simp only [Bool.not_eq_true] at this
       rw [this];rfl
     exact this l fun y hy=>hy
    rw [h0]
    have:((decide (X (Core.og tl N (2*e))) != decide (X (Core.og tl N (2*e+1))))&&(decide (Z (2*e)) != decide (Z (2*e+1))))=true:=by
     rw [Bool.and_eq_true,conv,conv];exact ⟨hx,hz⟩
    rw [this];rfl
   ·have hxe:x≠e:=fun h=>hn.1 (h ▸ hm)
    have:=hall x (by simp) hxe
    simp only [Bool.not_eq_true] at this
    rw [this,ih hn.2 hm fun e' he'=>hall e' (List.mem_cons_of_mem _ he')];rfl
 refine Classical.byContradiction fun hno=>?_
 have:=key (el tl N) MP.Zl7 (h.Q1i.2 he) (fun e' he' hne hb=>hno ⟨e',hne,h.Q1i.1 he',?_⟩)
 ·rw [this] at hk;omega
 ·rw [Bool.and_eq_true,conv,conv] at hb;exact hb
end
section
variable {a b d e v x y z p:Nat} {A B l:List Nat} {q q':List (List Nat)} {f g:Nat→Nat}
def sw (x y z:Nat):Nat:=if z=x then y else if z=y then x else z
theorem sw_l:sw x y x=y:=by unfold sw;rw [if_pos rfl]
theorem sw_r:sw x y y=x:=by unfold sw;rw [if_pos rfl];split<;>omega
theorem sw_o (h1:z≠x) (h2:z≠y):sw x y z=z:=by unfold sw;rw [if_neg h1,if_neg h2]
theorem Q87:sw x y (sw x y z)=z:=by
 by_cases h1:z=x
 ·rw [h1,sw_l,sw_r]
 ·by_cases h2:z=y
  ·rw [h2,sw_r,sw_l]
  ·rw [sw_o h1 h2,sw_o h1 h2]
theorem Zhs:sw x y z=sw y x z:=by
 by_cases h1:z=x
 ·rw [h1,sw_l,sw_r]
 ·by_cases h2:z=y
  ·rw [h2,sw_r,sw_l]
  ·rw [sw_o h1 h2,sw_o h2 h1]
def Cy (A:List Nat) (x y:Nat):Prop:=Web.Nx A x y∨(A.getLast?=some x∧A.head?=some y)
theorem Cy.mem (h:Cy A x y):x∈A∧y∈A:=by
 rcases h with h | ⟨h1,h2⟩
 ·exact h.mem
 ·exact ⟨List.mem_of_getLast? h1,List.mem_of_head? h2⟩
theorem Zeq (hB:B.head?=some b):(A++B).getLast?=B.getLast?:=by
 cases B with
 | nil=>cases hB
 | cons c B=>rw [List.getLast?_append];rw [List.getLast?_eq_some_getLast (by simp)];rfl
theorem Q8d (hA:A.head?=some a):(A++B).head?=some a:=by rw [List.head?_append,hA];rfl
theorem Qmc (hA:A.head?=some a) (hB:B.head?=some b):Cy (A++B) x y↔(Web.Nx A x y∨(A.getLast?=some x∧y=b))∨(Web.Nx B x y∨(B.getLast?=some x∧y=a)):=by
 unfold Cy
 rw [Web.Nx.append,Zeq hB,Q8d hA,hB]
 simp only [Option.some.injEq]
 constructor
 ·rintro ((h | h | ⟨h,e⟩) | ⟨h,e⟩)
  ·exact .inl (.inl h)
  ·exact .inr (.inl h)
  ·exact .inl (.inr ⟨h,e.symm⟩)
  ·exact .inr (.inr ⟨h,e.symm⟩)
 ·rintro ((h | ⟨h,e⟩) | (h | ⟨h,e⟩))
  ·exact .inl (.inl h)
  ·exact .inl (.inr (.inr ⟨h,e.symm⟩))
  ·exact .inl (.inr (.inl h))
  ·exact .inr ⟨h,e.symm⟩
theorem Qv2:Cy (A++B) x y↔Cy (B++A) x y:=by
 cases A with
 | nil=>simp
 | cons a A=>cases B with
  | nil=>simp
  | cons b B=>rw [Qmc rfl rfl,Qmc rfl rfl,or_comm]
theorem Q6w (h:x∈A):∃y,Cy A x y:=by
 obtain ⟨p,s,rfl⟩:=List.append_of_mem h
 cases s with
 | nil=>
  have:p++[x]≠[]:=by simp
  cases hh:(p++[x]).head? with
  | none=>rw [List.head?_eq_none_iff] at hh;exact absurd hh this
  | some y=>exact ⟨y,.inr ⟨by simp,hh⟩⟩
 | cons y s=>exact ⟨y,.inl (Web.Nx.append.2 (.inr (.inl (Or.inl ⟨rfl,rfl⟩))))⟩
theorem Zie (hn:A.Nodup) (hA:A.head?=some a) (h:Web.Nx A x y):y≠a:=by
 cases A with
 | nil=>cases hA
 | cons c A=>
  simp at hA
  subst hA
  have:y∈A:=by
   rcases h with ⟨_,h⟩ | h
   ·exact List.mem_of_head? h
   ·exact h.mem.2
  rintro rfl
  exact (List.nodup_cons.1 hn).1 this
theorem Zig:∀{A:List Nat},Web.Nx A x y→∃i,A[i]?=some x∧A[i+1]?=some y
 | c::A,.inl h=>⟨0,by simp [h.1],by rw [List.getElem?_cons_succ,←List.head?_eq_getElem?];exact h.2⟩
 | c::A,.inr h=>by obtain ⟨i,h1,h2⟩:=Zig h;exact ⟨i+1,by simpa using h1,by simpa using h2⟩
theorem Qv3 (hn:A.Nodup) (h:Cy A x y):nxt A x=y:=by
 rcases h with h | ⟨h1,h2⟩
 ·obtain ⟨i,h1,h2⟩:=Zig h
  rw [Q73 hn h1,Nat.mod_eq_of_lt (List.getElem?_eq_some_iff.1 h2).1,List.getD_eq_getElem?_getD,h2];rfl
 ·have hne:A≠[]:=by rintro rfl;cases h1
  have hp:0<A.length:=List.length_pos_iff.2 hne
  rw [List.getLast?_eq_getElem?] at h1
  rw [List.head?_eq_getElem?] at h2
  rw [Q73 hn h1,show A.length-1+1=A.length by omega,Nat.mod_self,List.getD_eq_getElem?_getD,h2];rfl
theorem Q21 (hn:A.Nodup) (h:x∈A):Cy A x (nxt A x):=by obtain ⟨y,k⟩:=Q6w h;rw [Qv3 hn k];exact k
def FQ (f:Nat→Nat) (q:List (List Nat)):Prop:=∀A∈q,∀x y,Cy A x y→f x=y
theorem FQ.perm (h:FQ f q) (p:q.Perm q'):FQ f q':=fun A hA=>h A (p.mem_iff.2 hA)
theorem FQ.rot (h:FQ f ((A++B)::q)):FQ f ((B++A)::q):=by
 intro C hC x y k
 rcases List.mem_cons.1 hC with rfl | hC
 ·exact h _ (by simp) x y (Qv2.1 k)
 ·exact h C (by simp [hC]) x y k
theorem FQ.congr (h:FQ f q) (k:∀A∈q,∀x∈A,g x=f x):FQ g q:=fun A hA x y c=>(k A hA x c.mem.1).trans (h A hA x y c)
theorem Q6p:FQ f (A::q)↔(∀x y,Cy A x y→f x=y)∧FQ f q:=
 ⟨fun h=>⟨h A (by simp),fun B hB=>h B (by simp [hB])⟩,fun h B hB=>by rcases List.mem_cons.1 hB with rfl | hB;exact h.1;exact h.2 B hB⟩
theorem Zbx (hA:A.head?=some a) (hB:B.head?=some b) (hd:(A++B).Nodup) :
  (∀x y,Cy (A++B) x y→sw a b (f x)=y)↔((∀x y,Cy A x y→f x=y)∧∀x y,Cy B x y→f x=y):=by
 obtain ⟨hnA,hnB,hAB⟩:=List.nodup_append.1 hd
 have ha:=List.mem_of_head? hA
 have hb:=List.mem_of_head? hB
 have oA:∀{x y},Web.Nx A x y→y≠a∧y≠b:=fun h=>⟨Zie hnA hA h,fun e=>hAB _ h.mem.2 b hb e⟩
 have oB:∀{x y},Web.Nx B x y→y≠a∧y≠b:=fun h=>⟨fun e=>hAB a ha _ h.mem.2 e.symm,Zie hnB hB h⟩
 have inj:∀{u y:Nat},sw a b u=y→u=sw a b y:=fun h=>by rw [←h,Q87]
 constructor
 ·intro h
  refine ⟨fun x y k=>?_,fun x y k=>?_⟩
  ·rcases k with k | ⟨k1,k2⟩
   ·have:=inj (h x y ((Qmc hA hB).2 (.inl (.inl k))))
    rwa [sw_o (oA k).1 (oA k).2] at this
   ·have:=inj (h x b ((Qmc hA hB).2 (.inl (.inr ⟨k1,rfl⟩))))
    rw [sw_r] at this
    rw [hA] at k2
    rw [this];exact Option.some.inj k2
  ·rcases k with k | ⟨k1,k2⟩
   ·have:=inj (h x y ((Qmc hA hB).2 (.inr (.inl k))))
    rwa [sw_o (oB k).1 (oB k).2] at this
   ·have:=inj (h x a ((Qmc hA hB).2 (.inr (.inr ⟨k1,rfl⟩))))
    rw [sw_l] at this
    rw [hB] at k2
    rw [this];exact Option.some.inj k2
 ·rintro ⟨h1,h2⟩ x y k
  rcases (Qmc hA hB).1 k with (k | ⟨k,rfl⟩) | (k | ⟨k,rfl⟩)
  ·rw [h1 x y (.inl k),sw_o (oA k).1 (oA k).2]
  ·rw [h1 x a (.inr ⟨k,hA⟩),sw_l]
  ·rw [h2 x y (.inl k),sw_o (oB k).1 (oB k).2]
  ·rw [h2 x b (.inr ⟨k,hB⟩),sw_r]
theorem FQ.others (hd:∀x∈q.flatten,x≠a∧x≠b):FQ (fun x=>sw a b (f x)) q↔FQ f q:=by
 have inj:∀{u y:Nat},sw a b u=y→u=sw a b y:=fun h=>by rw [←h,Q87]
 constructor
 ·intro h A hA x y k
  have hy:=hd y (List.mem_flatten.2 ⟨A,hA,k.mem.2⟩)
  have:=inj (h A hA x y k)
  rwa [sw_o hy.1 hy.2] at this
 ·intro h A hA x y k
  have hy:=hd y (List.mem_flatten.2 ⟨A,hA,k.mem.2⟩)
  show sw a b (f x)=y
  rw [h A hA x y k,sw_o hy.1 hy.2]
theorem FQ.join (hA:A.head?=some a) (hB:B.head?=some b) (hd:(A++B++q.flatten).Nodup):FQ (fun x=>sw a b (f x)) ((A++B)::q)↔FQ f (A::B::q):=by
 obtain ⟨h1,h2,h3⟩:=List.nodup_append.1 hd
 rw [Q6p,Q6p,Q6p,Zbx hA hB h1,and_assoc,FQ.others]
 exact fun x hx=>⟨fun e=>h3 a (by simp [List.mem_of_head? hA]) x hx e.symm,fun e=>h3 b (by simp [List.mem_of_head? hB]) x hx e.symm⟩
def ins (be:Int) (d:Nat):List Nat→List Nat
 | []=>[d]
 | x::l=>if (x:Int)=be then x::d::l else x::ins be d l
theorem Qfp {be:Int}:∀{l:List Nat},(ins be d l).Perm (d::l)
 | []=>List.Perm.refl _
 | x::l=>by
  unfold ins
  split
  ·exact List.Perm.swap _ _ _
  ·exact (Qfp.cons x).trans (List.Perm.swap _ _ _)
theorem Q4g {be:Int} (h1:∀x∈A,(x:Int)≠be) (hb:(b:Int)=be):ins be d (A++b::B)=A++b::d::B:=by
 induction A with
 | nil=>simp [ins,hb]
 | cons c A ih=>
  rw [List.cons_append,ins,if_neg (h1 c (by simp)),ih fun x hx=>h1 x (by simp [hx])];rfl
theorem Qpj (h:x∉A):nxt A x=x:=by
 unfold nxt
 cases hi:A.idxOf? x with
 | none=>rfl
 | some i=>exact absurd (by rw [List.idxOf?_eq_some_iff] at hi;obtain ⟨hi,h1,_⟩:=hi;exact List.mem_of_getElem (h:=hi) (by simpa using h1)) h
theorem Q72 {R:List Nat} (hn:(d::l).Nodup) (hR:R.head?=some x) (h1:∀u v,Cy l u v↔Cy R u v) (h2:∀u v,Cy A u v↔Cy ([d]++R) u v) (hA:A.Nodup) (hm:∀u,u∈A↔u=d∨u∈l) (hRn:([d]++R).Nodup) :
  ∀z,nxt A z=sw d x (nxt l z):=by
 intro z
 have key:=(Zbx (A:=[d]) (B:=R) (f:=nxt l) rfl hR hRn).2 ⟨?_,?_⟩
 ·by_cases hz:z∈A
  ·exact (key z _ ((h2 _ _).1 (Q21 hA hz))).symm
  ·have hzl:z∉l:=fun h=>hz ((hm z).2 (.inr h))
   have hx:x∈l:=by
    have hxR:=List.mem_of_head? hR
    obtain ⟨y,hy⟩:=Q6w hxR
    exact ((h1 _ _).2 hy).mem.1
   rw [Qpj hz,Qpj hzl,sw_o (fun e=>hz ((hm z).2 (.inl e))) (fun e=>hzl (e ▸ hx))]
 ·intro u v k
  have:u=d∧v=d:=by
   rcases k with k | ⟨k1,k2⟩
   ·simp [Web.Nx] at k
   ·simp at k1 k2;exact ⟨k1.symm,k2.symm⟩
  rw [this.1,this.2]
  exact Qpj (List.nodup_cons.1 hn).1
 ·intro u v k
  exact Qv3 (List.nodup_cons.1 hn).2 ((h1 u v).2 k)
theorem Zcj (h:Cy l b x) (hn:l.Nodup):∃p s,l=p++b::s∧(s++p++[b]).head?=some x:=by
 obtain ⟨p,s,rfl⟩:=List.append_of_mem h.mem.1
 refine ⟨p,s,rfl,?_⟩
 have h2:Cy ((s++p)++[b]) b x:=by
  rw [List.append_assoc]
  refine Qv2.1 ?_
  rw [List.append_assoc];exact h
 have hn2:(s++p++[b]).Nodup:=by
  have e2:p++b::s=(p++[b])++s:=by simp
  rw [e2] at hn
  rw [List.append_assoc s p [b]]
  exact List.perm_append_comm.nodup_iff.1 hn
 rcases h2 with h2 | h2
 ·obtain ⟨i,k1,k2⟩:=Zig h2
  have k3:(s++p++[b])[(s++p).length]?=some b:=by rw [List.getElem?_append_right (Nat.le_refl _)];simp
  have k4:=(List.getElem?_eq_some_iff.1 k2).1
  have k5:i=(s++p).length:=by
   have e1:=(List.getElem?_eq_some_iff.1 k1)
   have e2:=(List.getElem?_eq_some_iff.1 k3)
   exact (List.getElem_inj (h₀:=e1.1) (h₁:=e2.1) hn2).1 (e1.2.trans e2.2.symm)
  simp only [List.length_append,List.length_singleton] at k4 k5
  omega
 ·exact h2.2
theorem Zar {be:Int} (hn:l.Nodup) (hd:d∉l) (hb:(b:Int)=be) (hbl:b∈l):∀z,nxt (ins be d l) z=sw d (nxt l b) (nxt l z):=by
 obtain ⟨p,s,rfl,hx⟩:=Zcj (Q21 hn hbl) hn
 have hbp:∀x∈p,(x:Int)≠be:=by
  intro x hxp e
  exact (List.nodup_append.1 hn).2.2 x hxp b (by simp) (by omega)
 rw [Q4g hbp hb]
 have hdn:(d::(p++b::s)).Nodup:=List.nodup_cons.2 ⟨hd,hn⟩
 have hpm:(p++b::s).Perm (s++p++[b]):=by
  have e2:p++b::s=(p++[b])++s:=by simp
  rw [e2,List.append_assoc s p [b]]
  exact List.perm_append_comm
 have hA:(p++b::d::s).Perm (d::(p++b::s)):=by
  have e1:p++b::d::s=(p++[b])++d::s:=by simp
  have e2:p++b::s=(p++[b])++s:=by simp
  rw [e1,e2]
  exact List.perm_middle
 refine Q72 (R:=s++p++[b]) hdn hx (fun u v=>?_) (fun u v=>?_) (hA.nodup_iff.2 hdn) (fun u=>by rw [hA.mem_iff,List.mem_cons]) ?_
 ·rw [List.append_assoc]
  have e2:p++b::s=(p++[b])++s:=by simp
  rw [e2];exact Qv2
 ·have e1:p++b::d::s=(p++[b])++([d]++s):=by simp
  have e2:[d]++(s++p++[b])=([d]++s)++(p++[b]):=by simp
  rw [e1,e2];exact Qv2
 ·exact ((hpm.cons d).nodup_iff).1 hdn
theorem Qwh:∀z,nxt [d] z=z:=by
 intro z
 by_cases h:z∈[d]
 ·have:=Q21 (by simp) h
  rcases this with k | ⟨k1,k2⟩
  ·simp [Web.Nx] at k
  ·simp at k1 k2 h;rw [←k2,h]
 ·exact Qpj h
end
section
variable {N a b d e t v x y z u p:Nat} {l:List Nat} {tl tl':Nat→List Nat} {be:Int}
theorem Qsp (h:z∉dl tl N):sg tl N z=z:=by unfold sg;rw [if_neg h]
theorem Q5b (h:z∉dl tl N):og tl N z=0:=by
 unfold og
 have:((List.range N).find? fun v=>decide (z∈tl v))=none:=by
  rw [List.find?_eq_none]
  intro v hv hd
  exact h (Qa2.2 ⟨v,List.mem_range.1 hv,by simpa using hd⟩)
 rw [this];rfl
theorem Zg5 (hv:v<N) (h:l.Perm (d::tl v)):(dl (upd tl v l) N).Perm (d::dl tl N):=by
 unfold dl
 have key:∀r:List Nat,r.Nodup→(v∈r→(r.flatMap (upd tl v l)).Perm (d::r.flatMap tl))∧(v∉r→r.flatMap (upd tl v l)=r.flatMap tl):=by
  intro r
  induction r with
  | nil=>exact fun _=>⟨fun h=>by (cases h),fun _=>rfl⟩
  | cons w r ih=>
   intro hn
   obtain ⟨h1,h2⟩:=ih (List.nodup_cons.1 hn).2
   refine ⟨fun hm=>?_,fun hm=>?_⟩
   ·rw [List.flatMap_cons,List.flatMap_cons]
    by_cases hw:w=v
    ·subst hw
     rw [Qab,h2 (List.nodup_cons.1 hn).1]
     exact h.append_right _
    ·rw [Qag _ _ hw]
     have:=h1 (by rcases List.mem_cons.1 hm with e | e;exact absurd e.symm hw;exact e)
     exact (this.append_left _).trans List.perm_middle
   ·rw [List.flatMap_cons,List.flatMap_cons,Qag _ _ (fun e=>hm (by simp [e])),h2 fun e=>hm (by simp [e])]
 exact (key _ List.nodup_range).1 (List.mem_range.2 hv)
def put1 (tl:Nat→List Nat) (v:Nat) (be:Int) (d:Nat):Nat→List Nat:=upd tl v (ins be d (tl v))
theorem Zg6 (hv:v<N):(dl (put1 tl v be d) N).Perm (d::dl tl N):=Zg5 hv Qfp
theorem ND.putM (h:ND N tl) (hv:v<N) (hd:d∉dl tl N) (hd2:d<2*N):ND N (put1 tl v be d):=by
 have hp:=Zg6 (tl:=tl) (be:=be) (d:=d) hv
 refine ⟨hp.nodup_iff.2 (List.nodup_cons.2 ⟨hd,h.nd⟩),fun x hx=>?_⟩
 rcases List.mem_cons.1 (hp.mem_iff.1 hx) with rfl | hx
 ·exact hd2
 ·exact h.lt x hx
theorem Qc5 (hv:v<N):z∈dl (put1 tl v be d) N↔z=d∨z∈dl tl N:=by rw [(Zg6 hv).mem_iff,List.mem_cons]
theorem ND.Zan (h:ND N tl) (hv:v<N) (hd:d∉dl tl N) (hd2:d<2*N):og (put1 tl v be d) N z=if z=d then v else og tl N z:=by
 have h':=h.putM (be:=be) hv hd hd2
 by_cases hz:z=d
 ·rw [if_pos hz,hz]
  exact h'.ogE hv (by unfold put1;rw [Qab];exact Qfp.mem_iff.2 (by simp))
 ·rw [if_neg hz]
  by_cases hm:z∈dl tl N
  ·obtain ⟨h1,h2⟩:=Qbm hm
   refine h'.ogE h1 ?_
   unfold put1
   by_cases e:og tl N z=v
   ·rw [e,Qab];exact Qfp.mem_iff.2 (List.mem_cons_of_mem _ (e ▸ h2))
   ·rw [Qag _ _ e];exact h2
  ·rw [Q5b hm,Q5b fun k=>((Qc5 hv).1 k).elim hz hm]
theorem ND.Zab (h:ND N tl) (h':ND N (upd tl v l)) (hv:v<N) (hd:d∉dl tl N) (hl:∀z,z∈l↔z=d∨z∈tl v) (hx:x=d∨x∈tl v) (hk:∀z,nxt l z=sw d x (nxt (tl v) z)):sg (upd tl v l) N z=sw d x (sg tl N z):=by
 have hdx:∀{y},y∈dl tl N→og tl N y≠v→y≠d∧y≠x:=by
  intro y hy ho
  have h1:y≠d:=fun e=>hd (e ▸ hy)
  refine ⟨h1,fun e=>?_⟩
  rcases hx with hx | hx
  ·exact h1 (e.trans hx)
  ·exact ho (h.ogE hv (e ▸ hx))
 by_cases hz:z∈l
 ·rw [h'.sgE hv (by rw [Qab];exact hz),Qab,hk]
  rcases (hl z).1 hz with rfl | hz2
  ·rw [Qsp hd,Qpj fun hz2=>hd (Qa2.2 ⟨v,hv,hz2⟩)]
  ·rw [h.sgE hv hz2]
 ·by_cases hm:z∈dl tl N
  ·obtain ⟨h1,h2⟩:=Qbm hm
   have hov:og tl N z≠v:=fun e=>hz ((hl z).2 (.inr (e ▸ h2)))
   rw [h'.sgE h1 (by rw [Qag _ _ hov];exact h2),Qag _ _ hov,←h.sgE h1 h2]
   have h3:=h.Qcs hm
   have h4:=hdx h3.1 (by rw [h3.2];exact hov)
   rw [sw_o h4.1 h4.2]
  ·have hzd:z≠d:=fun e=>hz ((hl z).2 (.inl e))
   have hzx:z≠x:=fun e=>by
    rcases hx with hx | hx
    ·exact hzd (e.trans hx)
    ·exact hm (Qa2.2 ⟨v,hv,e ▸ hx⟩)
   have hm':z∉dl (upd tl v l) N:=by
    intro hm'
    obtain ⟨u,hu,hzu⟩:=Qa2.1 hm'
    by_cases e:u=v
    ·rw [e,Qab] at hzu;exact hz hzu
    ·rw [Qag _ _ e] at hzu;exact hm (Qa2.2 ⟨u,hu,hzu⟩)
   rw [Qsp hm',Qsp hm,sw_o hzd hzx]
theorem ND.Qzs (h:ND N tl) (hv:v<N) (hd:d∉dl tl N) (hd2:d<2*N) (hb:b∈tl v) (hbe:(b:Int)=be):sg (put1 tl v be d) N z=sw d (sg tl N b) (sg tl N z):=by
 have hn:=h.nodup hv
 have hdl:d∉tl v:=fun k=>hd (Qa2.2 ⟨v,hv,k⟩)
 rw [h.sgE hv hb]
 exact h.Zab (h.putM hv hd hd2) hv hd (fun z=>by rw [Qfp.mem_iff,List.mem_cons]) (.inr (Qyr hn hb)) (Zar hn hdl hbe hb)
theorem ND.Qso (h:ND N tl) (hv:v<N) (hd:d∉dl tl N) (hd2:d<2*N) (h0:tl v=[]):sg (put1 tl v be d) N z=sg tl N z:=by
 have e0:ins be d (tl v)=[d]:=by rw [h0];rfl
 have:=h.Zab (l:=ins be d (tl v)) (x:=d) (z:=z) (h.putM hv hd hd2) hv hd (fun z=>by rw [Qfp.mem_iff,List.mem_cons]) (.inl rfl) (fun z=>by
  rw [e0,Qwh,h0,Qpj (by simp)]
  by_cases e:z=d
  ·rw [e,sw_l]
  ·rw [sw_o e e])
 unfold put1
 rw [this]
 by_cases e:sg tl N z=d
 ·rw [e,sw_l]
 ·rw [sw_o e e]
theorem ND.Q58 (h:ND N tl) (hv:v<N) (hd:d∉dl tl N) (hd2:d<2*N) (h0:tl v=[b]) (hb:(b:Int)≠be):sg (put1 tl v be d) N z=sw d b (sg tl N z):=by
 have e0:ins be d (tl v)=ins (b:Int) d (tl v):=by rw [h0];simp [ins,hb]
 have e1:put1 tl v be d=put1 tl v (b:Int) d:=by unfold put1;rw [e0]
 have hbm:b∈tl v:=by rw [h0];simp
 rw [e1,h.Qzs hv hd hd2 hbm rfl,h.sgE hv hbm,h0,Qwh]
theorem map_inj {f:Nat→Nat}:∀{l:List Nat},(l.map f).Nodup→x∈l→y∈l→f x=f y→x=y
 | [],_,h,_,_=>by cases h
 | c::l,hn,hx,hy,e=>by
  rw [List.map_cons,List.nodup_cons] at hn
  rcases List.mem_cons.1 hx with ex | kx<;>rcases List.mem_cons.1 hy with ey | ky
  ·rw [ex,ey]
  ·exact absurd (List.mem_map.2 ⟨y,ky,by rw [←e,ex]⟩) hn.1
  ·exact absurd (List.mem_map.2 ⟨x,kx,by rw [e,ey]⟩) hn.1
  ·exact map_inj hn.2 kx ky e
theorem ND.Qxh (h:ND N tl) (hx:x∈dl tl N) (hy:y∈dl tl N) (e:sg tl N x=sg tl N y):x=y:=
 map_inj (h.Zac.nodup_iff.2 h.nd) hx hy e
def ph (tl:Nat→List Nat) (N d:Nat):Nat:=if d∈dl tl N then sg tl N (tw d) else d
theorem Qd7 (h:z∉dl tl N):ph tl N z=z:=by unfold ph;rw [if_neg h]
theorem MP.phE (h:MP N tl) (hd:d∈dl tl N):Core.ph tl N d=Core.sg tl N (Core.tw d):=by unfold Core.ph;rw [if_pos hd]
theorem MP.Qzy (h:MP N tl) (hd:d∈dl tl N):Core.ph tl N d∈dl tl N:=by rw [h.phE hd];exact (h.Qcs (h.tw d hd)).1
theorem MP.Zk9 (h:MP N tl) (hd:d∈dl tl N):Core.og tl N (Core.ph tl N d)=Core.og tl N (Core.tw d):=by rw [h.phE hd];exact (h.Qcs (h.tw d hd)).2
theorem MP.Q7y (h:MP N tl) (e:Core.ph tl N x=Core.ph tl N y):x=y:=by
 by_cases hx:x∈dl tl N<;>by_cases hy:y∈dl tl N
 ·rw [h.phE hx,h.phE hy] at e
  have:=h.Qxh (h.tw x hx) (h.tw y hy) e
  rw [←Q02 x,this,Q02]
 ·have:=h.Qzy hx
  rw [e,Qd7 hy] at this;exact absurd this hy
 ·have:=h.Qzy hy
  rw [←e,Qd7 hx] at this;exact absurd this hx
 ·rw [Qd7 hx,Qd7 hy] at e;exact e
def lay (tl:Nat→List Nat) (e v:Nat) (be:Int) (w:Nat) (ce:Int):Nat→List Nat:=put1 (put1 tl v be (2*e)) w ce (2*e+1)
end
section
variable {N b c e v w x y z X Y:Nat} {tl:Nat→List Nat} {be ce:Int}
end
section
variable {a b c d e f g n u v x y z:Nat} {A B0:List Nat} {q q':List (List Nat)} {D D' B B':Nat→Option (Nat × Nat)} {E E':Nat→Nat→Prop}
def SF (q:List (List Nat)) (x y:Nat):Prop:=∃A∈q,x∈A∧y∈A
def TE (D:Nat→Option (Nat × Nat)) (x y:Nat):Prop:=∃e,D e=some (x,y)∨D e=some (y,x)
def LK (q:List (List Nat)) (D:Nat→Option (Nat × Nat)):Nat→Nat→Prop:=RT (fun x y=>SF q x y∨TE D x y)
theorem SF.symm (h:SF q x y):SF q y x:=by obtain ⟨A,h1,h2,h3⟩:=h;exact ⟨A,h1,h3,h2⟩
theorem TE.symm (h:TE D x y):TE D y x:=by obtain ⟨e,h⟩:=h;exact ⟨e,h.symm⟩
theorem LK.refl:LK q D x x:=RT.refl
theorem LK.trans (h:LK q D x y) (k:LK q D y z):LK q D x z:=RT.trans h k
theorem LK.symm (h:LK q D x y):LK q D y x:=RT.symm (fun x y h=>h.imp SF.symm TE.symm) h
theorem LK.sf (h:SF q x y):LK q D x y:=RT.one (.inl h)
theorem LK.te (h:D e=some (x,y)):LK q D x y:=RT.one (.inr ⟨e,.inl h⟩)
theorem LK.mono (hq:∀x y,SF q x y→SF q' x y) (hD:∀e p,D e=some p→D' e=some p) (h:LK q D x y):LK q' D' x y:=
 RT.mono (fun x y k=>k.imp (hq x y) fun ⟨e,k⟩=>⟨e,k.imp (hD e _) (hD e _)⟩) h
theorem LK.less (h:LK q (upd D e none) x y):LK q D x y:=h.mono (fun _ _ h=>h) fun i p k=>by
 by_cases hi:i=e
 ·rw [hi,Qab] at k;cases k
 ·rwa [Qag _ _ hi] at k
theorem SF.perm (p:q.Perm q') (h:SF q x y):SF q' x y:=by obtain ⟨A,h1,h2⟩:=h;exact ⟨A,p.mem_iff.1 h1,h2⟩
theorem Q6l (p:q.Perm q'):LK q D x y↔LK q' D x y:=⟨LK.mono (fun _ _=>SF.perm p) fun _ _ h=>h,LK.mono (fun _ _=>SF.perm p.symm) fun _ _ h=>h⟩
theorem Zfv (p:Nat→Nat) (k:∀x y,E x y→RT E' (p x) (p y)) (h:RT E a b):RT E' (p a) (p b):=by
 induction h with
 | refl=>exact .refl
 | step _ e ih=>exact ih.trans (k _ _ e)
theorem Q3u (hs:∀x y,E x y→E y x) (hE:∀x y,E' x y↔E x y∨(x=u∧y=v)∨(x=v∧y=u)):RT E' a b↔RT E a b∨(RT E a u∧RT E v b)∨(RT E a v∧RT E u b):=by
 have up:∀{a b},RT E a b→RT E' a b:=fun h=>h.mono fun x y k=>(hE x y).2 (.inl k)
 have l1:E' u v:=(hE u v).2 (.inr (.inl ⟨rfl,rfl⟩))
 have l2:E' v u:=(hE v u).2 (.inr (.inr ⟨rfl,rfl⟩))
 constructor
 ·intro h
  induction h with
  | refl=>exact .inl .refl
  | @step b c _ k ih=>
   rcases (hE b c).1 k with k | ⟨rfl,rfl⟩ | ⟨rfl,rfl⟩
   ·exact ih.imp (fun h=>h.step k) (Or.imp (fun h=>⟨h.1,h.2.step k⟩) fun h=>⟨h.1,h.2.step k⟩)
   ·rcases ih with h | h | h
    ·exact .inr (.inl ⟨h,.refl⟩)
    ·exact .inl (h.1.trans (h.2.symm hs))
    ·exact .inl h.1
   ·rcases ih with h | h | h
    ·exact .inr (.inr ⟨h,.refl⟩)
    ·exact .inl h.1
    ·exact .inl (h.1.trans (h.2.symm hs))
 ·rintro (h | h | h)
  ·exact up h
  ·exact ((up h.1).step l1).trans (up h.2)
  ·exact ((up h.1).step l2).trans (up h.2)
theorem Qk9 (h:D e=none):upd D e none=D:=by rw [←h];exact Qi8 D e
theorem Q79 (h:D e=none):LK q (upd D e (some (u,v))) a b↔LK q D a b∨(LK q D a u∧LK q D v b)∨(LK q D a v∧LK q D u b):=by
 refine Q3u (fun x y h=>h.imp SF.symm TE.symm) fun x y=>?_
 rw [or_assoc]
 refine or_congr Iff.rfl ⟨?_,?_⟩
 ·rintro ⟨i,k⟩
  by_cases hi:i=e
  ·rw [hi,Qab] at k
   rcases k with k | k
   ·cases k;exact .inr (.inl ⟨rfl,rfl⟩)
   ·cases k;exact .inr (.inr ⟨rfl,rfl⟩)
  ·rw [Qag _ _ hi] at k;exact .inl ⟨i,k⟩
 ·rintro (⟨i,k⟩ | ⟨rfl,rfl⟩ | ⟨rfl,rfl⟩)
  ·refine ⟨i,?_⟩
   have hi:i≠e:=by rintro rfl;rw [h] at k;rcases k with k | k<;>cases k
   rw [Qag _ _ hi];exact k
  ·exact ⟨e,.inl (Qab _ _ _)⟩
  ·exact ⟨e,.inr (Qab _ _ _)⟩
theorem Qsv (h:D e=some (u,v)):LK q D a b↔LK q (upd D e none) a b∨(LK q (upd D e none) a u∧LK q (upd D e none) v b)∨(LK q (upd D e none) a v∧LK q (upd D e none) u b):=by
 have e0:D=upd (upd D e none) e (some (u,v)):=by rw [Qhh,←h,Qi8]
 conv=>lhs;rw [e0]
 exact Q79 (Qab _ _ _)
theorem Zbc {A0:List Nat} (hx:x∈A0) (hy:y∈B0):LK ((A0++B0)::q) D a b↔LK (A0::B0::q) D a b∨(LK (A0::B0::q) D a x∧LK (A0::B0::q) D y b)∨(LK (A0::B0::q) D a y∧LK (A0::B0::q) D x b):=by
 have hA:∀{u v},u∈A0→v∈A0→SF (A0::B0::q) u v:=fun h1 h2=>⟨A0,by simp,h1,h2⟩
 have hB:∀{u v},u∈B0→v∈B0→SF (A0::B0::q) u v:=fun h1 h2=>⟨B0,by simp,h1,h2⟩
 have e0:RT (fun u v=>(SF (A0::B0::q) u v∨TE D u v)∨(u=x∧v=y)∨(u=y∧v=x)) a b↔LK (A0::B0::q) D a b∨(LK (A0::B0::q) D a x∧LK (A0::B0::q) D y b)∨(LK (A0::B0::q) D a y∧LK (A0::B0::q) D x b):=Q3u (fun x y h=>h.imp SF.symm TE.symm) fun u v=>Iff.rfl
 rw [←e0]
 constructor
 ·refine RT.bind fun u v k=>?_
  rcases k with ⟨C,hC,hu,hv⟩ | k
  ·rcases List.mem_cons.1 hC with rfl | hC
   ·rcases List.mem_append.1 hu with hu | hu<;>rcases List.mem_append.1 hv with hv | hv
    ·exact RT.one (.inl (.inl (hA hu hv)))
    ·exact ((RT.one (.inl (.inl (hA hu hx)))).step (.inr (.inl ⟨rfl,rfl⟩))).step (.inl (.inl (hB hy hv)))
    ·exact ((RT.one (.inl (.inl (hB hu hy)))).step (.inr (.inr ⟨rfl,rfl⟩))).step (.inl (.inl (hA hx hv)))
    ·exact RT.one (.inl (.inl (hB hu hv)))
   ·exact RT.one (.inl (.inl ⟨C,by simp [hC],hu,hv⟩))
  ·exact RT.one (.inl (.inr k))
 ·have hxy:SF ((A0++B0)::q) x y:=⟨A0++B0,by simp,by simp [hx],by simp [hy]⟩
  refine RT.mono fun u v k=>?_
  rcases k with (⟨C,hC,hu,hv⟩ | k) | ⟨rfl,rfl⟩ | ⟨rfl,rfl⟩
  ·rcases List.mem_cons.1 hC with rfl | hC
   ·exact .inl ⟨C++B0,by simp,by simp [hu],by simp [hv]⟩
   ·rcases List.mem_cons.1 hC with rfl | hC
    ·exact .inl ⟨A0++C,by simp,by simp [hu],by simp [hv]⟩
    ·exact .inl ⟨C,by simp [hC],hu,hv⟩
  ·exact .inr k
  ·exact .inl hxy
  ·exact .inl hxy.symm
def itm (D:Nat→Option (Nat × Nat)) (n z:Nat):Nat:=if z<n then z else match D (z-n) with
 | some p=>p.1
 | none=>z
theorem Q2j (hq:∀x∈q.flatten,x<n) (hD:∀e a b,D e=some (a,b)→a<n∧b<n) (ha:a<n) (hb:b<n):RT (EW q D n) a b↔LK q D a b:=by
 constructor
 ·intro h
  have hi:∀{z},z<n→itm D n z=z:=fun h=>by unfold itm;rw [if_pos h]
  have hn:∀{e p},D e=some p→itm D n (n+e)=p.1:=fun {e p} h=>by
   unfold itm;rw [if_neg (by omega),show n+e-n=e by omega,h]
  have key:=Zfv (E':=fun x y=>SF q x y∨TE D x y) (itm D n) (fun x y k=>?_) h
  ·rwa [hi ha,hi hb] at key
  ·rcases k with k | ⟨e,u,v,k1,k2⟩
   ·have hm:=Q8i k
    rw [hi (hq x hm.1),hi (hq y hm.2)]
    obtain ⟨A,hA,k⟩:=k
    rcases k with k | k
    ·exact RT.one (.inl ⟨A,hA,k.mem.1,k.mem.2⟩)
    ·exact RT.one (.inl ⟨A,hA,k.mem.2,k.mem.1⟩)
   ·have huv:=hD e u v k1
    have l:RT (fun x y=>SF q x y∨TE D x y) u v:=RT.one (.inr ⟨e,.inl k1⟩)
    have l2:RT (fun x y=>SF q x y∨TE D x y) v u:=RT.one (.inr ⟨e,.inr k1⟩)
    rcases k2 with ⟨rfl,rfl | rfl⟩ | ⟨rfl,rfl | rfl⟩
    ·rw [hn k1,hi huv.1];exact .refl
    ·rw [hn k1,hi huv.2];exact l2
    ·rw [hn k1,hi huv.1];exact .refl
    ·rw [hn k1,hi huv.2];exact l
 ·refine RT.bind fun x y k=>?_
  rcases k with ⟨A,hA,h1,h2⟩ | ⟨e,k⟩
  ·exact Qy0 hA (fun u v h=>.inl h) h1 h2
  ·rcases k with k | k
   ·exact (RT.one (.inr ⟨e,_,_,k,.inl ⟨rfl,.inl rfl⟩⟩)).step (.inr ⟨e,_,_,k,.inr ⟨rfl,.inr rfl⟩⟩)
   ·exact (RT.one (.inr ⟨e,_,_,k,.inl ⟨rfl,.inr rfl⟩⟩)).step (.inr ⟨e,_,_,k,.inr ⟨rfl,.inl rfl⟩⟩)
def FO (q:List (List Nat)) (D:Nat→Option (Nat × Nat)):Prop:=∀e a b,D e=some (a,b)→¬LK q (upd D e none) a b
end
structure CB (lim:Nat→Prop) (N:Nat) (tl:Nat→List Nat) (q:List (List Nat)) (B D:Nat→Option (Nat × Nat)):Prop where
 mp:MP N tl
 fq:FQ (ph tl N) q
 nd:q.flatten.Nodup
 al:∀x,x<3*N→∃A∈q,x∈A
 lt:∀x∈q.flatten,x<3*N
 bB:∀i p,B i=some p→Laid tl N i∧p=(og tl N (2*i),og tl N (2*i+1))∧p.1≠p.2
 bD:∀i p,D i=some p→Laid tl N i∧p=(2*i,2*i+1)
 ex:∀i,B i=none∨D i=none
 li:∀i,lim i→B i=none∧D i=none
 cov:∀i,Laid tl N i→lim i∨(B i).isSome∨(D i).isSome
def MM (N:Nat) (tl:Nat→List Nat) (B D:Nat→Option (Nat × Nat)) (key:Nat→Int) (but:Nat→Prop):Prop:=
 ∀g f p r,¬but g→B g=some p→D f=some r→¬LK [] (upd B g none) (og tl N (2*f)) (og tl N (2*f+1))→key g<key f
section
variable {N a b c d e f g o u v x y z:Nat} {lim lim':Nat→Prop} {tl tl':Nat→List Nat} {q q':List (List Nat)} {B B' D D':Nat→Option (Nat × Nat)} {key key':Nat→Int}
theorem CB.Zdr (h:CB lim N tl q B D) (hx:x<3*N):SF q x (ph tl N x):=by
 obtain ⟨A,hA,hxA⟩:=h.al x hx
 obtain ⟨y,hy⟩:=Q6w hxA
 rw [h.fq A hA x y hy]
 exact ⟨A,hA,hy.mem.1,hy.mem.2⟩
theorem CB.cross (h:CB lim N tl q B D) {B' D':Nat→Option (Nat × Nat)} (hB:∀i p,B' i=some p→p=(og tl N (2*i),og tl N (2*i+1))) (hD:∀i p,D' i=some p→p=(2*i,2*i+1)) {x0 z0:Nat} (he:Laid tl N e)
  (hx:¬(LK [] B' x0 (og tl N (2*e))↔LK [] B' x0 (og tl N (2*e+1)))) (hz:¬(LK q D' z0 (2*e)↔LK q D' z0 (2*e+1))) :
  ∃i,i≠e∧Laid tl N i∧B' i=none∧D' i=none∧¬(LK [] B' x0 (og tl N (2*i))↔LK [] B' x0 (og tl N (2*i+1)))∧¬(LK q D' z0 (2*i)↔LK q D' z0 (2*i+1)):=by
 have hZ:∀d∈dl tl N,(LK q D' z0 (sg tl N (tw d))↔LK q D' z0 d):=by
  intro d hd
  rw [←h.mp.phE hd]
  have hs:LK q D' d (ph tl N d):=LK.sf (h.Zdr (by have:=h.mp.lt d hd;omega))
  exact ⟨fun k=>k.trans hs.symm,fun k=>k.trans hs⟩
 obtain ⟨i,h1,h2,h3,h4⟩:=h.mp.cross (X:=LK [] B' x0) (Z:=LK q D' z0) hZ he hx hz
 refine ⟨i,h1,h2,?_,?_,h3,h4⟩
 ·cases hb:B' i with
  | none=>rfl
  | some p=>
   obtain rfl:=hB i p hb
   exact absurd ⟨fun k=>k.trans (LK.te hb),fun k=>k.trans (LK.te hb).symm⟩ h3
 ·cases hb:D' i with
  | none=>rfl
  | some p=>
   obtain rfl:=hD i p hb
   exact absurd ⟨fun k=>k.trans (LK.te hb),fun k=>k.trans (LK.te hb).symm⟩ h4
theorem Qgt {E:Nat→Nat→Prop} (hs:∀x,E x x) (h:¬E a b):¬(E a a↔E a b):=fun k=>h (k.1 (hs a))
theorem Qb3 {D:Nat→Option (Nat × Nat)} {p:Nat × Nat} {i:Nat} (h:upd D e none i=some p):i≠e∧D i=some p:=by
 by_cases hi:i=e
 ·rw [hi,Qab] at h;cases h
 ·rw [Qag _ _ hi] at h;exact ⟨hi,h⟩
theorem Q2t {D:Nat→Option (Nat × Nat)} {i:Nat} (h:upd D e none i=none):i=e∨D i=none:=by
 by_cases hi:i=e
 ·exact .inl hi
 ·rw [Qag _ _ hi] at h;exact .inr h
theorem CB.bB1 (h:CB lim N tl q B D):∀i p,B i=some p→p=(og tl N (2*i),og tl N (2*i+1)):=fun i p k=>(h.bB i p k).2.1
theorem CB.bD1 (h:CB lim N tl q B D):∀i p,D i=some p→p=(2*i,2*i+1):=fun i p k=>(h.bD i p k).2
theorem CB.bB2 (h:CB lim N tl q B D):∀i p,upd B g none i=some p→p=(og tl N (2*i),og tl N (2*i+1)):=fun i p k=>h.bB1 i p (Qb3 k).2
theorem CB.no (h:CB lim N tl q B D) (hl:Laid tl N e) (h1:B e=none) (h2:D e=none):lim e:=by
 rcases h.cov e hl with k | k | k
 ·exact k
 ·rw [h1] at k;cases k
 ·rw [h2] at k;cases k
end
section
variable {N a b c d e f g o u v w x y z n:Nat} {be ce:Int} {lim lim':Nat→Prop} {tl tl':Nat→List Nat} {q q':List (List Nat)} {B B' D D':Nat→Option (Nat × Nat)} {key key':Nat→Int}
def sm (f:Nat→Int):Nat→Int
 | 0=>0
 | n+1=>sm f n+f n
theorem Qfi {f g:Nat→Int} (h:∀i,i<n→f i=g i):sm f n=sm g n:=by
 induction n with
 | zero=>rfl
 | succ n ih=>unfold sm;rw [ih fun i hi=>h i (by omega),h n (by omega)]
theorem Q89 {f g:Nat→Int} (he:e<n) (h:∀i,i≠e→f i=g i):sm f n=sm g n-g e+f e:=by
 induction n with
 | zero=>omega
 | succ n ih=>
  unfold sm
  by_cases hn:n=e
  ·subst hn
   rw [Qfi fun i hi=>h i (by omega)];omega
  ·rw [ih (by omega),h n hn];omega
theorem Q05:sm (fun _=>0) n=0:=by
 induction n with
 | zero=>rfl
 | succ n ih=>unfold sm;rw [ih];rfl
theorem Q3r {f:Nat→Int} {m:Int} (h:∀i,i<n→0≤f i∧f i≤m):0≤sm f n∧sm f n≤m*n:=by
 induction n with
 | zero=>simp [sm]
 | succ n ih=>
  obtain ⟨h1,h2⟩:=ih fun i hi=>h i (by omega)
  have h3:=h n (by omega)
  unfold sm
  have e1:m*((n+1:Nat):Int)=m*n+m:=by rw [Int.natCast_succ,Int.mul_add,Int.mul_one]
  omega
def ky (w:Int) (e:Nat):Int:=w*1048576+e
end
end Core
end Go.Proofs.YtfeekmmfdkfgmaaGreatDoor
