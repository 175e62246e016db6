/-
Maps as lists of darts round vertices, in plain mathematics: how many edges two sets part.
Conditions: those that each theorem states.
-/
import Derived.Test.YtpmicakdjhoafaaGreatDoorGWeb
set_option linter.unusedVariables false
set_option linter.unusedSimpArgs false
namespace Go.Proofs.YtpmicakdjhoafaaGreatDoor
open Go
namespace Core
open Go.Proofs.YtpmicakdjhoafaaGreatDoor.Seq Go.Proofs.YtpmicakdjhoafaaGreatDoor.Cut Go.Proofs.YtpmicakdjhoafaaGreatDoor.Web
def tw (d:Nat):Nat:=if d % 2=0 then d+1 else d-1
theorem tw_tw (d:Nat):tw (tw d)=d:=by unfold tw;split<;>split<;>omega
theorem Qq9 (e:Nat):tw (2*e)=2*e+1:=by unfold tw;rw [if_pos (by omega)]
theorem Qvc (e:Nat):tw (2*e+1)=2*e:=by unfold tw;rw [if_neg (by omega)];omega
def nxt (l:List Nat) (d:Nat):Nat:=match l.idxOf? d with
 | some i=>l.getD ((i+1) % l.length) d
 | none=>d
theorem idxOf?_at {l:List Nat} {d i:Nat} (hn:l.Nodup) (h:l[i]?=some d):l.idxOf? d=some i:=by
 induction l generalizing i with
 | nil=>simp at h
 | cons x l ih=>
  rw [List.idxOf?_cons]
  cases i with
  | zero=>simp at h;subst h;simp
  | succ i=>
   simp at h
   have hne:x≠d:=fun e=>(List.nodup_cons.1 hn).1 (e ▸ List.mem_of_getElem? h)
   have hb:(x==d)=false:=by simpa using hne
   rw [hb,ih (List.nodup_cons.1 hn).2 h];rfl
theorem Qzs {l:List Nat} {d i:Nat} (hn:l.Nodup) (h:l[i]?=some d):nxt l d=l.getD ((i+1) % l.length) d:=by
 unfold nxt;rw [idxOf?_at hn h]
theorem map_nxt {x:Nat} {l:List Nat} (hn:(x::l).Nodup):(x::l).map (nxt (x::l))=l++[x]:=by
 refine List.ext_getElem? fun i=>?_
 rw [List.getElem?_map]
 by_cases hi:i<(x::l).length
 ·have h1:=List.getElem?_eq_getElem hi
  rw [h1,Option.map_some,Qzs hn h1]
  simp only [List.length_cons] at hi ⊢
  by_cases he:i=l.length
  ·subst he
   rw [Nat.mod_self,List.getElem?_append_right (Nat.le_refl _)]
   simp
  ·rw [Nat.mod_eq_of_lt (by omega),List.getElem?_append_left (by omega)]
   have hil:i<l.length:=by omega
   simp [List.getD_eq_getElem?_getD,List.getElem?_eq_getElem hil]
 ·rw [List.getElem?_eq_none (by omega),List.getElem?_eq_none (by simp at hi ⊢;omega)];rfl
theorem Qtq {l:List Nat} (hn:l.Nodup):(l.map (nxt l)).Perm l:=by
 cases l with
 | nil=>exact List.Perm.refl _
 | cons x l=>
  rw [map_nxt hn]
  exact (List.perm_append_comm (l₁:=l) (l₂:=[x]))
theorem Qwe {l:List Nat} {d:Nat} (hn:l.Nodup) (h:d∈l):nxt l d∈l:=by
 have:=(Qtq hn).mem_iff (a:=nxt l d)
 exact this.1 (List.mem_map.2 ⟨d,h,rfl⟩)
def dl (tl:Nat→List Nat) (N:Nat):List Nat:=(List.range N).flatMap tl
structure ND (N:Nat) (tl:Nat→List Nat):Prop where
 nd:(dl tl N).Nodup
 lt:∀d∈dl tl N,d<2*N
structure MP (N:Nat) (tl:Nat→List Nat):Prop extends ND N tl where
 tw:∀d∈dl tl N,tw d∈dl tl N
def og (tl:Nat→List Nat) (N d:Nat):Nat:=((List.range N).find? fun v=>decide (d∈tl v)).getD 0
def sg (tl:Nat→List Nat) (N d:Nat):Nat:=if d∈dl tl N then nxt (tl (og tl N d)) d else d
section
variable {N a b d e v z:Nat} {tl:Nat→List Nat} {f g:Nat→Nat}
theorem Qbq:d∈dl tl N↔∃v,v<N∧d∈tl v:=by simp [dl]
theorem Qt1 {f:Nat→List Nat}:∀{l:List Nat},(l.flatMap f).Nodup→(∀x∈l,(f x).Nodup)∧∀{x y d:Nat},l.Nodup→x∈l→y∈l→d∈f x→d∈f y→x=y
 | [],_=>⟨fun x h=>(by cases h),fun _ h=>(by cases h)⟩
 | a::l,h=>by
  rw [List.flatMap_cons,List.nodup_append] at h
  obtain ⟨h1,h2,h3⟩:=h
  obtain ⟨h4,h5⟩:=Qt1 h2
  refine ⟨fun x hx=>?_,fun {x y d} hl hx hy hdx hdy=>?_⟩
  ·rcases List.mem_cons.1 hx with rfl | hx
   ·exact h1
   ·exact h4 x hx
  ·rw [List.nodup_cons] at hl
   rcases List.mem_cons.1 hx with ex | kx<;>rcases List.mem_cons.1 hy with ey | ky
   ·rw [ex,ey]
   ·subst ex;exact absurd rfl (h3 d hdx d (List.mem_flatMap.2 ⟨y,ky,hdy⟩))
   ·subst ey;exact absurd rfl (h3 d hdy d (List.mem_flatMap.2 ⟨x,kx,hdx⟩))
   ·exact h5 hl.2 kx ky hdx hdy
theorem ND.nodup (h:ND N tl) (hv:v<N):(tl v).Nodup:=(Qt1 h.nd).1 v (List.mem_range.2 hv)
theorem ND.uniq {u:Nat} (h:ND N tl) (hu:u<N) (hv:v<N) (h1:d∈tl u) (h2:d∈tl v):u=v:=
 (Qt1 h.nd).2 List.nodup_range (List.mem_range.2 hu) (List.mem_range.2 hv) h1 h2
theorem Qcc (hd:d∈dl tl N):og tl N d<N∧d∈tl (og tl N d):=by
 obtain ⟨v,hv,hdv⟩:=Qbq.1 hd
 unfold og
 cases hf:(List.range N).find? fun v=>decide (d∈tl v) with
 | none=>
  rw [List.find?_eq_none] at hf
  exact absurd hdv (by simpa using hf v (List.mem_range.2 hv))
 | some u=>
  have h1:=List.find?_some hf
  have h2:=List.mem_of_find?_eq_some hf
  exact ⟨List.mem_range.1 h2,by simpa using h1⟩
theorem ND.ogE (h:ND N tl) (hv:v<N) (hd:d∈tl v):Core.og tl N d=v:=by
 have:=Qcc (Qbq.2 ⟨v,hv,hd⟩)
 exact h.uniq this.1 hv this.2 hd
theorem ND.sgE (h:ND N tl) (hv:v<N) (hd:d∈tl v):Core.sg tl N d=nxt (tl v) d:=by unfold Core.sg;rw [if_pos (Qbq.2 ⟨v,hv,hd⟩),h.ogE hv hd]
theorem ND.Qeo (h:ND N tl) (hd:d∈dl tl N):Core.sg tl N d∈dl tl N∧Core.og tl N (Core.sg tl N d)=Core.og tl N d:=by
 obtain ⟨h1,h2⟩:=Qcc hd
 have h3:Core.sg tl N d∈tl (Core.og tl N d):=by unfold Core.sg;rw [if_pos hd];exact Qwe (h.nodup h1) h2
 exact ⟨Qbq.2 ⟨_,h1,h3⟩,h.ogE h1 h3⟩
theorem ND.sg_perm (h:ND N tl):((dl tl N).map (Core.sg tl N)).Perm (dl tl N):=by
 have key:∀l:List Nat,(∀v∈l,v<N)→((l.flatMap tl).map (Core.sg tl N)).Perm (l.flatMap tl):=by
  intro l
  induction l with
  | nil=>intro _;exact List.Perm.refl _
  | cons v l ih=>
   intro hl
   rw [List.flatMap_cons,List.map_append]
   refine List.Perm.append ?_ (ih fun u hu=>hl u (List.mem_cons_of_mem _ hu))
   have hv:=hl v (by simp)
   have e:(tl v).map (Core.sg tl N)=(tl v).map (nxt (tl v)):=List.map_congr_left fun d hd=>h.sgE hv hd
   rw [e]
   exact Qtq (h.nodup hv)
 exact key _ fun v hv=>List.mem_range.1 hv
def Laid (tl:Nat→List Nat) (N e:Nat):Prop:=2*e∈dl tl N
theorem MP.odd (h:MP N tl) (he:Laid tl N e):2*e+1∈dl tl N:=by rw [←Qq9];exact h.tw _ he
theorem MP.laid (h:MP N tl) (hd:d∈dl tl N):Laid tl N (d/2):=by
 by_cases h2:d % 2=0
 ·have:2*(d/2)=d:=by omega
  unfold Laid;rw [this];exact hd
 ·have h3:=h.tw d hd
  unfold Core.tw at h3
  rw [if_neg h2] at h3
  have:2*(d/2)=d-1:=by omega
  unfold Laid;rw [this];exact h3
theorem MP.Qcb (h:MP N tl) (he:Laid tl N e):e<N:=by have:=h.lt _ he;omega
def el (tl:Nat→List Nat) (N:Nat):List Nat:=(List.range N).filter fun e=>decide (2*e∈dl tl N)
theorem MP.Qzv (h:MP N tl):e∈el tl N↔Laid tl N e:=by
 unfold el Laid
 rw [List.mem_filter,List.mem_range,decide_eq_true_iff]
 exact ⟨fun h=>h.2,fun k=>⟨h.Qcb k,k⟩⟩
theorem MP.el_nd:(el tl N).Nodup:=List.Nodup.sublist List.filter_sublist List.nodup_range
theorem MP.el_perm (h:MP N tl):((el tl N).flatMap fun e=>[2*e,2*e+1]).Perm (dl tl N):=by
 refine (List.perm_ext_iff_of_nodup ?_ h.nd).2 fun d=>?_
 ·have:∀l:List Nat,l.Nodup→(l.flatMap fun e=>[2*e,2*e+1]).Nodup:=by
   intro l
   induction l with
   | nil=>intro _;exact List.nodup_nil
   | cons x l ih=>
    intro hn
    rw [List.nodup_cons] at hn
    rw [List.flatMap_cons,List.nodup_append]
    refine ⟨by simp,ih hn.2,fun a ha b hb e=>?_⟩
    subst e
    obtain ⟨y,hy,hay⟩:=List.mem_flatMap.1 hb
    simp at ha hay
    have:x=y:=by omega
    exact hn.1 (this ▸ hy)
  exact this _ MP.el_nd
 ·rw [List.mem_flatMap]
  constructor
  ·rintro ⟨e,he,hd⟩
   have hl:=h.Qzv.1 he
   simp at hd
   rcases hd with rfl | rfl
   ·exact hl
   ·exact h.odd hl
  ·intro hd
   refine ⟨d/2,h.Qzv.2 (h.laid hd),?_⟩
   simp
   omega
def b2n (b:Bool):Nat:=if b then 1 else 0
theorem count_par {x1 x2 z1 z2:Bool}:∃k,b2n (x1&&z1)+b2n (x2&&z2)+(b2n (x1&&z2)+b2n (x2&&z1))=b2n ((x1 != x2)&&(z1 != z2))+2*k:=by
 cases x1<;>cases x2<;>cases z1<;>cases z2<;>simp [b2n]<;>(try exact ⟨0,rfl⟩)<;>(try exact ⟨1,rfl⟩)<;>exact ⟨2,rfl⟩
theorem MP.par (h:MP N tl) (X Z:Nat→Bool) (hZ:∀d∈dl tl N,Z (Core.sg tl N (Core.tw d))=Z d) :
  ∃k,((el tl N).map fun e=>b2n ((X (Core.og tl N (2*e)) != X (Core.og tl N (2*e+1)))&&(Z (2*e) != Z (2*e+1)))).sum=2*k:=by
 let G:Nat→Nat:=fun d=>b2n (X (Core.og tl N d)&&Z d)
 let H:Nat→Nat:=fun d=>b2n (X (Core.og tl N d)&&Z (Core.tw d))
 have h1:((dl tl N).map H).sum=((dl tl N).map G).sum:=by
  have e1:(dl tl N).map H=((dl tl N).map (Core.sg tl N)).map G:=by
   rw [List.map_map]
   refine List.map_congr_left fun d hd=>?_
   show b2n (X (Core.og tl N d)&&Z (Core.tw d))=b2n (X (Core.og tl N (Core.sg tl N d))&&Z (Core.sg tl N d))
   rw [(h.Qeo hd).2,←hZ (Core.tw d) (h.tw d hd),tw_tw]
  rw [e1]
  exact (h.sg_perm.map G).sum_nat
 have h2:∀(F:Nat→Nat),((dl tl N).map F).sum=((el tl N).map fun e=>F (2*e)+F (2*e+1)).sum:=by
  intro F
  rw [←(h.el_perm.map F).sum_nat]
  induction (el tl N) with
  | nil=>rfl
  | cons x l ih=>rw [List.flatMap_cons,List.map_append,List.sum_append_nat,ih];simp
 have h3:∃k,((el tl N).map fun e=>G (2*e)+G (2*e+1)).sum+((el tl N).map fun e=>H (2*e)+H (2*e+1)).sum =
   ((el tl N).map fun e=>b2n ((X (Core.og tl N (2*e)) != X (Core.og tl N (2*e+1)))&&(Z (2*e) != Z (2*e+1)))).sum+2*k:=by
  induction (el tl N) with
  | nil=>exact ⟨0,rfl⟩
  | cons x l ih=>
   obtain ⟨k,hk⟩:=ih
   obtain ⟨k2,hk2⟩:=count_par (x1:=X (Core.og tl N (2*x))) (x2:=X (Core.og tl N (2*x+1))) (z1:=Z (2*x)) (z2:=Z (2*x+1))
   refine ⟨k+k2,?_⟩
   simp only [List.map_cons,List.sum_cons]
   have e1:H (2*x)=b2n (X (Core.og tl N (2*x))&&Z (2*x+1)):=by show b2n (X _&&Z (Core.tw (2*x)))=_;rw [Qq9]
   have e2:H (2*x+1)=b2n (X (Core.og tl N (2*x+1))&&Z (2*x)):=by show b2n (X _&&Z (Core.tw (2*x+1)))=_;rw [Qvc]
   rw [e1,e2]
   show b2n (X (Core.og tl N (2*x))&&Z (2*x))+b2n (X (Core.og tl N (2*x+1))&&Z (2*x+1))+_+_=_
   omega
 obtain ⟨k,hk⟩:=h3
 rw [←h2 G,←h2 H,h1] at hk
 exact ⟨((dl tl N).map G).sum-k,by omega⟩
theorem MP.cross (h:MP N tl) {X Z:Nat→Prop} (hZ:∀d∈dl tl N,(Z (Core.sg tl N (Core.tw d))↔Z d)) (he:Laid tl N e) (hx:¬(X (Core.og tl N (2*e))↔X (Core.og tl N (2*e+1)))) (hz:¬(Z (2*e)↔Z (2*e+1))) :
  ∃e',e'≠e∧Laid tl N e'∧¬(X (Core.og tl N (2*e'))↔X (Core.og tl N (2*e'+1)))∧¬(Z (2*e')↔Z (2*e'+1)):=by
 classical
 obtain ⟨k,hk⟩:=h.par (fun v=>decide (X v)) (fun d=>decide (Z d)) (fun d hd=>decide_eq_decide.2 (hZ d hd))
 have conv:∀{p q:Prop} [Decidable p] [Decidable q],(decide p != decide q)=true↔¬(p↔q):=by
  intro p q _ _
  by_cases hp:p<;>by_cases hq:q<;>simp [hp,hq]
 have key:∀l:List Nat,l.Nodup→e∈l→(∀e'∈l,e'≠e→¬(((decide (X (Core.og tl N (2*e'))) != decide (X (Core.og tl N (2*e'+1))))&&(decide (Z (2*e')) != decide (Z (2*e'+1))))=true))→
   (l.map fun e=>b2n ((decide (X (Core.og tl N (2*e))) != decide (X (Core.og tl N (2*e+1))))&&(decide (Z (2*e)) != decide (Z (2*e+1))))).sum=1:=by
  intro l
  induction l with
  | nil=>intro _ h;cases h
  | cons x l ih=>
   intro hn hm hall
   rw [List.nodup_cons] at hn
   simp only [List.map_cons,List.sum_cons]
   rcases List.mem_cons.1 hm with rfl | hm
   ·have h0:(l.map fun e=>b2n ((decide (X (Core.og tl N (2*e))) != decide (X (Core.og tl N (2*e+1))))&&(decide (Z (2*e)) != decide (Z (2*e+1))))).sum=0:=by
     have:∀l':List Nat,(∀y∈l',y∈l)→(l'.map fun e=>b2n ((decide (X (Core.og tl N (2*e))) != decide (X (Core.og tl N (2*e+1))))&&(decide (Z (2*e)) != decide (Z (2*e+1))))).sum=0:=by
      intro l'
      induction l' with
      | nil=>intro _;rfl
      | cons y l' ih2=>
       intro hs
       have hy:=hs y (by simp)
       have:=hall y (List.mem_cons_of_mem _ hy) (fun e=>hn.1 (e ▸ hy))
       simp only [List.map_cons,List.sum_cons]
       rw [ih2 fun u hu=>hs u (List.mem_cons_of_mem _ hu)]
       simp only [Bool.not_eq_true] at this
       rw [this];rfl
     exact this l fun y hy=>hy
    rw [h0]
    have:((decide (X (Core.og tl N (2*e))) != decide (X (Core.og tl N (2*e+1))))&&(decide (Z (2*e)) != decide (Z (2*e+1))))=true:=by
     rw [Bool.and_eq_true,conv,conv];exact ⟨hx,hz⟩
    rw [this];rfl
   ·have hxe:x≠e:=fun h=>hn.1 (h ▸ hm)
    have:=hall x (by simp) hxe
    simp only [Bool.not_eq_true] at this
    rw [this,ih hn.2 hm fun e' he'=>hall e' (List.mem_cons_of_mem _ he')];rfl
 refine Classical.byContradiction fun hno=>?_
 have:=key (el tl N) MP.el_nd (h.Qzv.2 he) (fun e' he' hne hb=>hno ⟨e',hne,h.Qzv.1 he',?_⟩)
 ·rw [this] at hk;omega
 ·rw [Bool.and_eq_true,conv,conv] at hb;exact hb
end
end Core
end Go.Proofs.YtpmicakdjhoafaaGreatDoor
namespace Go.Proofs.YtpmicakdjhoafaaGreatDoor
open Go
namespace Core
open Go.Proofs.YtpmicakdjhoafaaGreatDoor.Seq Go.Proofs.YtpmicakdjhoafaaGreatDoor.Cut Go.Proofs.YtpmicakdjhoafaaGreatDoor.Web
section
variable {a b d e v x y z p:Nat} {A B l:List Nat} {q q':List (List Nat)} {f g:Nat→Nat}
def sw (x y z:Nat):Nat:=if z=x then y else if z=y then x else z
theorem sw_l:sw x y x=y:=by unfold sw;rw [if_pos rfl]
theorem sw_r:sw x y y=x:=by unfold sw;rw [if_pos rfl];split<;>omega
theorem sw_o (h1:z≠x) (h2:z≠y):sw x y z=z:=by unfold sw;rw [if_neg h1,if_neg h2]
theorem sw_sw:sw x y (sw x y z)=z:=by
 by_cases h1:z=x
 ·rw [h1,sw_l,sw_r]
 ·by_cases h2:z=y
  ·rw [h2,sw_r,sw_l]
  ·rw [sw_o h1 h2,sw_o h1 h2]
def Cy (A:List Nat) (x y:Nat):Prop:=Web.Nx A x y∨(A.getLast?=some x∧A.head?=some y)
theorem Cy.mem (h:Cy A x y):x∈A∧y∈A:=by
 rcases h with h | ⟨h1,h2⟩
 ·exact h.mem
 ·exact ⟨List.mem_of_getLast? h1,List.mem_of_head? h2⟩
theorem last_app (hB:B.head?=some b):(A++B).getLast?=B.getLast?:=by
 cases B with
 | nil=>cases hB
 | cons c B=>rw [List.getLast?_append];rw [List.getLast?_eq_some_getLast (by simp)];rfl
theorem Qz0 (hA:A.head?=some a):(A++B).head?=some a:=by rw [List.head?_append,hA];rfl
theorem Qku (hA:A.head?=some a) (hB:B.head?=some b):Cy (A++B) x y↔(Web.Nx A x y∨(A.getLast?=some x∧y=b))∨(Web.Nx B x y∨(B.getLast?=some x∧y=a)):=by
 unfold Cy
 rw [Web.Nx.append,last_app hB,Qz0 hA,hB]
 simp only [Option.some.injEq]
 constructor
 ·rintro ((h | h | ⟨h,e⟩) | ⟨h,e⟩)
  ·exact .inl (.inl h)
  ·exact .inr (.inl h)
  ·exact .inl (.inr ⟨h,e.symm⟩)
  ·exact .inr (.inr ⟨h,e.symm⟩)
 ·rintro ((h | ⟨h,e⟩) | (h | ⟨h,e⟩))
  ·exact .inl (.inl h)
  ·exact .inl (.inr (.inr ⟨h,e.symm⟩))
  ·exact .inl (.inr (.inl h))
  ·exact .inr ⟨h,e.symm⟩
theorem Qq3:Cy (A++B) x y↔Cy (B++A) x y:=by
 cases A with
 | nil=>simp
 | cons a A=>cases B with
  | nil=>simp
  | cons b B=>rw [Qku rfl rfl,Qku rfl rfl,or_comm]
theorem cy_ex (h:x∈A):∃y,Cy A x y:=by
 obtain ⟨p,s,rfl⟩:=List.append_of_mem h
 cases s with
 | nil=>
  have:p++[x]≠[]:=by simp
  cases hh:(p++[x]).head? with
  | none=>rw [List.head?_eq_none_iff] at hh;exact absurd hh this
  | some y=>exact ⟨y,.inr ⟨by simp,hh⟩⟩
 | cons y s=>exact ⟨y,.inl (Web.Nx.append.2 (.inr (.inl (Or.inl ⟨rfl,rfl⟩))))⟩
theorem nx_ne (hn:A.Nodup) (hA:A.head?=some a) (h:Web.Nx A x y):y≠a:=by
 cases A with
 | nil=>cases hA
 | cons c A=>
  simp at hA
  subst hA
  have:y∈A:=by
   rcases h with ⟨_,h⟩ | h
   ·exact List.mem_of_head? h
   ·exact h.mem.2
  rintro rfl
  exact (List.nodup_cons.1 hn).1 this
theorem nx_at:∀{A:List Nat},Web.Nx A x y→∃i,A[i]?=some x∧A[i+1]?=some y
 | c::A,.inl h=>⟨0,by simp [h.1],by rw [List.getElem?_cons_succ,←List.head?_eq_getElem?];exact h.2⟩
 | c::A,.inr h=>by obtain ⟨i,h1,h2⟩:=nx_at h;exact ⟨i+1,by simpa using h1,by simpa using h2⟩
theorem Qz9 (hn:A.Nodup) (h:Cy A x y):nxt A x=y:=by
 rcases h with h | ⟨h1,h2⟩
 ·obtain ⟨i,h1,h2⟩:=nx_at h
  rw [Qzs hn h1,Nat.mod_eq_of_lt (List.getElem?_eq_some_iff.1 h2).1,List.getD_eq_getElem?_getD,h2];rfl
 ·have hne:A≠[]:=by rintro rfl;cases h1
  have hp:0<A.length:=List.length_pos_iff.2 hne
  rw [List.getLast?_eq_getElem?] at h1
  rw [List.head?_eq_getElem?] at h2
  rw [Qzs hn h1,show A.length-1+1=A.length by omega,Nat.mod_self,List.getD_eq_getElem?_getD,h2];rfl
theorem Qxe (hn:A.Nodup) (h:x∈A):Cy A x (nxt A x):=by obtain ⟨y,k⟩:=cy_ex h;rw [Qz9 hn k];exact k
def FQ (f:Nat→Nat) (q:List (List Nat)):Prop:=∀A∈q,∀x y,Cy A x y→f x=y
theorem FQ.perm (h:FQ f q) (p:q.Perm q'):FQ f q':=fun A hA=>h A (p.mem_iff.2 hA)
theorem FQ.rot (h:FQ f ((A++B)::q)):FQ f ((B++A)::q):=by
 intro C hC x y k
 rcases List.mem_cons.1 hC with rfl | hC
 ·exact h _ (by simp) x y (Qq3.1 k)
 ·exact h C (by simp [hC]) x y k
theorem FQ.congr (h:FQ f q) (k:∀A∈q,∀x∈A,g x=f x):FQ g q:=fun A hA x y c=>(k A hA x c.mem.1).trans (h A hA x y c)
theorem Qyo:FQ f (A::q)↔(∀x y,Cy A x y→f x=y)∧FQ f q:=
 ⟨fun h=>⟨h A (by simp),fun B hB=>h B (by simp [hB])⟩,fun h B hB=>by rcases List.mem_cons.1 hB with rfl | hB;exact h.1;exact h.2 B hB⟩
theorem fq_join (hA:A.head?=some a) (hB:B.head?=some b) (hd:(A++B).Nodup) :
  (∀x y,Cy (A++B) x y→sw a b (f x)=y)↔((∀x y,Cy A x y→f x=y)∧∀x y,Cy B x y→f x=y):=by
 obtain ⟨hnA,hnB,hAB⟩:=List.nodup_append.1 hd
 have ha:=List.mem_of_head? hA
 have hb:=List.mem_of_head? hB
 have oA:∀{x y},Web.Nx A x y→y≠a∧y≠b:=fun h=>⟨nx_ne hnA hA h,fun e=>hAB _ h.mem.2 b hb e⟩
 have oB:∀{x y},Web.Nx B x y→y≠a∧y≠b:=fun h=>⟨fun e=>hAB a ha _ h.mem.2 e.symm,nx_ne hnB hB h⟩
 have inj:∀{u y:Nat},sw a b u=y→u=sw a b y:=fun h=>by rw [←h,sw_sw]
 constructor
 ·intro h
  refine ⟨fun x y k=>?_,fun x y k=>?_⟩
  ·rcases k with k | ⟨k1,k2⟩
   ·have:=inj (h x y ((Qku hA hB).2 (.inl (.inl k))))
    rwa [sw_o (oA k).1 (oA k).2] at this
   ·have:=inj (h x b ((Qku hA hB).2 (.inl (.inr ⟨k1,rfl⟩))))
    rw [sw_r] at this
    rw [hA] at k2
    rw [this];exact Option.some.inj k2
  ·rcases k with k | ⟨k1,k2⟩
   ·have:=inj (h x y ((Qku hA hB).2 (.inr (.inl k))))
    rwa [sw_o (oB k).1 (oB k).2] at this
   ·have:=inj (h x a ((Qku hA hB).2 (.inr (.inr ⟨k1,rfl⟩))))
    rw [sw_l] at this
    rw [hB] at k2
    rw [this];exact Option.some.inj k2
 ·rintro ⟨h1,h2⟩ x y k
  rcases (Qku hA hB).1 k with (k | ⟨k,rfl⟩) | (k | ⟨k,rfl⟩)
  ·rw [h1 x y (.inl k),sw_o (oA k).1 (oA k).2]
  ·rw [h1 x a (.inr ⟨k,hA⟩),sw_l]
  ·rw [h2 x y (.inl k),sw_o (oB k).1 (oB k).2]
  ·rw [h2 x b (.inr ⟨k,hB⟩),sw_r]
theorem FQ.others (hd:∀x∈q.flatten,x≠a∧x≠b):FQ (fun x=>sw a b (f x)) q↔FQ f q:=by
 have inj:∀{u y:Nat},sw a b u=y→u=sw a b y:=fun h=>by rw [←h,sw_sw]
 constructor
 ·intro h A hA x y k
  have hy:=hd y (List.mem_flatten.2 ⟨A,hA,k.mem.2⟩)
  have:=inj (h A hA x y k)
  rwa [sw_o hy.1 hy.2] at this
 ·intro h A hA x y k
  have hy:=hd y (List.mem_flatten.2 ⟨A,hA,k.mem.2⟩)
  show sw a b (f x)=y
  rw [h A hA x y k,sw_o hy.1 hy.2]
theorem FQ.join (hA:A.head?=some a) (hB:B.head?=some b) (hd:(A++B++q.flatten).Nodup):FQ (fun x=>sw a b (f x)) ((A++B)::q)↔FQ f (A::B::q):=by
 obtain ⟨h1,h2,h3⟩:=List.nodup_append.1 hd
 rw [Qyo,Qyo,Qyo,fq_join hA hB h1,and_assoc,FQ.others]
 exact fun x hx=>⟨fun e=>h3 a (by simp [List.mem_of_head? hA]) x hx e.symm,fun e=>h3 b (by simp [List.mem_of_head? hB]) x hx e.symm⟩
theorem FQ.cut (hA:A.head?=some a) (hB:B.head?=some b) (hd:(A++B++q.flatten).Nodup) (h:FQ f ((A++B)::q)):FQ (fun x=>sw a b (f x)) (A::B::q):=by
 refine (FQ.join hA hB hd).1 (h.congr fun _ _ x _=>?_)
 rw [sw_sw]
def ins (be:Int) (d:Nat):List Nat→List Nat
 | []=>[d]
 | x::l=>if (x:Int)=be then x::d::l else x::ins be d l
theorem Qh8 {be:Int}:∀{l:List Nat},(ins be d l).Perm (d::l)
 | []=>List.Perm.refl _
 | x::l=>by
  unfold ins
  split
  ·exact List.Perm.swap _ _ _
  ·exact (Qh8.cons x).trans (List.Perm.swap _ _ _)
theorem ins_mid {be:Int} (h1:∀x∈A,(x:Int)≠be) (hb:(b:Int)=be):ins be d (A++b::B)=A++b::d::B:=by
 induction A with
 | nil=>simp [ins,hb]
 | cons c A ih=>
  rw [List.cons_append,ins,if_neg (h1 c (by simp)),ih fun x hx=>h1 x (by simp [hx])];rfl
theorem ins_end {be:Int} (h1:∀x∈A,(x:Int)≠be):ins be d A=A++[d]:=by
 induction A with
 | nil=>rfl
 | cons c A ih=>rw [ins,if_neg (h1 c (by simp)),ih fun x hx=>h1 x (by simp [hx])];rfl
theorem Qrf (h:x∉A):nxt A x=x:=by
 unfold nxt
 cases hi:A.idxOf? x with
 | none=>rfl
 | some i=>exact absurd (by rw [List.idxOf?_eq_some_iff] at hi;obtain ⟨hi,h1,_⟩:=hi;exact List.mem_of_getElem (h:=hi) (by simpa using h1)) h
theorem Qzr {R:List Nat} (hn:(d::l).Nodup) (hR:R.head?=some x) (h1:∀u v,Cy l u v↔Cy R u v) (h2:∀u v,Cy A u v↔Cy ([d]++R) u v) (hA:A.Nodup) (hm:∀u,u∈A↔u=d∨u∈l) (hRn:([d]++R).Nodup) :
  ∀z,nxt A z=sw d x (nxt l z):=by
 intro z
 have key:=(fq_join (A:=[d]) (B:=R) (f:=nxt l) rfl hR hRn).2 ⟨?_,?_⟩
 ·by_cases hz:z∈A
  ·exact (key z _ ((h2 _ _).1 (Qxe hA hz))).symm
  ·have hzl:z∉l:=fun h=>hz ((hm z).2 (.inr h))
   have hx:x∈l:=by
    have hxR:=List.mem_of_head? hR
    obtain ⟨y,hy⟩:=cy_ex hxR
    exact ((h1 _ _).2 hy).mem.1
   rw [Qrf hz,Qrf hzl,sw_o (fun e=>hz ((hm z).2 (.inl e))) (fun e=>hzl (e ▸ hx))]
 ·intro u v k
  have:u=d∧v=d:=by
   rcases k with k | ⟨k1,k2⟩
   ·simp [Web.Nx] at k
   ·simp at k1 k2;exact ⟨k1.symm,k2.symm⟩
  rw [this.1,this.2]
  exact Qrf (List.nodup_cons.1 hn).1
 ·intro u v k
  exact Qz9 (List.nodup_cons.1 hn).2 ((h1 u v).2 k)
theorem cy_self (h:Cy l b x) (hn:l.Nodup):∃p s,l=p++b::s∧(s++p++[b]).head?=some x:=by
 obtain ⟨p,s,rfl⟩:=List.append_of_mem h.mem.1
 refine ⟨p,s,rfl,?_⟩
 have h2:Cy ((s++p)++[b]) b x:=by
  rw [List.append_assoc]
  refine Qq3.1 ?_
  rw [List.append_assoc];exact h
 have hn2:(s++p++[b]).Nodup:=by
  have e2:p++b::s=(p++[b])++s:=by simp
  rw [e2] at hn
  rw [List.append_assoc s p [b]]
  exact List.perm_append_comm.nodup_iff.1 hn
 rcases h2 with h2 | h2
 ·obtain ⟨i,k1,k2⟩:=nx_at h2
  have k3:(s++p++[b])[(s++p).length]?=some b:=by rw [List.getElem?_append_right (Nat.le_refl _)];simp
  have k4:=(List.getElem?_eq_some_iff.1 k2).1
  have k5:i=(s++p).length:=by
   have e1:=(List.getElem?_eq_some_iff.1 k1)
   have e2:=(List.getElem?_eq_some_iff.1 k3)
   exact (List.getElem_inj (h₀:=e1.1) (h₁:=e2.1) hn2).1 (e1.2.trans e2.2.symm)
  simp only [List.length_append,List.length_singleton] at k4 k5
  omega
 ·exact h2.2
theorem nxt_ins {be:Int} (hn:l.Nodup) (hd:d∉l) (hb:(b:Int)=be) (hbl:b∈l):∀z,nxt (ins be d l) z=sw d (nxt l b) (nxt l z):=by
 obtain ⟨p,s,rfl,hx⟩:=cy_self (Qxe hn hbl) hn
 have hbp:∀x∈p,(x:Int)≠be:=by
  intro x hxp e
  exact (List.nodup_append.1 hn).2.2 x hxp b (by simp) (by omega)
 rw [ins_mid hbp hb]
 have hdn:(d::(p++b::s)).Nodup:=List.nodup_cons.2 ⟨hd,hn⟩
 have hpm:(p++b::s).Perm (s++p++[b]):=by
  have e2:p++b::s=(p++[b])++s:=by simp
  rw [e2,List.append_assoc s p [b]]
  exact List.perm_append_comm
 have hA:(p++b::d::s).Perm (d::(p++b::s)):=by
  have e1:p++b::d::s=(p++[b])++d::s:=by simp
  have e2:p++b::s=(p++[b])++s:=by simp
  rw [e1,e2]
  exact List.perm_middle
 refine Qzr (R:=s++p++[b]) hdn hx (fun u v=>?_) (fun u v=>?_) (hA.nodup_iff.2 hdn) (fun u=>by rw [hA.mem_iff,List.mem_cons]) ?_
 ·rw [List.append_assoc]
  have e2:p++b::s=(p++[b])++s:=by simp
  rw [e2];exact Qq3
 ·have e1:p++b::d::s=(p++[b])++([d]++s):=by simp
  have e2:[d]++(s++p++[b])=([d]++s)++(p++[b]):=by simp
  rw [e1,e2];exact Qq3
 ·exact ((hpm.cons d).nodup_iff).1 hdn
theorem Quh:∀z,nxt [d] z=z:=by
 intro z
 by_cases h:z∈[d]
 ·have:=Qxe (by simp) h
  rcases this with k | ⟨k1,k2⟩
  ·simp [Web.Nx] at k
  ·simp at k1 k2 h;rw [←k2,h]
 ·exact Qrf h
theorem nxt_rem (hn:l.Nodup) (hd:d∈l):∀z,nxt (l.filter (·≠d)) z=sw d (nxt l d) (nxt l z):=by
 obtain ⟨p,s,rfl,hx⟩:=cy_self (Qxe hn hd) hn
 have hp:∀x∈p,x≠d:=by
  intro x hxp e
  exact (List.nodup_append.1 hn).2.2 x hxp d (by simp) e
 have hs:∀x∈s,x≠d:=by
  intro x hxs e
  exact (List.nodup_cons.1 (List.nodup_append.1 hn).2.1).1 (e ▸ hxs)
 have hf:(p++d::s).filter (·≠d)=p++s:=by
  rw [List.filter_append,List.filter_cons_of_neg (by simp),List.filter_eq_self.2 fun x hx=>by simpa using hp x hx,List.filter_eq_self.2 fun x hx=>by simpa using hs x hx]
 rw [hf]
 by_cases h0:s++p=[]
 ·obtain ⟨rfl,rfl⟩:=List.append_eq_nil_iff.1 h0
  intro z
  simp only [List.nil_append]
  rw [Quh,Quh]
  have e0:nxt [] z=z:=Qrf (by simp)
  rw [e0]
  by_cases h:z=d
  ·rw [h,sw_l]
  ·rw [sw_o h h]
 ·obtain ⟨x,hx2⟩:∃x,(s++p).head?=some x:=by
   cases hc:s++p with
   | nil=>exact absurd hc h0
   | cons c r=>exact ⟨c,rfl⟩
  have e0:nxt (p++d::s) d=x:=by
   rw [Qz0 hx2] at hx
   exact (Option.some.inj hx).symm
  rw [e0]
  have hpm:(p++d::s).Perm (d::(p++s)):=List.perm_middle
  have hdn:=hpm.nodup_iff.1 hn
  have hcom:(p++s).Perm (s++p):=List.perm_append_comm
  have key:=Qzr (l:=p++s) (A:=p++d::s) (R:=s++p) hdn hx2 (fun u v=>Qq3) (fun u v=>?_) hn (fun u=>by rw [hpm.mem_iff,List.mem_cons]) (((hcom.cons d).nodup_iff).1 hdn)
  ·intro z;rw [key z,sw_sw]
  ·have e1:p++d::s=p++([d]++s):=by simp
   have e2:[d]++(s++p)=([d]++s)++p:=by simp
   rw [e1,e2];exact Qq3
theorem Qzk (hn:l.Nodup) (hd:d∈l):l.Perm (d::l.filter (·≠d)):=by
 refine (List.perm_ext_iff_of_nodup hn ?_).2 fun a=>?_
 ·exact List.nodup_cons.2 ⟨by simp,hn.sublist List.filter_sublist⟩
 ·rw [List.mem_cons,List.mem_filter]
  constructor
  ·intro h
   by_cases e:a=d
   ·exact .inl e
   ·exact .inr ⟨h,by simpa using e⟩
  ·rintro (rfl | h)
   ·exact hd
   ·exact h.1
end
end Core
end Go.Proofs.YtpmicakdjhoafaaGreatDoor
namespace Go.Proofs.YtpmicakdjhoafaaGreatDoor
open Go
namespace Core
open Go.Proofs.YtpmicakdjhoafaaGreatDoor.Seq Go.Proofs.YtpmicakdjhoafaaGreatDoor.Cut Go.Proofs.YtpmicakdjhoafaaGreatDoor.Web
section
variable {N a b d e t v x y z u p:Nat} {l:List Nat} {tl tl':Nat→List Nat} {be:Int}
theorem Qtk (h:z∉dl tl N):sg tl N z=z:=by unfold sg;rw [if_neg h]
theorem Qzp (h:z∉dl tl N):og tl N z=0:=by
 unfold og
 have:((List.range N).find? fun v=>decide (z∈tl v))=none:=by
  rw [List.find?_eq_none]
  intro v hv hd
  exact h (Qbq.2 ⟨v,List.mem_range.1 hv,by simpa using hd⟩)
 rw [this];rfl
theorem dl_upd (hv:v<N) (h:l.Perm (d::tl v)):(dl (upd tl v l) N).Perm (d::dl tl N):=by
 unfold dl
 have key:∀r:List Nat,r.Nodup→(v∈r→(r.flatMap (upd tl v l)).Perm (d::r.flatMap tl))∧(v∉r→r.flatMap (upd tl v l)=r.flatMap tl):=by
  intro r
  induction r with
  | nil=>exact fun _=>⟨fun h=>by (cases h),fun _=>rfl⟩
  | cons w r ih=>
   intro hn
   obtain ⟨h1,h2⟩:=ih (List.nodup_cons.1 hn).2
   refine ⟨fun hm=>?_,fun hm=>?_⟩
   ·rw [List.flatMap_cons,List.flatMap_cons]
    by_cases hw:w=v
    ·subst hw
     rw [Qab,h2 (List.nodup_cons.1 hn).1]
     exact h.append_right _
    ·rw [Qak _ _ hw]
     have:=h1 (by rcases List.mem_cons.1 hm with e | e;exact absurd e.symm hw;exact e)
     exact (this.append_left _).trans List.perm_middle
   ·rw [List.flatMap_cons,List.flatMap_cons,Qak _ _ (fun e=>hm (by simp [e])),h2 fun e=>hm (by simp [e])]
 exact (key _ List.nodup_range).1 (List.mem_range.2 hv)
def put1 (tl:Nat→List Nat) (v:Nat) (be:Int) (d:Nat):Nat→List Nat:=upd tl v (ins be d (tl v))
def lift1 (tl:Nat→List Nat) (v d:Nat):Nat→List Nat:=upd tl v ((tl v).filter (·≠d))
theorem dl_put (hv:v<N):(dl (put1 tl v be d) N).Perm (d::dl tl N):=dl_upd hv Qh8
theorem ND.putM (h:ND N tl) (hv:v<N) (hd:d∉dl tl N) (hd2:d<2*N):ND N (put1 tl v be d):=by
 have hp:=dl_put (tl:=tl) (be:=be) (d:=d) hv
 refine ⟨hp.nodup_iff.2 (List.nodup_cons.2 ⟨hd,h.nd⟩),fun x hx=>?_⟩
 rcases List.mem_cons.1 (hp.mem_iff.1 hx) with rfl | hx
 ·exact hd2
 ·exact h.lt x hx
theorem Qhi (hv:v<N):z∈dl (put1 tl v be d) N↔z=d∨z∈dl tl N:=by rw [(dl_put hv).mem_iff,List.mem_cons]
theorem ND.og_put (h:ND N tl) (hv:v<N) (hd:d∉dl tl N) (hd2:d<2*N):og (put1 tl v be d) N z=if z=d then v else og tl N z:=by
 have h':=h.putM (be:=be) hv hd hd2
 by_cases hz:z=d
 ·rw [if_pos hz,hz]
  exact h'.ogE hv (by unfold put1;rw [Qab];exact Qh8.mem_iff.2 (by simp))
 ·rw [if_neg hz]
  by_cases hm:z∈dl tl N
  ·obtain ⟨h1,h2⟩:=Qcc hm
   refine h'.ogE h1 ?_
   unfold put1
   by_cases e:og tl N z=v
   ·rw [e,Qab];exact Qh8.mem_iff.2 (List.mem_cons_of_mem _ (e ▸ h2))
   ·rw [Qak _ _ e];exact h2
  ·rw [Qzp hm,Qzp fun k=>((Qhi hv).1 k).elim hz hm]
theorem ND.sg_upd (h:ND N tl) (h':ND N (upd tl v l)) (hv:v<N) (hd:d∉dl tl N) (hl:∀z,z∈l↔z=d∨z∈tl v) (hx:x=d∨x∈tl v) (hk:∀z,nxt l z=sw d x (nxt (tl v) z)):sg (upd tl v l) N z=sw d x (sg tl N z):=by
 have hdx:∀{y},y∈dl tl N→og tl N y≠v→y≠d∧y≠x:=by
  intro y hy ho
  have h1:y≠d:=fun e=>hd (e ▸ hy)
  refine ⟨h1,fun e=>?_⟩
  rcases hx with hx | hx
  ·exact h1 (e.trans hx)
  ·exact ho (h.ogE hv (e ▸ hx))
 by_cases hz:z∈l
 ·rw [h'.sgE hv (by rw [Qab];exact hz),Qab,hk]
  rcases (hl z).1 hz with rfl | hz2
  ·rw [Qtk hd,Qrf fun hz2=>hd (Qbq.2 ⟨v,hv,hz2⟩)]
  ·rw [h.sgE hv hz2]
 ·by_cases hm:z∈dl tl N
  ·obtain ⟨h1,h2⟩:=Qcc hm
   have hov:og tl N z≠v:=fun e=>hz ((hl z).2 (.inr (e ▸ h2)))
   rw [h'.sgE h1 (by rw [Qak _ _ hov];exact h2),Qak _ _ hov,←h.sgE h1 h2]
   have h3:=h.Qeo hm
   have h4:=hdx h3.1 (by rw [h3.2];exact hov)
   rw [sw_o h4.1 h4.2]
  ·have hzd:z≠d:=fun e=>hz ((hl z).2 (.inl e))
   have hzx:z≠x:=fun e=>by
    rcases hx with hx | hx
    ·exact hzd (e.trans hx)
    ·exact hm (Qbq.2 ⟨v,hv,e ▸ hx⟩)
   have hm':z∉dl (upd tl v l) N:=by
    intro hm'
    obtain ⟨u,hu,hzu⟩:=Qbq.1 hm'
    by_cases e:u=v
    ·rw [e,Qab] at hzu;exact hz hzu
    ·rw [Qak _ _ e] at hzu;exact hm (Qbq.2 ⟨u,hu,hzu⟩)
   rw [Qtk hm',Qtk hm,sw_o hzd hzx]
theorem ND.Qub (h:ND N tl) (hv:v<N) (hd:d∉dl tl N) (hd2:d<2*N) (hb:b∈tl v) (hbe:(b:Int)=be):sg (put1 tl v be d) N z=sw d (sg tl N b) (sg tl N z):=by
 have hn:=h.nodup hv
 have hdl:d∉tl v:=fun k=>hd (Qbq.2 ⟨v,hv,k⟩)
 rw [h.sgE hv hb]
 exact h.sg_upd (h.putM hv hd hd2) hv hd (fun z=>by rw [Qh8.mem_iff,List.mem_cons]) (.inr (Qwe hn hb)) (nxt_ins hn hdl hbe hb)
theorem ND.Qrc (h:ND N tl) (hv:v<N) (hd:d∉dl tl N) (hd2:d<2*N) (h0:tl v=[]):sg (put1 tl v be d) N z=sg tl N z:=by
 have e0:ins be d (tl v)=[d]:=by rw [h0];rfl
 have:=h.sg_upd (l:=ins be d (tl v)) (x:=d) (z:=z) (h.putM hv hd hd2) hv hd (fun z=>by rw [Qh8.mem_iff,List.mem_cons]) (.inl rfl) (fun z=>by
  rw [e0,Quh,h0,Qrf (by simp)]
  by_cases e:z=d
  ·rw [e,sw_l]
  ·rw [sw_o e e])
 unfold put1
 rw [this]
 by_cases e:sg tl N z=d
 ·rw [e,sw_l]
 ·rw [sw_o e e]
theorem ND.sg_put1 (h:ND N tl) (hv:v<N) (hd:d∉dl tl N) (hd2:d<2*N) (h0:tl v=[b]) (hb:(b:Int)≠be):sg (put1 tl v be d) N z=sw d b (sg tl N z):=by
 have e0:ins be d (tl v)=ins (b:Int) d (tl v):=by rw [h0];simp [ins,hb]
 have e1:put1 tl v be d=put1 tl v (b:Int) d:=by unfold put1;rw [e0]
 have hbm:b∈tl v:=by rw [h0];simp
 rw [e1,h.Qub hv hd hd2 hbm rfl,h.sgE hv hbm,h0,Quh]
theorem map_inj {f:Nat→Nat}:∀{l:List Nat},(l.map f).Nodup→x∈l→y∈l→f x=f y→x=y
 | [],_,h,_,_=>by cases h
 | c::l,hn,hx,hy,e=>by
  rw [List.map_cons,List.nodup_cons] at hn
  rcases List.mem_cons.1 hx with ex | kx<;>rcases List.mem_cons.1 hy with ey | ky
  ·rw [ex,ey]
  ·exact absurd (List.mem_map.2 ⟨y,ky,by rw [←e,ex]⟩) hn.1
  ·exact absurd (List.mem_map.2 ⟨x,kx,by rw [e,ey]⟩) hn.1
  ·exact map_inj hn.2 kx ky e
theorem ND.Qtl (h:ND N tl) (hx:x∈dl tl N) (hy:y∈dl tl N) (e:sg tl N x=sg tl N y):x=y:=
 map_inj (h.sg_perm.nodup_iff.2 h.nd) hx hy e
theorem Qxf (h:ND N tl) (hv:v<N) (hd:d∈tl v):(dl tl N).Perm (d::dl (lift1 tl v d) N):=by
 have e:tl=upd (lift1 tl v d) v (tl v):=by
  funext u
  by_cases k:u=v
  ·rw [k,Qab]
  ·rw [Qak _ _ k];unfold lift1;rw [Qak _ _ k]
 conv=>lhs;rw [e]
 refine dl_upd hv ?_
 have e2:lift1 tl v d v=(tl v).filter (·≠d):=Qab _ _ _
 rw [e2]
 exact Qzk (h.nodup hv) hd
theorem ND.liftD (h:ND N tl) (hv:v<N) (hd:d∈tl v):ND N (lift1 tl v d):=by
 have hp:=Qxf h hv hd
 exact ⟨(List.nodup_cons.1 (hp.nodup_iff.1 h.nd)).2,fun x hx=>h.lt x (hp.mem_iff.2 (List.mem_cons_of_mem _ hx))⟩
theorem Ql6 (h:ND N tl) (hv:v<N) (hd:d∈tl v):z∈dl (lift1 tl v d) N↔z≠d∧z∈dl tl N:=by
 have hp:=Qxf h hv hd
 have hn:=List.nodup_cons.1 (hp.nodup_iff.1 h.nd)
 constructor
 ·intro k;exact ⟨fun e=>hn.1 (e ▸ k),hp.mem_iff.2 (List.mem_cons_of_mem _ k)⟩
 ·rintro ⟨k1,k2⟩
  rcases List.mem_cons.1 (hp.mem_iff.1 k2) with e | e
  ·exact absurd e k1
  ·exact e
theorem ND.Qug (h:ND N tl) (hv:v<N) (hd:d∈tl v) (hz:z≠d):og (lift1 tl v d) N z=og tl N z:=by
 by_cases hm:z∈dl tl N
 ·obtain ⟨h1,h2⟩:=Qcc ((Ql6 h hv hd).2 ⟨hz,hm⟩)
  refine (h.ogE h1 ?_).symm
  unfold lift1 at h2
  by_cases e:og (upd tl v (List.filter (fun x=>decide (x≠d)) (tl v))) N z=v
  ·rw [e,Qab] at h2
   show z∈tl (og (upd tl v (List.filter (fun x=>decide (x≠d)) (tl v))) N z)
   rw [e];exact (List.mem_filter.1 h2).1
  ·rw [Qak _ _ e] at h2;exact h2
 ·rw [Qzp hm,Qzp fun k=>hm ((Ql6 h hv hd).1 k).2]
theorem ND.Qv2 (h:ND N tl) (hv:v<N) (hd:d∈tl v):sg (lift1 tl v d) N z=sw d (sg tl N d) (sg tl N z):=by
 have h':=h.liftD hv hd
 have hn:=h.nodup hv
 have e:upd (lift1 tl v d) v (tl v)=tl:=by
  funext u
  by_cases k:u=v
  ·rw [k,Qab]
  ·rw [Qak _ _ k];unfold lift1;rw [Qak _ _ k]
 have e2:lift1 tl v d v=(tl v).filter (·≠d):=Qab _ _ _
 have hx:=Qwe hn hd
 have key:=h'.sg_upd (v:=v) (l:=tl v) (d:=d) (x:=nxt (tl v) d) (z:=z) (by rw [e];exact h) hv (fun k=>((Ql6 h hv hd).1 k).1 rfl) (fun z=>?_) ?_ (fun z=>?_)
 ·rw [e] at key
  rw [h.sgE hv hd,key,sw_sw]
 ·rw [e2,List.mem_filter]
  constructor
  ·intro k
   by_cases e:z=d
   ·exact .inl e
   ·exact .inr ⟨k,by simpa using e⟩
  ·rintro (e | k)
   ·rw [e];exact hd
   ·exact k.1
 ·rw [e2,List.mem_filter]
  by_cases k:nxt (tl v) d=d
  ·exact .inl k
  ·exact .inr ⟨hx,by simpa using k⟩
 ·rw [e2,nxt_rem hn hd,sw_sw]
def ph (tl:Nat→List Nat) (N d:Nat):Nat:=if d∈dl tl N then sg tl N (tw d) else d
theorem Qd3 (h:z∉dl tl N):ph tl N z=z:=by unfold ph;rw [if_neg h]
theorem MP.phE (h:MP N tl) (hd:d∈dl tl N):Core.ph tl N d=Core.sg tl N (Core.tw d):=by unfold Core.ph;rw [if_pos hd]
theorem MP.Qvf (h:MP N tl) (hd:d∈dl tl N):Core.ph tl N d∈dl tl N:=by rw [h.phE hd];exact (h.Qeo (h.tw d hd)).1
theorem MP.og_ph (h:MP N tl) (hd:d∈dl tl N):Core.og tl N (Core.ph tl N d)=Core.og tl N (Core.tw d):=by rw [h.phE hd];exact (h.Qeo (h.tw d hd)).2
theorem MP.ph_inj (h:MP N tl) (e:Core.ph tl N x=Core.ph tl N y):x=y:=by
 by_cases hx:x∈dl tl N<;>by_cases hy:y∈dl tl N
 ·rw [h.phE hx,h.phE hy] at e
  have:=h.Qtl (h.tw x hx) (h.tw y hy) e
  rw [←tw_tw x,this,tw_tw]
 ·have:=h.Qvf hx
  rw [e,Qd3 hy] at this;exact absurd this hy
 ·have:=h.Qvf hy
  rw [←e,Qd3 hx] at this;exact absurd this hx
 ·rw [Qd3 hx,Qd3 hy] at e;exact e
def lay (tl:Nat→List Nat) (e v:Nat) (be:Int) (w:Nat) (ce:Int):Nat→List Nat:=put1 (put1 tl v be (2*e)) w ce (2*e+1)
def lift (tl:Nat→List Nat) (N e:Nat):Nat→List Nat:=lift1 (lift1 tl (og tl N (2*e+1)) (2*e+1)) (og tl N (2*e)) (2*e)
theorem MP.Qi6 (h:MP N tl) (he:¬Laid tl N e):2*e+1∉dl tl N:=fun k=>he (by have:=h.laid k;rwa [show (2*e+1)/2=e by omega] at this)
theorem Qi7 {w:Nat} {ce:Int} (hv:v<N) (hw:w<N):z∈dl (lay tl e v be w ce) N↔z=2*e+1∨z=2*e∨z∈dl tl N:=by
 unfold lay;rw [Qhi hw,Qhi hv]
theorem MP.layM {w:Nat} {ce:Int} (h:MP N tl) (he:¬Laid tl N e) (heN:e<N) (hv:v<N) (hw:w<N):MP N (Core.lay tl e v be w ce):=by
 have h1:=h.toND.putM (be:=be) hv he (by omega)
 have h2:ND N (Core.lay tl e v be w ce):=h1.putM hw (fun k=>((Qhi hv).1 k).elim (by omega) (h.Qi6 he)) (by omega)
 refine ⟨h2,fun d hd=>?_⟩
 rw [Qi7 hv hw] at hd ⊢
 rcases hd with rfl | rfl | hd
 ·rw [Qvc];exact .inr (.inl rfl)
 ·rw [Qq9];exact .inl rfl
 ·exact .inr (.inr (h.tw d hd))
theorem MP.Qq1 {w:Nat} {ce:Int} (h:MP N tl) (he:¬Laid tl N e) (heN:e<N) (hv:v<N) (hw:w<N):Core.og (Core.lay tl e v be w ce) N z=if z=2*e+1 then w else if z=2*e then v else Core.og tl N z:=by
 have h1:=h.toND.putM (be:=be) hv he (by omega)
 unfold Core.lay
 rw [h1.og_put hw (fun k=>((Qhi hv).1 k).elim (by omega) (h.Qi6 he)) (by omega),h.og_put hv he (by omega)]
theorem MP.liftM (h:MP N tl) (he:Laid tl N e):MP N (Core.lift tl N e)∧∀z,z∈dl (Core.lift tl N e) N↔z≠2*e∧z≠2*e+1∧z∈dl tl N:=by
 obtain ⟨a1,a2⟩:=Qcc (h.odd he)
 obtain ⟨b1,b2⟩:=Qcc he
 have h1:=h.toND.liftD a1 a2
 have hm:2*e∈dl (lift1 tl (Core.og tl N (2*e+1)) (2*e+1)) N:=(Ql6 h.toND a1 a2).2 ⟨by omega,he⟩
 have b3:=(Qcc hm).2
 rw [h.Qug a1 a2 (by omega)] at b3
 have h2:=h1.liftD b1 b3
 have hz:∀z,z∈dl (Core.lift tl N e) N↔z≠2*e∧z≠2*e+1∧z∈dl tl N:=fun z=>by
  unfold Core.lift;rw [Ql6 h1 b1 b3,Ql6 h.toND a1 a2]
 refine ⟨⟨h2,fun d hd=>?_⟩,hz⟩
 have h3:=(hz d).1 hd
 refine (hz _).2 ⟨fun k=>?_,fun k=>?_,h.tw d h3.2.2⟩
 ·have:=tw_tw d;rw [k,Qq9] at this;exact h3.2.1 this.symm
 ·have:=tw_tw d;rw [k,Qvc] at this;exact h3.1 this.symm
theorem MP.Qs2 (h:MP N tl) (he:Laid tl N e):(∀z,z≠2*e→z≠2*e+1→Core.og (Core.lift tl N e) N z=Core.og tl N z)∧
  ∀z,Core.sg (Core.lift tl N e) N z=sw (2*e) (sw (2*e+1) (Core.sg tl N (2*e+1)) (Core.sg tl N (2*e))) (sw (2*e+1) (Core.sg tl N (2*e+1)) (Core.sg tl N z)):=by
 obtain ⟨a1,a2⟩:=Qcc (h.odd he)
 obtain ⟨b1,b2⟩:=Qcc he
 have h1:=h.toND.liftD a1 a2
 have hm:2*e∈dl (lift1 tl (Core.og tl N (2*e+1)) (2*e+1)) N:=(Ql6 h.toND a1 a2).2 ⟨by omega,he⟩
 have b3:=(Qcc hm).2
 rw [h.Qug a1 a2 (by omega)] at b3
 refine ⟨fun z k1 k2=>?_,fun z=>?_⟩
 ·unfold Core.lift;rw [h1.Qug b1 b3 k1,h.Qug a1 a2 k2]
 ·unfold Core.lift;rw [h1.Qv2 b1 b3,h.Qv2 a1 a2,h.Qv2 a1 a2]
end
end Core
end Go.Proofs.YtpmicakdjhoafaaGreatDoor
namespace Go.Proofs.YtpmicakdjhoafaaGreatDoor
open Go
namespace Core
open Go.Proofs.YtpmicakdjhoafaaGreatDoor.Seq Go.Proofs.YtpmicakdjhoafaaGreatDoor.Cut Go.Proofs.YtpmicakdjhoafaaGreatDoor.Web
section
variable {N b c e v w x y z X Y:Nat} {tl:Nat→List Nat} {be ce:Int}
theorem MP.Quk (h:MP N tl) (he:¬Laid tl N e) (heN:e<N) (hv:v<N):ND N (put1 tl v be (2*e))∧2*e+1∉dl (put1 tl v be (2*e)) N:=
 ⟨h.toND.putM hv he (by omega),fun k=>((Qhi hv).1 k).elim (by omega) (h.Qi6 he)⟩
theorem Qyi (hc:c∈tl w):c∈put1 tl v be e w:=by
 unfold put1
 by_cases k:w=v
 ·subst k;rw [Qab];exact Qh8.mem_iff.2 (List.mem_cons_of_mem _ hc)
 ·rw [Qak _ _ k];exact hc
theorem MP.sgL (h:MP N tl) (he:¬Laid tl N e) (heN:e<N) (hv:v<N) (hw:w<N) (hb:b∈tl v) (hbe:(b:Int)=be) (hc:c∈tl w) (hce:(c:Int)=ce) :
  sg (lay tl e v be w ce) N z=sw (2*e+1) (sw (2*e) (sg tl N b) (sg tl N c)) (sw (2*e) (sg tl N b) (sg tl N z)):=by
 obtain ⟨h1,h2⟩:=h.Quk (be:=be) he heN hv
 unfold lay
 rw [h1.Qub hw h2 (by omega) (Qyi hc) hce,h.Qub hv he (by omega) hb hbe,h.Qub hv he (by omega) hb hbe]
theorem MP.sgL_a (h:MP N tl) (he:¬Laid tl N e) (heN:e<N) (hv:v<N) (hw:w<N) (hb:tl v=[]) (hc:c∈tl w) (hce:(c:Int)=ce) :
  sg (lay tl e v be w ce) N z=sw (2*e+1) (sg tl N c) (sg tl N z):=by
 obtain ⟨h1,h2⟩:=h.Quk (be:=be) he heN hv
 unfold lay
 rw [h1.Qub hw h2 (by omega) (Qyi hc) hce,h.Qrc hv he (by omega) hb,h.Qrc hv he (by omega) hb]
theorem MP.sgL_b (h:MP N tl) (he:¬Laid tl N e) (heN:e<N) (hv:v<N) (hw:w<N) (hb:b∈tl v) (hbe:(b:Int)=be) (hc:tl w=[]) :
  sg (lay tl e v be w ce) N z=sw (2*e) (sg tl N b) (sg tl N z):=by
 obtain ⟨h1,h2⟩:=h.Quk (be:=be) he heN hv
 have hvw:w≠v:=by rintro rfl;rw [hc] at hb;cases hb
 unfold lay
 rw [h1.Qrc hw h2 (by omega) (by unfold put1;rw [Qak _ _ hvw];exact hc),h.Qub hv he (by omega) hb hbe]
theorem MP.sgL_ab (h:MP N tl) (he:¬Laid tl N e) (heN:e<N) (hv:v<N) (hw:w<N) (hvw:w≠v) (hb:tl v=[]) (hc:tl w=[]) :
  sg (lay tl e v be w ce) N z=sg tl N z:=by
 obtain ⟨h1,h2⟩:=h.Quk (be:=be) he heN hv
 unfold lay
 rw [h1.Qrc hw h2 (by omega) (by unfold put1;rw [Qak _ _ hvw];exact hc),h.Qrc hv he (by omega) hb]
theorem MP.sgL_aa (h:MP N tl) (he:¬Laid tl N e) (heN:e<N) (hv:v<N) (hb:tl v=[]) (hce:ce=-1) :
  sg (lay tl e v be v ce) N z=sw (2*e+1) (2*e) (sg tl N z):=by
 obtain ⟨h1,h2⟩:=h.Quk (be:=be) he heN hv
 unfold lay
 rw [h1.sg_put1 hv h2 (by omega) (by unfold put1;rw [Qab,hb];rfl) (by omega),h.Qrc hv he (by omega) hb]
theorem MP.phB (h:MP N tl) (he:¬Laid tl N e) (heN:e<N) (hv:v<N) (hw:w<N) (hX:X=2*e∨X∈dl tl N) (hY:Y=2*e+1∨Y=2*e∨Y∈dl tl N)
  (hs:∀z,sg (lay tl e v be w ce) N z=sw (2*e+1) Y (sw (2*e) X (sg tl N z))) :
  ph (lay tl e v be w ce) N (2*e)=sw (2*e+1) Y (sw (2*e) X (2*e+1))∧ph (lay tl e v be w ce) N (2*e+1)=sw (2*e+1) Y X∧
   ∀z,z≠2*e→z≠2*e+1→ph (lay tl e v be w ce) N z=sw (2*e+1) Y (sw (2*e) X (ph tl N z))∧ph tl N z≠2*e∧ph tl N z≠2*e+1:=by
 have h':=h.layM (be:=be) (ce:=ce) he heN hv hw
 have ho:=h.Qi6 he
 refine ⟨?_,?_,fun z k1 k2=>?_⟩
 ·rw [h'.phE ((Qi7 hv hw).2 (.inr (.inl rfl))),Qq9,hs,Qtk ho]
 ·rw [h'.phE ((Qi7 hv hw).2 (.inl rfl)),Qvc,hs,Qtk he,sw_l]
 ·by_cases hz:z∈dl tl N
  ·have h3:=h.Qvf hz
   refine ⟨?_,fun k=>he (show 2*e∈dl tl N from k ▸ h3),fun k=>ho (k ▸ h3)⟩
   rw [h'.phE ((Qi7 hv hw).2 (.inr (.inr hz))),hs,h.phE hz]
  ·rw [Qd3 hz,Qd3 fun k=>((Qi7 hv hw).1 k).elim k2 fun k=>k.elim k1 hz]
   refine ⟨?_,k1,k2⟩
   have e1:z≠X:=fun k=>hX.elim (fun e=>k1 (k.trans e)) fun e=>hz (k ▸ e)
   have e2:z≠Y:=fun k=>hY.elim (fun e=>k2 (k.trans e)) fun e=>e.elim (fun e=>k1 (k.trans e)) fun e=>hz (k ▸ e)
   rw [sw_o k1 e1,sw_o k2 e2]
theorem MP.Qsy (h:MP N tl) (he:¬Laid tl N e) (hv:v<N) (hb:b∈tl v):sg tl N b∈dl tl N∧sg tl N b≠2*e∧sg tl N b≠2*e+1:=by
 have h1:=(h.Qeo (Qbq.2 ⟨v,hv,hb⟩)).1
 exact ⟨h1,fun k=>he (show 2*e∈dl tl N from k ▸ h1),fun k=>h.Qi6 he (k ▸ h1)⟩
theorem MP.phL (h:MP N tl) (he:¬Laid tl N e) (heN:e<N) (hv:v<N) (hw:w<N) (hb:b∈tl v) (hbe:(b:Int)=be) (hc:c∈tl w) (hce:(c:Int)=ce) (hbc:b≠c) :
  ∀z,ph (lay tl e v be w ce) N z=sw (sg tl N c) (2*e) (sw (sg tl N b) (2*e+1) (sw (sg tl N b) (sg tl N c) (ph tl N z)))∧
   ph (lay tl e v be w ce) N z=sw (sg tl N b) (sg tl N c) (sw (sg tl N c) (2*e+1) (sw (sg tl N b) (2*e) (ph tl N z))):=by
 obtain ⟨x1,x2,x3⟩:=h.Qsy he hv hb
 obtain ⟨y1,y2,y3⟩:=h.Qsy he hw hc
 have hxy:sg tl N b≠sg tl N c:=fun k=>hbc (h.Qtl (Qbq.2 ⟨v,hv,hb⟩) (Qbq.2 ⟨w,hw,hc⟩) k)
 obtain ⟨k1,k2,k3⟩:=h.phB (X:=sg tl N b) (Y:=sg tl N c) he heN hv hw (.inr x1) (.inr (.inr y1)) (fun z=>by rw [h.sgL he heN hv hw hb hbe hc hce,sw_o y2 hxy.symm])
 intro z
 generalize sg tl N b=x at *
 generalize sg tl N c=y at *
 have f1:=Qd3 he
 have f2:=Qd3 (h.Qi6 he)
 generalize ph (lay tl e v be w ce) N=F at *
 generalize ph tl N=f at *
 clear h he hb hc
 generalize hd:2*e=d at *
 generalize ht:d+1=t at *
 have t1:d≠t:=by omega
 clear ht hd
 by_cases hzd:z=d
 ·subst hzd
  rw [k1,f1]
  unfold sw
  simp [t1,t1.symm,x2,x3,y2,y3,hxy,x2.symm,x3.symm,y2.symm,y3.symm,hxy.symm]
 by_cases hzt:z=t
 ·subst hzt
  rw [k2,f2]
  unfold sw
  simp [t1,t1.symm,x2,x3,y2,y3,hxy,x2.symm,x3.symm,y2.symm,y3.symm,hxy.symm]
 obtain ⟨k4,k5,k6⟩:=k3 z hzd hzt
 rw [k4]
 generalize f z=u at *
 by_cases hux:u=x
 ·subst hux
  unfold sw
  simp [t1,t1.symm,x2,x3,y2,y3,hxy,x2.symm,x3.symm,y2.symm,y3.symm,hxy.symm]
 by_cases huy:u=y
 ·subst huy
  unfold sw
  simp [t1,t1.symm,x2,x3,y2,y3,hxy,x2.symm,x3.symm,y2.symm,y3.symm,hxy.symm]
 unfold sw
 simp [k5,k6,hux,huy]
theorem Qsu:sw x x z=z:=by
 by_cases h:z=x
 ·rw [h,sw_l]
 ·rw [sw_o h h]
theorem MP.phL_same (h:MP N tl) (he:¬Laid tl N e) (heN:e<N) (hv:v<N) (hb:b∈tl v) (hbe:(b:Int)=be) :
  ∀z,ph (lay tl e v be v be) N z=sw (sg tl N b) (2*e+1) (ph tl N z):=by
 obtain ⟨x1,x2,x3⟩:=h.Qsy he hv hb
 obtain ⟨k1,k2,k3⟩:=h.phB (X:=sg tl N b) (Y:=2*e) (be:=be) (ce:=be) he heN hv hv (.inr x1) (.inr (.inl rfl)) (fun z=>by rw [h.sgL he heN hv hv hb hbe hb hbe,sw_r])
 have f1:=Qd3 he
 have f2:=Qd3 (h.Qi6 he)
 intro z
 generalize sg tl N b=x at *
 generalize ph (lay tl e v be v be) N=F at *
 generalize ph tl N=f at *
 clear h he hb
 generalize hd:2*e=d at *
 generalize ht:d+1=t at *
 have t1:d≠t:=by omega
 clear ht hd
 by_cases hzd:z=d
 ·subst hzd
  rw [k1,f1]
  unfold sw
  simp [t1,t1.symm,x2,x3,x2.symm,x3.symm]
 by_cases hzt:z=t
 ·subst hzt
  rw [k2,f2]
  unfold sw
  simp [t1,t1.symm,x2,x3,x2.symm,x3.symm]
 obtain ⟨k4,k5,k6⟩:=k3 z hzd hzt
 rw [k4]
 generalize f z=u at *
 by_cases hu:u=x
 ·subst hu
  unfold sw
  simp [t1,t1.symm,x2,x3,x2.symm,x3.symm]
 unfold sw
 simp [k5,k6,hu]
theorem MP.phL_own (h:MP N tl) (he:¬Laid tl N e) (heN:e<N) (hv:v<N) (hb:tl v=[]) (hce:ce=-1) :
  ∀z,ph (lay tl e v be v ce) N z=ph tl N z:=by
 obtain ⟨k1,k2,k3⟩:=h.phB (X:=2*e) (Y:=2*e) (be:=be) (ce:=ce) he heN hv hv (.inl rfl) (.inr (.inl rfl)) (fun z=>by rw [h.sgL_aa he heN hv hb hce,Qsu])
 have f1:=Qd3 he
 have f2:=Qd3 (h.Qi6 he)
 intro z
 generalize ph (lay tl e v be v ce) N=F at *
 generalize ph tl N=f at *
 clear h he hb
 generalize hd:2*e=d at *
 generalize ht:d+1=t at *
 have t1:d≠t:=by omega
 clear ht hd
 by_cases hzd:z=d
 ·subst hzd
  rw [k1,f1]
  unfold sw
  simp [t1,t1.symm]
 by_cases hzt:z=t
 ·subst hzt
  rw [k2,f2]
  unfold sw
  simp [t1,t1.symm]
 obtain ⟨k4,k5,k6⟩:=k3 z hzd hzt
 rw [k4]
 generalize f z=u at *
 unfold sw
 simp [k5,k6]
theorem MP.phL_a (h:MP N tl) (he:¬Laid tl N e) (heN:e<N) (hv:v<N) (hw:w<N) (hb:tl v=[]) (hc:c∈tl w) (hce:(c:Int)=ce) :
  ∀z,ph (lay tl e v be w ce) N z=sw (2*e) (sg tl N c) (sw (sg tl N c) (2*e+1) (ph tl N z)):=by
 obtain ⟨y1,y2,y3⟩:=h.Qsy he hw hc
 obtain ⟨k1,k2,k3⟩:=h.phB (X:=2*e) (Y:=sg tl N c) (be:=be) (ce:=ce) he heN hv hw (.inl rfl) (.inr (.inr y1)) (fun z=>by rw [h.sgL_a he heN hv hw hb hc hce,Qsu])
 have f1:=Qd3 he
 have f2:=Qd3 (h.Qi6 he)
 intro z
 generalize sg tl N c=y at *
 generalize ph (lay tl e v be w ce) N=F at *
 generalize ph tl N=f at *
 clear h he hb hc
 generalize hd:2*e=d at *
 generalize ht:d+1=t at *
 have t1:d≠t:=by omega
 clear ht hd
 by_cases hzd:z=d
 ·subst hzd
  rw [k1,f1]
  unfold sw
  simp [t1,t1.symm,y2,y3,y2.symm,y3.symm]
 by_cases hzt:z=t
 ·subst hzt
  rw [k2,f2]
  unfold sw
  simp [t1,t1.symm,y2,y3,y2.symm,y3.symm]
 obtain ⟨k4,k5,k6⟩:=k3 z hzd hzt
 rw [k4]
 generalize f z=u at *
 by_cases hu:u=y
 ·subst hu
  unfold sw
  simp [t1,t1.symm,y2,y3,y2.symm,y3.symm]
 unfold sw
 simp [k5,k6,hu]
theorem MP.phL_b (h:MP N tl) (he:¬Laid tl N e) (heN:e<N) (hv:v<N) (hw:w<N) (hb:b∈tl v) (hbe:(b:Int)=be) (hc:tl w=[]) :
  ∀z,ph (lay tl e v be w ce) N z=sw (sg tl N b) (2*e+1) (sw (sg tl N b) (2*e) (ph tl N z)):=by
 obtain ⟨x1,x2,x3⟩:=h.Qsy he hv hb
 obtain ⟨k1,k2,k3⟩:=h.phB (X:=sg tl N b) (Y:=2*e+1) (be:=be) (ce:=ce) he heN hv hw (.inr x1) (.inl rfl) (fun z=>by rw [h.sgL_b he heN hv hw hb hbe hc,Qsu])
 have f1:=Qd3 he
 have f2:=Qd3 (h.Qi6 he)
 intro z
 generalize sg tl N b=x at *
 generalize ph (lay tl e v be w ce) N=F at *
 generalize ph tl N=f at *
 clear h he hb hc
 generalize hd:2*e=d at *
 generalize ht:d+1=t at *
 have t1:d≠t:=by omega
 clear ht hd
 by_cases hzd:z=d
 ·subst hzd
  rw [k1,f1]
  unfold sw
  simp [t1,t1.symm,x2,x3,x2.symm,x3.symm]
 by_cases hzt:z=t
 ·subst hzt
  rw [k2,f2]
  unfold sw
  simp [t1,t1.symm,x2,x3,x2.symm,x3.symm]
 obtain ⟨k4,k5,k6⟩:=k3 z hzd hzt
 rw [k4]
 generalize f z=u at *
 by_cases hu:u=x
 ·subst hu
  unfold sw
  simp [t1,t1.symm,x2,x3,x2.symm,x3.symm]
 unfold sw
 simp [k5,k6,hu]
theorem MP.phL_ab (h:MP N tl) (he:¬Laid tl N e) (heN:e<N) (hv:v<N) (hw:w<N) (hvw:w≠v) (hb:tl v=[]) (hc:tl w=[]) :
  ∀z,ph (lay tl e v be w ce) N z=sw (2*e) (2*e+1) (ph tl N z):=by
 obtain ⟨k1,k2,k3⟩:=h.phB (X:=2*e) (Y:=2*e+1) (be:=be) (ce:=ce) he heN hv hw (.inl rfl) (.inl rfl) (fun z=>by rw [h.sgL_ab he heN hv hw hvw hb hc,Qsu,Qsu])
 have f1:=Qd3 he
 have f2:=Qd3 (h.Qi6 he)
 intro z
 generalize ph (lay tl e v be w ce) N=F at *
 generalize ph tl N=f at *
 clear h he hb hc
 generalize hd:2*e=d at *
 generalize ht:d+1=t at *
 have t1:d≠t:=by omega
 clear ht hd
 by_cases hzd:z=d
 ·subst hzd
  rw [k1,f1]
  unfold sw
  simp [t1,t1.symm]
 by_cases hzt:z=t
 ·subst hzt
  rw [k2,f2]
  unfold sw
  simp [t1,t1.symm]
 obtain ⟨k4,k5,k6⟩:=k3 z hzd hzt
 rw [k4]
 generalize f z=u at *
 unfold sw
 simp [k5,k6]
theorem MP.ph_lift (h:MP N tl) (he:Laid tl N e) {x y:Nat} (hx:sg tl N (2*e)=x) (hy:sg tl N (2*e+1)=y) :
  (x=2*e∨x=2*e+1∨y=2*e∨y=2*e+1→∀z,ph (lift tl N e) N z=sw (2*e+1) (sw (2*e) y x) (sw (2*e) y (ph tl N z)))∧
  (¬(x=2*e∨x=2*e+1∨y=2*e∨y=2*e+1)→∀z,ph (lift tl N e) N z=sw x y (sw (2*e+1) (sw (2*e) y x) (sw (2*e) y (ph tl N z)))):=by
 obtain ⟨hm,hz⟩:=h.liftM he
 have ho:=h.odd he
 obtain ⟨_,hs⟩:=h.Qs2 he
 have hxy:x≠y:=fun k=>by have:=h.Qtl he ho (hx.trans (k.trans hy.symm));omega
 have fd:ph tl N (2*e)=y:=by rw [h.phE he,Qq9,hy]
 have ft:ph tl N (2*e+1)=x:=by rw [h.phE ho,Qvc,hx]
 have xm:x∈dl tl N:=hx ▸ (h.Qeo he).1
 have ym:y∈dl tl N:=hy ▸ (h.Qeo ho).1
 have Fd:ph (lift tl N e) N (2*e)=2*e:=Qd3 fun k=>((hz _).1 k).1 rfl
 have Ft:ph (lift tl N e) N (2*e+1)=2*e+1:=Qd3 fun k=>((hz _).1 k).2.1 rfl
 have Fz:∀z,z≠2*e→z≠2*e+1→ph (lift tl N e) N z=sw (2*e) (sw (2*e+1) y x) (sw (2*e+1) y (ph tl N z))∧ph tl N z≠x∧ph tl N z≠y:=by
  intro z k1 k2
  refine ⟨?_,fun k=>k2 (h.ph_inj (k.trans ft.symm)),fun k=>k1 (h.ph_inj (k.trans fd.symm))⟩
  by_cases k3:z∈dl tl N
  ·rw [hm.phE ((hz z).2 ⟨k1,k2,k3⟩),hs,hx,hy,h.phE k3]
  ·rw [Qd3 k3,Qd3 fun k=>k3 ((hz z).1 k).2.2]
   have kx:z≠x:=fun k=>k3 (k ▸ xm)
   have ky:z≠y:=fun k=>k3 (k ▸ ym)
   rw [sw_o k2 ky,sw_o k1]
   unfold sw
   repeat' split
   all_goals assumption
 generalize ph (lift tl N e) N=F at *
 generalize ph tl N=f at *
 clear h he ho hs hz xm ym hm hx hy
 generalize hd:2*e=d at *
 generalize ht:d+1=t at *
 have t1:d≠t:=by omega
 clear ht hd
 have key:∀z,(z=d∧F z=d∧f z=y)∨(z=t∧F z=t∧f z=x)∨(F z=sw d (sw t y x) (sw t y (f z))∧f z≠x∧f z≠y):=by
  intro z
  by_cases h1:z=d
  ·subst h1;exact .inl ⟨rfl,Fd,fd⟩
  by_cases h2:z=t
  ·subst h2;exact .inr (.inl ⟨rfl,Ft,ft⟩)
  exact .inr (.inr (Fz z h1 h2))
 constructor
 ·intro hc z
  rcases key z with ⟨_,k2,k3⟩ | ⟨_,k2,k3⟩ | ⟨k2,k4,k5⟩
  ·rw [k2,k3]
   unfold sw
   rcases hc with rfl | rfl | rfl | rfl<;>simp [t1,t1.symm,hxy,hxy.symm]<;>(repeat' split)<;>(try simp_all)<;>(try omega)
  ·rw [k2,k3]
   unfold sw
   rcases hc with rfl | rfl | rfl | rfl<;>simp [t1,t1.symm,hxy,hxy.symm]<;>(repeat' split)<;>(try simp_all)<;>(try omega)
  ·rw [k2]
   generalize f z=u at *
   unfold sw
   rcases hc with rfl | rfl | rfl | rfl<;>simp [t1,t1.symm,hxy,hxy.symm,k4,k5]<;>(repeat' split)<;>(try simp_all)<;>(try omega)
 ·intro hc z
  simp only [not_or] at hc
  obtain ⟨c1,c2,c3,c4⟩:=hc
  rcases key z with ⟨_,k2,k3⟩ | ⟨_,k2,k3⟩ | ⟨k2,k4,k5⟩
  ·rw [k2,k3]
   unfold sw
   simp [t1,t1.symm,hxy,hxy.symm,c1,c2,c3,c4,Ne.symm c1,Ne.symm c2,Ne.symm c3,Ne.symm c4]
  ·rw [k2,k3]
   unfold sw
   simp [t1,t1.symm,hxy,hxy.symm,c1,c2,c3,c4,Ne.symm c1,Ne.symm c2,Ne.symm c3,Ne.symm c4]
  ·rw [k2]
   generalize f z=u at *
   unfold sw
   by_cases ud:u=d
   ·subst ud
    simp [t1,t1.symm,hxy,hxy.symm,c1,c2,c3,c4,Ne.symm c1,Ne.symm c2,Ne.symm c3,Ne.symm c4,k4,k5]
   by_cases ut:u=t
   ·subst ut
    simp [t1,t1.symm,hxy,hxy.symm,c1,c2,c3,c4,Ne.symm c1,Ne.symm c2,Ne.symm c3,Ne.symm c4,k4,k5]
   simp [t1,t1.symm,hxy,hxy.symm,c1,c2,c3,c4,Ne.symm c1,Ne.symm c2,Ne.symm c3,Ne.symm c4,k4,k5,ud,ut]
end
end Core
end Go.Proofs.YtpmicakdjhoafaaGreatDoor
namespace Go.Proofs.YtpmicakdjhoafaaGreatDoor
open Go
namespace Core
open Go.Proofs.YtpmicakdjhoafaaGreatDoor.Seq Go.Proofs.YtpmicakdjhoafaaGreatDoor.Cut Go.Proofs.YtpmicakdjhoafaaGreatDoor.Web
section
variable {a b c d e f g n u v x y z:Nat} {A B0:List Nat} {q q':List (List Nat)} {D D' B B':Nat→Option (Nat × Nat)} {E E':Nat→Nat→Prop}
def SF (q:List (List Nat)) (x y:Nat):Prop:=∃A∈q,x∈A∧y∈A
def TE (D:Nat→Option (Nat × Nat)) (x y:Nat):Prop:=∃e,D e=some (x,y)∨D e=some (y,x)
def LK (q:List (List Nat)) (D:Nat→Option (Nat × Nat)):Nat→Nat→Prop:=RT (fun x y=>SF q x y∨TE D x y)
theorem SF.symm (h:SF q x y):SF q y x:=by obtain ⟨A,h1,h2,h3⟩:=h;exact ⟨A,h1,h3,h2⟩
theorem TE.symm (h:TE D x y):TE D y x:=by obtain ⟨e,h⟩:=h;exact ⟨e,h.symm⟩
theorem LK.refl:LK q D x x:=RT.refl
theorem LK.trans (h:LK q D x y) (k:LK q D y z):LK q D x z:=RT.trans h k
theorem LK.symm (h:LK q D x y):LK q D y x:=RT.symm (fun x y h=>h.imp SF.symm TE.symm) h
theorem LK.sf (h:SF q x y):LK q D x y:=RT.one (.inl h)
theorem LK.te (h:D e=some (x,y)):LK q D x y:=RT.one (.inr ⟨e,.inl h⟩)
theorem LK.mono (hq:∀x y,SF q x y→SF q' x y) (hD:∀e p,D e=some p→D' e=some p) (h:LK q D x y):LK q' D' x y:=
 RT.mono (fun x y k=>k.imp (hq x y) fun ⟨e,k⟩=>⟨e,k.imp (hD e _) (hD e _)⟩) h
theorem LK.less (h:LK q (upd D e none) x y):LK q D x y:=h.mono (fun _ _ h=>h) fun i p k=>by
 by_cases hi:i=e
 ·rw [hi,Qab] at k;cases k
 ·rwa [Qak _ _ hi] at k
theorem SF.perm (p:q.Perm q') (h:SF q x y):SF q' x y:=by obtain ⟨A,h1,h2⟩:=h;exact ⟨A,p.mem_iff.1 h1,h2⟩
theorem Qym (p:q.Perm q'):LK q D x y↔LK q' D x y:=⟨LK.mono (fun _ _=>SF.perm p) fun _ _ h=>h,LK.mono (fun _ _=>SF.perm p.symm) fun _ _ h=>h⟩
theorem rt_map (p:Nat→Nat) (k:∀x y,E x y→RT E' (p x) (p y)) (h:RT E a b):RT E' (p a) (p b):=by
 induction h with
 | refl=>exact .refl
 | step _ e ih=>exact ih.trans (k _ _ e)
theorem Qyd (hs:∀x y,E x y→E y x) (hE:∀x y,E' x y↔E x y∨(x=u∧y=v)∨(x=v∧y=u)):RT E' a b↔RT E a b∨(RT E a u∧RT E v b)∨(RT E a v∧RT E u b):=by
 have up:∀{a b},RT E a b→RT E' a b:=fun h=>h.mono fun x y k=>(hE x y).2 (.inl k)
 have l1:E' u v:=(hE u v).2 (.inr (.inl ⟨rfl,rfl⟩))
 have l2:E' v u:=(hE v u).2 (.inr (.inr ⟨rfl,rfl⟩))
 constructor
 ·intro h
  induction h with
  | refl=>exact .inl .refl
  | @step b c _ k ih=>
   rcases (hE b c).1 k with k | ⟨rfl,rfl⟩ | ⟨rfl,rfl⟩
   ·exact ih.imp (fun h=>h.step k) (Or.imp (fun h=>⟨h.1,h.2.step k⟩) fun h=>⟨h.1,h.2.step k⟩)
   ·rcases ih with h | h | h
    ·exact .inr (.inl ⟨h,.refl⟩)
    ·exact .inl (h.1.trans (h.2.symm hs))
    ·exact .inl h.1
   ·rcases ih with h | h | h
    ·exact .inr (.inr ⟨h,.refl⟩)
    ·exact .inl h.1
    ·exact .inl (h.1.trans (h.2.symm hs))
 ·rintro (h | h | h)
  ·exact up h
  ·exact ((up h.1).step l1).trans (up h.2)
  ·exact ((up h.1).step l2).trans (up h.2)
theorem Qr0 (h:D e=none):upd D e none=D:=by rw [←h];exact Qp5 D e
theorem lk_add (h:D e=none):LK q (upd D e (some (u,v))) a b↔LK q D a b∨(LK q D a u∧LK q D v b)∨(LK q D a v∧LK q D u b):=by
 refine Qyd (fun x y h=>h.imp SF.symm TE.symm) fun x y=>?_
 rw [or_assoc]
 refine or_congr Iff.rfl ⟨?_,?_⟩
 ·rintro ⟨i,k⟩
  by_cases hi:i=e
  ·rw [hi,Qab] at k
   rcases k with k | k
   ·cases k;exact .inr (.inl ⟨rfl,rfl⟩)
   ·cases k;exact .inr (.inr ⟨rfl,rfl⟩)
  ·rw [Qak _ _ hi] at k;exact .inl ⟨i,k⟩
 ·rintro (⟨i,k⟩ | ⟨rfl,rfl⟩ | ⟨rfl,rfl⟩)
  ·refine ⟨i,?_⟩
   have hi:i≠e:=by rintro rfl;rw [h] at k;rcases k with k | k<;>cases k
   rw [Qak _ _ hi];exact k
  ·exact ⟨e,.inl (Qab _ _ _)⟩
  ·exact ⟨e,.inr (Qab _ _ _)⟩
theorem Qs4 (h:D e=some (u,v)):LK q D a b↔LK q (upd D e none) a b∨(LK q (upd D e none) a u∧LK q (upd D e none) v b)∨(LK q (upd D e none) a v∧LK q (upd D e none) u b):=by
 have e0:D=upd (upd D e none) e (some (u,v)):=by rw [Qoi,←h,Qp5]
 conv=>lhs;rw [e0]
 exact lk_add (Qab _ _ _)
theorem lk_join {A0:List Nat} (hx:x∈A0) (hy:y∈B0):LK ((A0++B0)::q) D a b↔LK (A0::B0::q) D a b∨(LK (A0::B0::q) D a x∧LK (A0::B0::q) D y b)∨(LK (A0::B0::q) D a y∧LK (A0::B0::q) D x b):=by
 have hA:∀{u v},u∈A0→v∈A0→SF (A0::B0::q) u v:=fun h1 h2=>⟨A0,by simp,h1,h2⟩
 have hB:∀{u v},u∈B0→v∈B0→SF (A0::B0::q) u v:=fun h1 h2=>⟨B0,by simp,h1,h2⟩
 have e0:RT (fun u v=>(SF (A0::B0::q) u v∨TE D u v)∨(u=x∧v=y)∨(u=y∧v=x)) a b↔LK (A0::B0::q) D a b∨(LK (A0::B0::q) D a x∧LK (A0::B0::q) D y b)∨(LK (A0::B0::q) D a y∧LK (A0::B0::q) D x b):=Qyd (fun x y h=>h.imp SF.symm TE.symm) fun u v=>Iff.rfl
 rw [←e0]
 constructor
 ·refine RT.bind fun u v k=>?_
  rcases k with ⟨C,hC,hu,hv⟩ | k
  ·rcases List.mem_cons.1 hC with rfl | hC
   ·rcases List.mem_append.1 hu with hu | hu<;>rcases List.mem_append.1 hv with hv | hv
    ·exact RT.one (.inl (.inl (hA hu hv)))
    ·exact ((RT.one (.inl (.inl (hA hu hx)))).step (.inr (.inl ⟨rfl,rfl⟩))).step (.inl (.inl (hB hy hv)))
    ·exact ((RT.one (.inl (.inl (hB hu hy)))).step (.inr (.inr ⟨rfl,rfl⟩))).step (.inl (.inl (hA hx hv)))
    ·exact RT.one (.inl (.inl (hB hu hv)))
   ·exact RT.one (.inl (.inl ⟨C,by simp [hC],hu,hv⟩))
  ·exact RT.one (.inl (.inr k))
 ·have hxy:SF ((A0++B0)::q) x y:=⟨A0++B0,by simp,by simp [hx],by simp [hy]⟩
  refine RT.mono fun u v k=>?_
  rcases k with (⟨C,hC,hu,hv⟩ | k) | ⟨rfl,rfl⟩ | ⟨rfl,rfl⟩
  ·rcases List.mem_cons.1 hC with rfl | hC
   ·exact .inl ⟨C++B0,by simp,by simp [hu],by simp [hv]⟩
   ·rcases List.mem_cons.1 hC with rfl | hC
    ·exact .inl ⟨A0++C,by simp,by simp [hu],by simp [hv]⟩
    ·exact .inl ⟨C,by simp [hC],hu,hv⟩
  ·exact .inr k
  ·exact .inl hxy
  ·exact .inl hxy.symm
def itm (D:Nat→Option (Nat × Nat)) (n z:Nat):Nat:=if z<n then z else match D (z-n) with
 | some p=>p.1
 | none=>z
theorem Qu5 (hq:∀x∈q.flatten,x<n) (hD:∀e a b,D e=some (a,b)→a<n∧b<n) (ha:a<n) (hb:b<n):RT (EW q D n) a b↔LK q D a b:=by
 constructor
 ·intro h
  have hi:∀{z},z<n→itm D n z=z:=fun h=>by unfold itm;rw [if_pos h]
  have hn:∀{e p},D e=some p→itm D n (n+e)=p.1:=fun {e p} h=>by
   unfold itm;rw [if_neg (by omega),show n+e-n=e by omega,h]
  have key:=rt_map (E':=fun x y=>SF q x y∨TE D x y) (itm D n) (fun x y k=>?_) h
  ·rwa [hi ha,hi hb] at key
  ·rcases k with k | ⟨e,u,v,k1,k2⟩
   ·have hm:=Qz4 k
    rw [hi (hq x hm.1),hi (hq y hm.2)]
    obtain ⟨A,hA,k⟩:=k
    rcases k with k | k
    ·exact RT.one (.inl ⟨A,hA,k.mem.1,k.mem.2⟩)
    ·exact RT.one (.inl ⟨A,hA,k.mem.2,k.mem.1⟩)
   ·have huv:=hD e u v k1
    have l:RT (fun x y=>SF q x y∨TE D x y) u v:=RT.one (.inr ⟨e,.inl k1⟩)
    have l2:RT (fun x y=>SF q x y∨TE D x y) v u:=RT.one (.inr ⟨e,.inr k1⟩)
    rcases k2 with ⟨rfl,rfl | rfl⟩ | ⟨rfl,rfl | rfl⟩
    ·rw [hn k1,hi huv.1];exact .refl
    ·rw [hn k1,hi huv.2];exact l2
    ·rw [hn k1,hi huv.1];exact .refl
    ·rw [hn k1,hi huv.2];exact l
 ·refine RT.bind fun x y k=>?_
  rcases k with ⟨A,hA,h1,h2⟩ | ⟨e,k⟩
  ·exact Qs6 hA (fun u v h=>.inl h) h1 h2
  ·rcases k with k | k
   ·exact (RT.one (.inr ⟨e,_,_,k,.inl ⟨rfl,.inl rfl⟩⟩)).step (.inr ⟨e,_,_,k,.inr ⟨rfl,.inr rfl⟩⟩)
   ·exact (RT.one (.inr ⟨e,_,_,k,.inl ⟨rfl,.inr rfl⟩⟩)).step (.inr ⟨e,_,_,k,.inr ⟨rfl,.inl rfl⟩⟩)
def FO (q:List (List Nat)) (D:Nat→Option (Nat × Nat)):Prop:=∀e a b,D e=some (a,b)→¬LK q (upd D e none) a b
theorem fo_of {h:Array Obj} {F L M:Nat} {val:Nat→Int} (k:AE h F L M val (EW q D n)) (hq:∀x∈q.flatten,x<n) (hD:∀e a b,D e=some (a,b)→a<n∧b<n) (hne:∀e a b,D e=some (a,b)→a≠b):FO q D:=by
 intro e a b he hl
 have hD':∀i u v,upd D e none i=some (u,v)→u<n∧v<n:=fun i u v k=>by
  by_cases hi:i=e
  ·rw [hi,Qab] at k;cases k
  ·rw [Qak _ _ hi] at k;exact hD i u v k
 have hab:=hD e a b he
 have hr:=(Qu5 hq hD' hab.1 hab.2).2 hl
 have hE:EW q D n a (n+e):=.inr ⟨e,a,b,he,.inl ⟨rfl,.inl rfl⟩⟩
 refine rt_cut k hE ?_
 have h1:RT (fun x y=>EW q D n x y∧¬((x=a∧y=n+e)∨(x=n+e∧y=a))) a b:=by
  refine hr.mono fun x y k=>⟨?_,?_⟩
  ·rcases k with k | ⟨i,u,v,k1,k2⟩
   ·exact .inl k
   ·refine .inr ⟨i,u,v,?_,k2⟩
    by_cases hi:i=e
    ·rw [hi,Qab] at k1;cases k1
    ·rwa [Qak _ _ hi] at k1
  ·rintro (⟨rfl,rfl⟩ | ⟨rfl,rfl⟩)
   ·exact Qse (Qab _ _ _) hq hD' k
   ·exact Qse (Qab _ _ _) hq hD' k.symm
 refine h1.step ⟨.inr ⟨e,a,b,he,.inl ⟨rfl,.inr rfl⟩⟩,?_⟩
 rintro (⟨k,_⟩ | ⟨k,_⟩)
 ·exact hne e a b he k.symm
 ·omega
theorem way_no {h:Array Obj} {F L M:Nat} {val:Nat→Int} {l:List Nat} (k:AE h F L M val (EW q D n)) (hnM:n≤M) (hq:∀x∈q.flatten,x<n) (hD:∀e a b,D e=some (a,b)→a<n∧b<n) (ha:a<n) (hb:b<n) (hl:Cut.Way (EW q D n) a b l) :
  (n+e∈l↔¬LK q (upd D e none) a b):=by
 have hD':∀i u v,upd D e none i=some (u,v)→u<n∧v<n:=fun i u v k=>by
  by_cases hi:i=e
  ·rw [hi,Qab] at k;cases k
  ·rw [Qak _ _ hi] at k;exact hD i u v k
 have hsub:∀x y,EW q (upd D e none) n x y→EW q D n x y:=by
  rintro x y (k | ⟨i,u,v,k1,k2⟩)
  ·exact .inl k
  ·refine .inr ⟨i,u,v,?_,k2⟩
   by_cases hi:i=e
   ·rw [hi,Qab] at k1;cases k1
   ·rwa [Qak _ _ hi] at k1
 constructor
 ·intro hm hlk
  obtain ⟨l',hl'⟩:=((Qu5 hq hD' ha hb).2 hlk).way
  have e1:=k.uniq (by omega) hl (hl'.congr hsub)
  subst e1
  have:=lk_rt hl'.hd hl'.lk _ hm
  rcases Qye this with e | ⟨c,hc⟩
  ·omega
  ·exact Qse (Qab _ _ _) hq hD' hc
 ·intro hn
  refine Classical.byContradiction fun hm=>hn ?_
  refine (Qu5 hq hD' ha hb).1 ?_
  refine way_rt (l:=l) ⟨hl.hd,hl.la,hl.nd,?_⟩
  have key:∀l:List Nat,n+e∉l→Lk (EW q D n) l→Lk (EW q (upd D e none) n) l:=by
   intro l
   induction l with
   | nil=>intro _ _;trivial
   | cons c l ih=>
    intro hm hk
    refine ⟨fun y hy=>?_,ih (fun h=>hm (by simp [h])) hk.2⟩
    have hyl:=List.mem_of_head? hy
    rcases hk.1 y hy with k | ⟨i,u,v,k1,k2⟩
    ·exact .inl k
    ·refine .inr ⟨i,u,v,?_,k2⟩
     have hi:i≠e:=by
      rintro rfl
      rcases k2 with ⟨rfl,_⟩ | ⟨rfl,_⟩
      ·exact hm (by simp [hyl])
      ·exact hm (by simp)
     rw [Qak _ _ hi];exact k1
  exact key l hm hl.lk
theorem exch {a1 a2 b1 b2 g1 g2:Nat} (hF:FO q D) (ha:D a=some (a1,a2)) (hg:D g=some (g1,g2)) (hga:g≠a) (hb:upd D a none b=none) (hgb:g≠b) (hn:¬LK q (upd D a none) b1 b2)
  (h:¬LK q (upd (upd (upd D a none) b (some (b1,b2))) g none) x y):¬LK q (upd D g none) x y∨(¬LK q (upd D a none) x y∧¬LK q (upd D g none) b1 b2):=by
 have c1:∀{α:Type} (s:Nat→α) (i j:Nat) (u v:α),i≠j→upd (upd s i u) j v=upd (upd s j v) i u:=by
  intro α s i j u v hij
  funext k
  unfold upd
  by_cases k1:k=i<;>by_cases k2:k=j<;>simp [k1,k2]<;>omega
 rw [c1 _ b g _ _ hgb.symm] at h
 have hTb:upd (upd D a none) g none b=none:=by
  rw [Qak _ _ hgb.symm];exact hb
 rw [lk_add hTb] at h
 simp only [not_or] at h
 obtain ⟨h1,h2,h3⟩:=h
 have eg:LK q (upd D g none)=LK q (upd D g none):=rfl
 have hga':upd D g none a=some (a1,a2):=by rw [Qak _ _ hga.symm];exact ha
 have hag':upd D a none g=some (g1,g2):=by rw [Qak _ _ hga];exact hg
 have back:∀x y,LK q (upd D g none) x y↔LK q (upd (upd D a none) g none) x y∨(LK q (upd (upd D a none) g none) x a1∧LK q (upd (upd D a none) g none) a2 y)∨(LK q (upd (upd D a none) g none) x a2∧LK q (upd (upd D a none) g none) a1 y):=by
  intro x y
  rw [Qs4 hga',c1 _ g a _ _ hga]
 have back2:∀x y,LK q (upd D a none) x y↔LK q (upd (upd D a none) g none) x y∨(LK q (upd (upd D a none) g none) x g1∧LK q (upd (upd D a none) g none) g2 y)∨(LK q (upd (upd D a none) g none) x g2∧LK q (upd (upd D a none) g none) g1 y):=fun x y=>Qs4 hag'
 by_cases k0:LK q (upd D g none) x y
 ·right
  constructor
  ·intro k1
   rcases (back2 x y).1 k1 with k | ⟨k,k'⟩ | ⟨k,k'⟩
   ·exact h1 k
   ·refine hF g g1 g2 hg ?_
    have up:∀{x y},LK q (upd (upd D a none) g none) x y→LK q (upd D g none) x y:=fun k=>(back _ _).2 (.inl k)
    exact (up k).symm.trans (k0.trans (up k').symm)
   ·refine hF g g1 g2 hg ?_
    have up:∀{x y},LK q (upd (upd D a none) g none) x y→LK q (upd D g none) x y:=fun k=>(back _ _).2 (.inl k)
    exact (up k').trans (k0.symm.trans (up k))
  ·intro k1
   rcases (back b1 b2).1 k1 with k | ⟨k,k'⟩ | ⟨k,k'⟩
   ·exact hn (LK.less k)
   ·rcases (back x y).1 k0 with j | ⟨j,j'⟩ | ⟨j,j'⟩
    ·exact h1 j
    ·exact h2 ⟨j.trans k.symm,k'.symm.trans j'⟩
    ·exact h3 ⟨j.trans k',k.trans j'⟩
   ·rcases (back x y).1 k0 with j | ⟨j,j'⟩ | ⟨j,j'⟩
    ·exact h1 j
    ·exact h3 ⟨j.trans k',k.trans j'⟩
    ·exact h2 ⟨j.trans k.symm,k'.symm.trans j'⟩
 ·exact .inl k0
end
end Core
end Go.Proofs.YtpmicakdjhoafaaGreatDoor
namespace Go.Proofs.YtpmicakdjhoafaaGreatDoor
open Go
namespace Core
open Go.Proofs.YtpmicakdjhoafaaGreatDoor.Seq Go.Proofs.YtpmicakdjhoafaaGreatDoor.Cut Go.Proofs.YtpmicakdjhoafaaGreatDoor.Web
structure CB (lim:Nat→Prop) (N:Nat) (tl:Nat→List Nat) (q:List (List Nat)) (B D:Nat→Option (Nat × Nat)):Prop where
 mp:MP N tl
 fq:FQ (ph tl N) q
 nd:q.flatten.Nodup
 al:∀x,x<3*N→∃A∈q,x∈A
 lt:∀x∈q.flatten,x<3*N
 bB:∀i p,B i=some p→Laid tl N i∧p=(og tl N (2*i),og tl N (2*i+1))∧p.1≠p.2
 bD:∀i p,D i=some p→Laid tl N i∧p=(2*i,2*i+1)
 ex:∀i,B i=none∨D i=none
 li:∀i,lim i→B i=none∧D i=none
 cov:∀i,Laid tl N i→lim i∨(B i).isSome∨(D i).isSome
structure CJ (lim:Nat→Prop) (N:Nat) (tl:Nat→List Nat) (q:List (List Nat)) (B D:Nat→Option (Nat × Nat)):Prop extends CB lim N tl q B D where
 fB:FO [] B
 fD:FO q D
def MM (N:Nat) (tl:Nat→List Nat) (B D:Nat→Option (Nat × Nat)) (key:Nat→Int) (but:Nat→Prop):Prop:=
 ∀g f p r,¬but g→B g=some p→D f=some r→¬LK [] (upd B g none) (og tl N (2*f)) (og tl N (2*f+1))→key g<key f
section
variable {N a b c d e f g o u v x y z:Nat} {lim lim':Nat→Prop} {tl tl':Nat→List Nat} {q q':List (List Nat)} {B B' D D':Nat→Option (Nat × Nat)} {key key':Nat→Int}
theorem CB.sf_ph (h:CB lim N tl q B D) (hx:x<3*N):SF q x (ph tl N x):=by
 obtain ⟨A,hA,hxA⟩:=h.al x hx
 obtain ⟨y,hy⟩:=cy_ex hxA
 rw [h.fq A hA x y hy]
 exact ⟨A,hA,hy.mem.1,hy.mem.2⟩
theorem CB.cross (h:CB lim N tl q B D) {B' D':Nat→Option (Nat × Nat)} (hB:∀i p,B' i=some p→p=(og tl N (2*i),og tl N (2*i+1))) (hD:∀i p,D' i=some p→p=(2*i,2*i+1)) {x0 z0:Nat} (he:Laid tl N e)
  (hx:¬(LK [] B' x0 (og tl N (2*e))↔LK [] B' x0 (og tl N (2*e+1)))) (hz:¬(LK q D' z0 (2*e)↔LK q D' z0 (2*e+1))) :
  ∃i,i≠e∧Laid tl N i∧B' i=none∧D' i=none∧¬(LK [] B' x0 (og tl N (2*i))↔LK [] B' x0 (og tl N (2*i+1)))∧¬(LK q D' z0 (2*i)↔LK q D' z0 (2*i+1)):=by
 have hZ:∀d∈dl tl N,(LK q D' z0 (sg tl N (tw d))↔LK q D' z0 d):=by
  intro d hd
  rw [←h.mp.phE hd]
  have hs:LK q D' d (ph tl N d):=LK.sf (h.sf_ph (by have:=h.mp.lt d hd;omega))
  exact ⟨fun k=>k.trans hs.symm,fun k=>k.trans hs⟩
 obtain ⟨i,h1,h2,h3,h4⟩:=h.mp.cross (X:=LK [] B' x0) (Z:=LK q D' z0) hZ he hx hz
 refine ⟨i,h1,h2,?_,?_,h3,h4⟩
 ·cases hb:B' i with
  | none=>rfl
  | some p=>
   obtain rfl:=hB i p hb
   exact absurd ⟨fun k=>k.trans (LK.te hb),fun k=>k.trans (LK.te hb).symm⟩ h3
 ·cases hb:D' i with
  | none=>rfl
  | some p=>
   obtain rfl:=hD i p hb
   exact absurd ⟨fun k=>k.trans (LK.te hb),fun k=>k.trans (LK.te hb).symm⟩ h4
theorem Qje {E:Nat→Nat→Prop} (hs:∀x,E x x) (h:¬E a b):¬(E a a↔E a b):=fun k=>h (k.1 (hs a))
theorem Qdq {D:Nat→Option (Nat × Nat)} {p:Nat × Nat} {i:Nat} (h:upd D e none i=some p):i≠e∧D i=some p:=by
 by_cases hi:i=e
 ·rw [hi,Qab] at h;cases h
 ·rw [Qak _ _ hi] at h;exact ⟨hi,h⟩
theorem Qw3 {D:Nat→Option (Nat × Nat)} {i:Nat} (h:upd D e none i=none):i=e∨D i=none:=by
 by_cases hi:i=e
 ·exact .inl hi
 ·rw [Qak _ _ hi] at h;exact .inr h
theorem CB.bB1 (h:CB lim N tl q B D):∀i p,B i=some p→p=(og tl N (2*i),og tl N (2*i+1)):=fun i p k=>(h.bB i p k).2.1
theorem CB.bD1 (h:CB lim N tl q B D):∀i p,D i=some p→p=(2*i,2*i+1):=fun i p k=>(h.bD i p k).2
theorem CB.bB2 (h:CB lim N tl q B D):∀i p,upd B g none i=some p→p=(og tl N (2*i),og tl N (2*i+1)):=fun i p k=>h.bB1 i p (Qdq k).2
theorem CB.bD2 (h:CB lim N tl q B D):∀i p,upd D g none i=some p→p=(2*i,2*i+1):=fun i p k=>h.bD1 i p (Qdq k).2
theorem CB.no (h:CB lim N tl q B D) (hl:Laid tl N e) (h1:B e=none) (h2:D e=none):lim e:=by
 rcases h.cov e hl with k | k | k
 ·exact k
 ·rw [h1] at k;cases k
 ·rw [h2] at k;cases k
theorem CJ.hang (h:CJ (fun _=>False) N tl q B D) (he:Laid tl N e):LK [] B (og tl N (2*e)) (og tl N (2*e+1)):=by
 refine Classical.byContradiction fun hn=>?_
 cases hD:D e with
 | none=>
  cases hB:B e with
  | none=>exact h.no he hB hD
  | some p=>obtain rfl:=h.bB1 e p hB;exact hn (LK.te hB)
 | some p=>
  obtain rfl:=h.bD1 e p hD
  obtain ⟨i,h1,h2,h3,h4,_⟩:=h.cross (B':=B) (D':=upd D e none) h.bB1 h.bD2 he (Qje (fun _=>LK.refl) hn) (Qje (fun _=>LK.refl) (h.fD e _ _ hD))
  exact h.no h2 h3 ((Qw3 h4).resolve_left h1)
theorem CJ.link (h:CJ (fun _=>False) N tl q B D) (he:Laid tl N e):LK q D (2*e) (2*e+1):=by
 refine Classical.byContradiction fun hn=>?_
 cases hB:B e with
 | none=>
  cases hD:D e with
  | none=>exact h.no he hB hD
  | some p=>obtain rfl:=h.bD1 e p hD;exact hn (LK.te hD)
 | some p=>
  obtain rfl:=h.bB1 e p hB
  obtain ⟨i,h1,h2,h3,h4,_⟩:=h.cross (B':=upd B e none) (D':=D) h.bB2 h.bD1 he (Qje (fun _=>LK.refl) (h.fB e _ _ hB)) (Qje (fun _=>LK.refl) hn)
  exact h.no h2 ((Qw3 h3).resolve_left h1) h4
theorem CJ.ring (h:CJ lim N tl q B D) (hl:∀i,lim i→i=e) (he:Laid tl N e) (hn:¬LK q D (2*e) (2*e+1)) (hg:¬LK [] (upd B g none) (og tl N (2*e)) (og tl N (2*e+1))):¬LK q D (2*g) (2*g+1):=by
 obtain ⟨i,h1,h2,h3,h4,_,h6⟩:=h.cross (B':=upd B g none) (D':=D) h.bB2 h.bD1 he (Qje (fun _=>LK.refl) hg) (Qje (fun _=>LK.refl) hn)
 rcases Qw3 h3 with h3 | h3
 ·subst h3
  exact fun k=>h6 ⟨fun j=>j.trans k,fun j=>j.trans k.symm⟩
 ·exact absurd (hl i (h.no h2 h3 h4)) h1
theorem CJ.Q0g (h:CJ lim N tl q B D) (hl:∀i,lim i→i=e) (he:Laid tl N e) (hB:B e=none) (hn:¬LK [] B (og tl N (2*e)) (og tl N (2*e+1))) (ho:¬LK q (upd D o none) (2*e) (2*e+1)):¬LK [] B (og tl N (2*o)) (og tl N (2*o+1)):=by
 obtain ⟨i,h1,h2,h3,h4,h5,_⟩:=h.cross (B':=B) (D':=upd D o none) h.bB1 h.bD2 he (Qje (fun _=>LK.refl) hn) (Qje (fun _=>LK.refl) ho)
 rcases Qw3 h4 with h4 | h4
 ·subst h4
  exact fun k=>h5 ⟨fun j=>j.trans k,fun j=>j.trans k.symm⟩
 ·exact absurd (hl i (h.no h2 h3 h4)) h1
theorem CJ.among (h:CJ lim N tl q B D) (hl:∀i,lim i→i=e) {p:Nat × Nat} (hf:D f=some p) (hn:¬LK [] B (og tl N (2*f)) (og tl N (2*f+1))):¬LK q (upd D f none) (2*e) (2*e+1):=by
 obtain ⟨hlf,rfl⟩:=h.bD f p hf
 obtain ⟨i,h1,h2,h3,h4,_,h6⟩:=h.cross (B':=B) (D':=upd D f none) h.bB1 h.bD2 hlf (Qje (fun _=>LK.refl) hn) (Qje (fun _=>LK.refl) (h.fD f _ _ hf))
 have h5:=hl i (h.no h2 h3 ((Qw3 h4).resolve_left h1))
 subst h5
 exact fun k=>h6 ⟨fun j=>j.trans k,fun j=>j.trans k.symm⟩
def org (tl:Nat→List Nat) (N x:Nat):Nat:=if 2*N≤x then x-2*N else og tl N x
theorem CJ.near (h:CJ (fun _=>False) N tl q B D) (hl:LK q D x y):LK [] B (org tl N x) (org tl N y):=by
 have ed:∀d,d∈dl tl N→LK [] B (og tl N d) (og tl N (tw d)):=by
  intro d hd
  have k:=h.hang (h.mp.laid hd)
  rcases Nat.mod_two_eq_zero_or_one d with h2 | h2
  ·have e1:2*(d/2)=d:=by omega
   have e2:tw d=2*(d/2)+1:=by unfold tw;rw [if_pos h2];omega
   rw [e2];rwa [e1] at k ⊢
  ·have e1:2*(d/2)+1=d:=by omega
   have e2:tw d=2*(d/2):=by unfold tw;rw [if_neg (by omega)];omega
   rw [e2];rw [e1] at k;exact k.symm
 have lo:∀d,d∈dl tl N→org tl N d=og tl N d:=fun d hd=>by
  have:=h.mp.lt d hd
  unfold org;rw [if_neg (by omega)]
 have st:∀d,LK [] B (org tl N d) (org tl N (ph tl N d)):=by
  intro d
  by_cases hd:d∈dl tl N
  ·rw [lo d hd,lo _ (h.mp.Qvf hd),h.mp.og_ph hd];exact ed d hd
  ·rw [Qd3 hd];exact LK.refl
 refine rt_map (E:=fun x y=>SF q x y∨TE D x y) (E':=fun x y=>SF [] x y∨TE B x y) (org tl N) (fun u v k=>?_) hl
 rcases k with ⟨A,hA,hu,hv⟩ | ⟨i,k⟩
 ·have key:=Qs6 (E:=fun x y=>LK [] B (org tl N x) (org tl N y)) hA (fun u v k=>?_) hu hv
  ·have:∀{v},RT (fun x y=>LK [] B (org tl N x) (org tl N y)) u v→LK [] B (org tl N u) (org tl N v):=by
    intro v k
    induction k with
    | refl=>exact LK.refl
    | step _ k ih=>exact ih.trans k
   exact this key
  ·obtain ⟨C,hC,k⟩:=k
   rcases k with k | k
   ·have:=h.fq C hC u v (.inl k)
    show LK [] B (org tl N u) (org tl N v)
    rw [←this];exact st u
   ·have:=h.fq C hC v u (.inl k)
    show LK [] B (org tl N u) (org tl N v)
    rw [←this];exact (st v).symm
 ·rcases k with k | k
  ·obtain ⟨k1,k2⟩:=h.bD i _ k
   cases k2
   rw [lo _ k1,lo _ (h.mp.odd k1)];exact h.hang k1
  ·obtain ⟨k1,k2⟩:=h.bD i _ k
   cases k2
   rw [lo _ k1,lo _ (h.mp.odd k1)];exact (h.hang k1).symm
theorem MM.mono {but but':Nat→Prop} (h:MM N tl B D key but) (hb:∀g,but g→but' g):MM N tl B D key but':=fun g f p r k=>h g f p r fun j=>k (hb g j)
theorem MM.tie (h:MM N tl B D key fun _=>False) {p:Nat × Nat} (hk:∀g r,B g=some r→¬LK [] (upd B g none) (og tl N (2*e)) (og tl N (2*e+1))→key g<key e):MM N tl B (upd D e (some p)) key fun _=>False:=by
 intro g f r s hb hg hf hn
 by_cases hfe:f=e
 ·subst hfe;exact hk g r hg hn
 ·rw [Qak _ _ hfe] at hf;exact h g f r s hb hg hf hn
theorem CJ.mm_ring (h:CJ lim N tl q B D) {p p':Nat × Nat} (hm:MM N tl B D key fun _=>False) (hB:B e=none) (hg:B g=some p) (hge:¬LK [] (upd B g none) (og tl N (2*e)) (og tl N (2*e+1)))
  (hk:key e<key g) (hmax:∀i r,i≠g→B i=some r→¬LK [] (upd B i none) (og tl N (2*e)) (og tl N (2*e+1))→key i<key g) :
  MM N tl (upd (upd B g none) e (some (og tl N (2*e),og tl N (2*e+1)))) (upd D g (some p')) key fun _=>False:=by
 have heg:e≠g:=by rintro rfl;rw [hB] at hg;cases hg
 have hBe:upd B g none e=none:=by rw [Qak _ _ heg];exact hB
 obtain rfl:=h.bB1 g p hg
 intro i f r s _ hi hf hn
 by_cases hie:i=e
 ·subst hie
  have e0:upd (upd (upd B g none) i (some (og tl N (2*i),og tl N (2*i+1)))) i none=upd B g none:=by rw [Qoi,Qr0 hBe]
  rw [e0] at hn
  by_cases hfg:f=g
  ·subst hfg;exact hk
  ·rw [Qak _ _ hfg] at hf
   have:=hm g f _ s (fun h=>h) hg hf hn
   omega
 ·rw [Qak _ _ hie] at hi
  obtain ⟨hig,hi'⟩:=Qdq hi
  clear hi
  have hi:=hi'
  clear hi'
  obtain rfl:=h.bB1 i r hi
  have hx:=exch h.fB hg hi hig hBe hie hge hn
  by_cases hfg:f=g
  ·subst hfg
   rcases hx with k | ⟨_,k⟩
   ·exact absurd (LK.te (by rw [Qak _ _ (Ne.symm hig)];exact hg)) k
   ·exact hmax i _ hig hi k
  ·rw [Qak _ _ hfg] at hf
   rcases hx with k | ⟨k,k'⟩
   ·exact hm i f _ s (fun h=>h) hi hf k
   ·have h1:=hm g f _ s (fun h=>h) hg hf k
    have h2:=hmax i _ hig hi k'
    omega
theorem CJ.Qzt {lim':Nat→Prop} {p po:Nat × Nat} (h:CJ lim N tl q (upd B e none) D) (hl:∀i,lim i→i=e) (hle:Laid tl N e) (hFB:FO [] B) (hB:B e=some p) (hp:p=(og tl N (2*e),og tl N (2*e+1))) (hm:MM N tl B D key fun i=>i=e) (hD:D o=some po)
  (ho:¬LK q (upd D o none) (2*e) (2*e+1)) (hmin:∀i r,i≠o→D i=some r→¬LK q (upd D i none) (2*e) (2*e+1)→key o<key i) :
  MM N tl (upd (upd B e none) o (some (og tl N (2*o),og tl N (2*o+1)))) (upd D o none) key (fun _=>False)∧
  ∀i r,upd (upd B e none) o (some (og tl N (2*o),og tl N (2*o+1))) i=some r→¬LK [] (upd (upd (upd B e none) o (some (og tl N (2*o),og tl N (2*o+1)))) i none) (og tl N (2*e)) (og tl N (2*e+1))→key i≤key o:=by
 subst hp
 have hBo:upd B e none o=none:=by
  rcases h.ex o with k | k
  ·exact k
  ·rw [hD] at k;cases k
 have hlo:=(h.bD o po hD).1
 have he0:∀{x},LK [] (upd B e none) (og tl N (2*e)) (og tl N (2*e+1))→x:=fun k=>absurd k (hFB e _ _ hB)
 have hno:¬LK [] (upd B e none) (og tl N (2*o)) (og tl N (2*o+1)):=by
  exact h.Q0g hl hle (Qab _ _ _) (fun k=>he0 k) ho
 have hmo:∀i f r s,i≠o→i≠e→B i=some r→D f=some s→f≠o→¬LK [] (upd (upd (upd B e none) o (some (og tl N (2*o),og tl N (2*o+1)))) i none) (og tl N (2*f)) (og tl N (2*f+1))→key i<key f:=by
  intro i f r s hio hie hi hf hfo hn
  obtain rfl:=h.bB1 i r (by rw [Qak _ _ hie];exact hi)
  rcases exch hFB hB hi hie hBo hio hno hn with k | ⟨k,k'⟩
  ·exact hm i f _ s hie hi hf k
  ·have h1:=hmin f s hfo hf (h.among hl hf k)
   have h2:=hm i o _ _ hie hi hD k'
   omega
 constructor
 ·intro i f r s _ hi hf hn
  obtain ⟨hfo,hf'⟩:=Qdq hf
  clear hf
  have hf:=hf'
  clear hf'
  by_cases hio:i=o
  ·subst hio
   have e0:upd (upd (upd B e none) i (some (og tl N (2*i),og tl N (2*i+1)))) i none=upd B e none:=by rw [Qoi,Qr0 hBo]
   rw [e0] at hn
   exact hmin f s hfo hf (h.among hl hf hn)
  ·rw [Qak _ _ hio] at hi
   obtain ⟨hie,hi⟩:=Qdq hi
   exact hmo i f r s hio hie hi hf hfo hn
 ·intro i r hi hn
  by_cases hio:i=o
  ·rw [hio];exact Int.le_refl _
  ·rw [Qak _ _ hio] at hi
   obtain ⟨hie,hi⟩:=Qdq hi
   obtain rfl:=h.bB1 i r (by rw [Qak _ _ hie];exact hi)
   rcases exch hFB hB hi hie hBo hio hno hn with k | ⟨k,k'⟩
   ·exact absurd (LK.te (by rw [Qak _ _ (Ne.symm hie)];exact hB)) k
   ·exact Int.le_of_lt (hm i o _ _ hie hi hD k')
end
end Core
end Go.Proofs.YtpmicakdjhoafaaGreatDoor
namespace Go.Proofs.YtpmicakdjhoafaaGreatDoor
open Go
namespace Core
open Go.Proofs.YtpmicakdjhoafaaGreatDoor.Seq Go.Proofs.YtpmicakdjhoafaaGreatDoor.Cut Go.Proofs.YtpmicakdjhoafaaGreatDoor.Web
section
variable {N a b c d e f g o u v w x y z n:Nat} {be ce:Int} {lim lim':Nat→Prop} {tl tl':Nat→List Nat} {q q':List (List Nat)} {B B' D D':Nat→Option (Nat × Nat)} {key key':Nat→Int}
theorem CB.lims (h:CB lim N tl q B D) (k:∀i,lim i↔lim' i):CB lim' N tl q B D:=
 ⟨h.mp,h.fq,h.nd,h.al,h.lt,h.bB,h.bD,h.ex,fun i j=>h.li i ((k i).2 j),fun i j=>(h.cov i j).imp_left (k i).1⟩
theorem CB.mark (h:CB lim N tl q B D) (hl:lim e) (he:Laid tl N e) (hne:og tl N (2*e)≠og tl N (2*e+1)):CB (fun i=>lim i∧i≠e) N tl q (upd B e (some (og tl N (2*e),og tl N (2*e+1)))) D:=by
 refine ⟨h.mp,h.fq,h.nd,h.al,h.lt,fun i p k=>?_,h.bD,fun i=>?_,fun i k=>?_,fun i k=>?_⟩
 ·by_cases hi:i=e
  ·subst hi;rw [Qab] at k;cases k;exact ⟨he,rfl,hne⟩
  ·rw [Qak _ _ hi] at k;exact h.bB i p k
 ·by_cases hi:i=e
  ·rw [hi];exact .inr (h.li e hl).2
  ·rw [Qak _ _ hi];exact h.ex i
 ·rw [Qak _ _ k.2];exact h.li i k.1
 ·by_cases hi:i=e
  ·rw [hi,Qab];exact .inr (.inl rfl)
  ·rw [Qak _ _ hi];exact (h.cov i k).imp_left fun j=>⟨j,hi⟩
theorem CB.Qy8 (h:CB lim N tl q B D) {p:Nat × Nat} (hB:B e=some p):CB (fun i=>lim i∨i=e) N tl q (upd B e none) D:=by
 have hD:D e=none:=(h.ex e).resolve_left (by rw [hB];simp)
 refine ⟨h.mp,h.fq,h.nd,h.al,h.lt,fun i p k=>h.bB i p (Qdq k).2,h.bD,fun i=>?_,fun i k=>?_,fun i k=>?_⟩
 ·by_cases hi:i=e
  ·rw [hi];exact .inr hD
  ·rw [Qak _ _ hi];exact h.ex i
 ·by_cases hi:i=e
  ·rw [hi,Qab];exact ⟨rfl,hD⟩
  ·rw [Qak _ _ hi];exact h.li i (k.resolve_right hi)
 ·by_cases hi:i=e
  ·exact .inl (.inr hi)
  ·rw [Qak _ _ hi];exact (h.cov i k).imp_left .inl
theorem CB.tie (h:CB lim N tl q B D) (hl:lim e) (he:Laid tl N e):CB (fun i=>lim i∧i≠e) N tl q B (upd D e (some (2*e,2*e+1))):=by
 refine ⟨h.mp,h.fq,h.nd,h.al,h.lt,h.bB,fun i p k=>?_,fun i=>?_,fun i k=>?_,fun i k=>?_⟩
 ·by_cases hi:i=e
  ·subst hi;rw [Qab] at k;cases k;exact ⟨he,rfl⟩
  ·rw [Qak _ _ hi] at k;exact h.bD i p k
 ·by_cases hi:i=e
  ·rw [hi];exact .inl (h.li e hl).1
  ·rw [Qak _ _ hi];exact h.ex i
 ·rw [Qak _ _ k.2];exact h.li i k.1
 ·by_cases hi:i=e
  ·rw [hi,Qab];exact .inr (.inr rfl)
  ·rw [Qak _ _ hi];exact (h.cov i k).imp_left fun j=>⟨j,hi⟩
theorem CB.untie (h:CB lim N tl q B D) {p:Nat × Nat} (hD:D e=some p):CB (fun i=>lim i∨i=e) N tl q B (upd D e none):=by
 have hB:B e=none:=(h.ex e).resolve_right (by rw [hD];simp)
 refine ⟨h.mp,h.fq,h.nd,h.al,h.lt,h.bB,fun i p k=>h.bD i p (Qdq k).2,fun i=>?_,fun i k=>?_,fun i k=>?_⟩
 ·by_cases hi:i=e
  ·rw [hi];exact .inl hB
  ·rw [Qak _ _ hi];exact h.ex i
 ·by_cases hi:i=e
  ·rw [hi,Qab];exact ⟨hB,rfl⟩
  ·rw [Qak _ _ hi];exact h.li i (k.resolve_right hi)
 ·by_cases hi:i=e
  ·exact .inl (.inr hi)
  ·rw [Qak _ _ hi];exact (h.cov i k).imp_left .inl
theorem CB.lay (h:CB (fun _=>False) N tl q B D) (he:¬Laid tl N e) (heN:e<N) (hv:v<N) (hw:w<N) (hf:FQ (ph (Core.lay tl e v be w ce) N) q') (nd:q'.flatten.Nodup) (al:∀x,x<3*N→∃A∈q',x∈A) (lt:∀x∈q'.flatten,x<3*N) :
  CB (fun i=>i=e) N (Core.lay tl e v be w ce) q' B D:=by
 have hla:∀i,Laid tl N i→Laid (Core.lay tl e v be w ce) N i:=fun i k=>(Qi7 hv hw).2 (.inr (.inr k))
 have hne:∀i,Laid tl N i→i≠e:=fun i k h=>he (h ▸ k)
 refine ⟨h.mp.layM he heN hv hw,hf,nd,al,lt,fun i p k=>?_,fun i p k=>?_,h.ex,fun i k=>?_,fun i k=>?_⟩
 ·obtain ⟨k1,k2,k3⟩:=h.bB i p k
  have:=hne i k1
  refine ⟨hla i k1,?_,k3⟩
  rw [h.mp.Qq1 he heN hv hw,h.mp.Qq1 he heN hv hw,if_neg (by omega),if_neg (by omega),if_neg (by omega),if_neg (by omega)];exact k2
 ·obtain ⟨k1,k2⟩:=h.bD i p k;exact ⟨hla i k1,k2⟩
 ·subst k
  constructor
  ·cases hB:B i with
   | none=>rfl
   | some p=>exact absurd (h.bB i p hB).1 he
  ·cases hD:D i with
   | none=>rfl
   | some p=>exact absurd (h.bD i p hD).1 he
 ·by_cases hi:i=e
  ·exact .inl hi
  ·rcases (Qi7 hv hw).1 k with k | k | k
   ·omega
   ·omega
   ·exact (h.cov i k).imp_left False.elim
theorem CB.lift (h:CB (fun i=>i=e) N tl q B D) (he:Laid tl N e) (hf:FQ (ph (Core.lift tl N e) N) q') (nd:q'.flatten.Nodup) (al:∀x,x<3*N→∃A∈q',x∈A) (lt:∀x∈q'.flatten,x<3*N) :
  CB (fun _=>False) N (Core.lift tl N e) q' B D:=by
 obtain ⟨h1,h2⟩:=h.mp.liftM he
 obtain ⟨h3,_⟩:=h.mp.Qs2 he
 have hne:∀i,(B i).isSome∨(D i).isSome→i≠e:=by
  rintro i k rfl
  obtain ⟨k1,k2⟩:=h.li i rfl
  rw [k1,k2] at k;simp at k
 have hla:∀i,Laid tl N i→i≠e→Laid (Core.lift tl N e) N i:=fun i k j=>(h2 _).2 ⟨by omega,by omega,k⟩
 refine ⟨h1,hf,nd,al,lt,fun i p k=>?_,fun i p k=>?_,h.ex,fun i k=>k.elim,fun i k=>?_⟩
 ·obtain ⟨k1,k2,k3⟩:=h.bB i p k
  have:=hne i (.inl (by rw [k];rfl))
  refine ⟨hla i k1 this,?_,k3⟩
  rw [h3 _ (by omega) (by omega),h3 _ (by omega) (by omega)];exact k2
 ·obtain ⟨k1,k2⟩:=h.bD i p k
  exact ⟨hla i k1 (hne i (.inr (by rw [k];rfl))),k2⟩
 ·obtain ⟨k1,k2,k3⟩:=(h2 _).1 k
  rcases h.cov i k3 with j | j
  ·omega
  ·exact .inr j
def sm (f:Nat→Int):Nat→Int
 | 0=>0
 | n+1=>sm f n+f n
theorem Qk2 {f g:Nat→Int} (h:∀i,i<n→f i=g i):sm f n=sm g n:=by
 induction n with
 | zero=>rfl
 | succ n ih=>unfold sm;rw [ih fun i hi=>h i (by omega),h n (by omega)]
theorem sm_at {f g:Nat→Int} (he:e<n) (h:∀i,i≠e→f i=g i):sm f n=sm g n-g e+f e:=by
 induction n with
 | zero=>omega
 | succ n ih=>
  unfold sm
  by_cases hn:n=e
  ·subst hn
   rw [Qk2 fun i hi=>h i (by omega)];omega
  ·rw [ih (by omega),h n hn];omega
theorem sm_zero:sm (fun _=>0) n=0:=by
 induction n with
 | zero=>rfl
 | succ n ih=>unfold sm;rw [ih];rfl
theorem Qv1 {f:Nat→Int} {m:Int} (h:∀i,i<n→0≤f i∧f i≤m):0≤sm f n∧sm f n≤m*n:=by
 induction n with
 | zero=>simp [sm]
 | succ n ih=>
  obtain ⟨h1,h2⟩:=ih fun i hi=>h i (by omega)
  have h3:=h n (by omega)
  unfold sm
  have e1:m*((n+1:Nat):Int)=m*n+m:=by rw [Int.natCast_succ,Int.mul_add,Int.mul_one]
  omega
def ky (w:Int) (e:Nat):Int:=w*1048576+e
end
end Core
end Go.Proofs.YtpmicakdjhoafaaGreatDoor
