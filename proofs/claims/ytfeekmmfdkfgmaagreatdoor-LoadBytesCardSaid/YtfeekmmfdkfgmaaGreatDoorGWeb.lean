/-
Faces and ties, in plain mathematics: the links of faces that hang together as chains, and of ties; what is reached by links.
Conditions: those that each theorem states.
-/
import Derived.Test.YtfeekmmfdkfgmaaGreatDoorGCutD
import Derived.Test.YtfeekmmfdkfgmaaGreatDoorGCutE
import Derived.Test.YtfeekmmfdkfgmaaGreatDoorLawCA
import Derived.Test.YtfeekmmfdkfgmaaGreatDoorGRing
import Derived.Test.YtfeekmmfdkfgmaaGreatDoorHsh
import Derived.Laws.StructEq
import Derived.ChangeKeysEq
set_option linter.unusedVariables false
set_option linter.unusedSimpArgs false
namespace Go.Proofs.YtfeekmmfdkfgmaaGreatDoor
open Go
namespace Web
open Go.Proofs.YtfeekmmfdkfgmaaGreatDoor.Seq Go.Proofs.YtfeekmmfdkfgmaaGreatDoor.Cut
inductive RT (E:Nat→Nat→Prop) (a:Nat):Nat→Prop
 | refl:RT E a a
 | step {b c:Nat}:RT E a b→E b c→RT E a c
section
variable {E E':Nat→Nat→Prop} {a b c x y z n:Nat} {l A B:List Nat} {q q':List (List Nat)}
theorem RT.one (h:E a b):RT E a b:=.step .refl h
theorem RT.trans (h:RT E a b) (k:RT E b c):RT E a c:=by
 induction k with
 | refl=>exact h
 | step _ e ih=>exact ih.step e
theorem RT.symm (hs:∀x y,E x y→E y x) (h:RT E a b):RT E b a:=by
 induction h with
 | refl=>exact .refl
 | step _ e ih=>exact (RT.one (hs _ _ e)).trans ih
theorem RT.bind (k:∀x y,E x y→RT E' x y) (h:RT E a b):RT E' a b:=by
 induction h with
 | refl=>exact .refl
 | step _ e ih=>exact ih.trans (k _ _ e)
theorem RT.mono (k:∀x y,E x y→E' x y) (h:RT E a b):RT E' a b:=h.bind fun x y e=>.one (k x y e)
theorem RT.way (h:RT E a b):∃l,Cut.Way E a b l:=by
 induction h with
 | refl=>exact ⟨[a],rfl,rfl,by simp,fun y hy=>by simp at hy,trivial⟩
 | @step b c _ e ih=>
  obtain ⟨l,h1,h2,h3,h4⟩:=ih
  by_cases hc:c∈l
  ·obtain ⟨p,s,rfl⟩:=List.append_of_mem hc
   have e1:p++c::s=(p++[c])++s:=by simp
   rw [e1] at h1 h3 h4
   refine ⟨p++[c],?_,by simp,(List.nodup_append.1 h3).1,(Lk.append.1 h4).1⟩
   rw [List.head?_append] at h1
   cases p<;>simpa using h1
  ·refine ⟨l++[c],?_,by simp,?_,?_⟩
   ·rw [List.head?_append,h1];rfl
   ·rw [List.nodup_append]
    exact ⟨h3,by simp,fun x hx y hy h0=>hc (by simp at hy;rw [←hy,←h0];exact hx)⟩
   ·rw [Lk.append]
    refine ⟨h4,⟨fun y hy=>by simp at hy,trivial⟩,fun x y hx hy=>?_⟩
    rw [h2] at hx
    simp at hx hy
    subst hx hy
    exact e
theorem Zbb:∀{l:List Nat} {a:Nat},l.head?=some a→Lk E l→∀z∈l,RT E a z
 | [],_,h,_,_,_=>by cases h
 | [x],a,h,_,z,hz=>by simp at h hz;subst h hz;exact .refl
 | x::y::l,a,h,hk,z,hz=>by
  simp at h;subst h
  have e:E x y:=hk.1 y rfl
  rcases List.mem_cons.1 hz with h | h
  ·subst h;exact .refl
  ·exact (RT.one e).trans (Zbb (l:=y::l) rfl hk.2 z h)
theorem Zfc (h:Cut.Way E a b l):RT E a b:=Zbb h.hd h.lk b (List.mem_of_getLast? h.la)
theorem Qd2:(∃l,Cut.Way E a b l)↔RT E a b:=⟨fun ⟨_,h⟩=>Zfc h,RT.way⟩
def Nx:List Nat→Nat→Nat→Prop
 | [],_,_=>False
 | a::l,x,y=>(a=x∧l.head?=some y)∨Nx l x y
theorem Nx.append:∀{A B:List Nat},Nx (A++B) x y↔Nx A x y∨Nx B x y∨(A.getLast?=some x∧B.head?=some y)
 | [],B=>by simp [Nx]
 | [a],B=>by
  simp only [List.singleton_append,Nx,List.getLast?_singleton,List.head?_nil,Option.some.injEq]
  constructor
  ·rintro (h | h)
   ·exact .inr (.inr h)
   ·exact .inr (.inl h)
  ·rintro ((h | h) | h | h)
   ·cases h.2
   ·exact h.elim
   ·exact .inr h
   ·exact .inl h
 | a::b::A,B=>by
  have ih:=Nx.append (A:=b::A) (B:=B)
  simp only [List.cons_append] at ih ⊢
  rw [Nx,ih]
  conv=>rhs;rw [Nx]
  simp only [List.head?_cons,List.getLast?_cons_cons]
  constructor
  ·rintro (h | h | h | h)
   ·exact .inl (.inl h)
   ·exact .inl (.inr h)
   ·exact .inr (.inl h)
   ·exact .inr (.inr h)
  ·rintro ((h | h) | h | h)
   ·exact .inl h
   ·exact .inr (.inl h)
   ·exact .inr (.inr (.inl h))
   ·exact .inr (.inr (.inr h))
theorem Nx.mem:∀{l:List Nat},Nx l x y→x∈l∧y∈l
 | a::l,.inl h=>⟨by rw [h.1];simp,List.mem_cons_of_mem _ (List.mem_of_head? h.2)⟩
 | a::l,.inr h=>⟨List.mem_cons_of_mem _ (Nx.mem h).1,List.mem_cons_of_mem _ (Nx.mem h).2⟩
theorem Zlb:∀{l:List Nat},(∀x y,Nx l x y→E x y)→Lk E l
 | [],_=>trivial
 | a::l,h=>⟨fun y hy=>h a y (.inl ⟨rfl,hy⟩),Zlb fun x y k=>h x y (.inr k)⟩
def EQ (q:List (List Nat)) (x y:Nat):Prop:=∃A∈q,Nx A x y∨Nx A y x
theorem EQ.symm (h:EQ q x y):EQ q y x:=by obtain ⟨A,h1,h2⟩:=h;exact ⟨A,h1,h2.symm⟩
theorem EQ.perm (p:q.Perm q') (h:EQ q x y):EQ q' x y:=by obtain ⟨A,h1,h2⟩:=h;exact ⟨A,p.mem_iff.1 h1,h2⟩
theorem Zjl:EQ (A::q) x y↔(Nx A x y∨Nx A y x)∨EQ q x y:=by
 constructor
 ·rintro ⟨B,hB,h⟩
  rcases List.mem_cons.1 hB with e | e
  ·subst e;exact .inl h
  ·exact .inr ⟨B,e,h⟩
 ·rintro (h | ⟨B,hB,h⟩)
  ·exact ⟨A,by simp,h⟩
  ·exact ⟨B,List.mem_cons_of_mem _ hB,h⟩
theorem Qy0 (hA:A∈q) (hE:∀x y,EQ q x y→E x y) (hx:x∈A) (hy:y∈A):RT E x y:=by
 have hs:∀x y,EQ q x y→EQ q y x:=fun x y h=>h.symm
 suffices h:RT (EQ q) x y from h.mono hE
 cases hd:A with
 | nil=>subst hd;cases hx
 | cons f r=>
  have hk:Lk (EQ q) (f::r):=Zlb fun u v h=>⟨A,hA,.inl (hd ▸ h)⟩
  rw [hd] at hx hy
  exact ((Zbb rfl hk x hx).symm hs).trans (Zbb rfl hk y hy)
def TL (D:Nat→Option (Nat × Nat)) (n x y:Nat):Prop:=∃e a b,D e=some (a,b)∧((y=n+e∧(x=a∨x=b))∨(x=n+e∧(y=a∨y=b)))
def EW (q:List (List Nat)) (D:Nat→Option (Nat × Nat)) (n x y:Nat):Prop:=EQ q x y∨TL D n x y
section
variable {D:Nat→Option (Nat × Nat)}
theorem TL.symm (h:TL D n x y):TL D n y x:=by
 obtain ⟨e,a,b,h1,h2⟩:=h
 exact ⟨e,a,b,h1,h2.symm⟩
theorem EW.symm (h:EW q D n x y):EW q D n y x:=h.imp EQ.symm TL.symm
theorem Zh5 (hq:∀A∈q,∃B∈q',∀x∈A,x∈B) (h:RT (EW q D n) a b):RT (EW q' D n) a b:=by
 refine h.bind fun x y e=>?_
 rcases e with ⟨A,hA,e⟩ | e
 ·obtain ⟨B,hB,k⟩:=hq A hA
  have hm:x∈A∧y∈A:=by
   rcases e with e | e
   ·exact e.mem
   ·exact ⟨e.mem.2,e.mem.1⟩
  exact Qy0 hB (fun u v h=>.inl h) (k x hm.1) (k y hm.2)
 ·exact RT.one (.inr e)
end
theorem Zfw {h:Array Obj} {F L:Nat} {v:Nat→Int} (k:AE h F L n v E) (he:E a b):¬RT (fun x y=>E x y∧¬((x=a∧y=b)∨(x=b∧y=a))) a b:=by
 intro hr
 obtain ⟨l,hl⟩:=hr.way
 have hne:a≠b:=fun e=>k.irr (k.bd a b he).1 (by rw [←e] at he;exact he)
 have h2:Cut.Way E a b [a,b]:=⟨rfl,rfl,by simp [hne],fun y hy=>by simp at hy;subst hy;exact he,fun y hy=>by simp at hy,trivial⟩
 have e:=k.uniq (k.bd a b he).1 (hl.congr fun x y h=>h.1) h2
 subst e
 exact (hl.lk.1 b rfl).2 (.inl ⟨rfl,rfl⟩)
theorem Q22 {A B:List Nat} {p z:Nat} (hd:(A++B).Nodup) (hA:A.getLast?=some p) (hB:B.head?=some z):(Nx (A++B) x y∧¬(x=p∧y=z))↔Nx A x y∨Nx B x y:=by
 rw [Nx.append]
 have h1:∀u,u∈A→u∈B→False:=fun u ha hb=>(List.nodup_append.1 hd).2.2 u ha u hb rfl
 have hp:=List.mem_of_getLast? hA
 have hz:=List.mem_of_head? hB
 constructor
 ·rintro ⟨h | h | ⟨h2,h3⟩,h4⟩
  ·exact .inl h
  ·exact .inr h
  ·rw [hA] at h2;rw [hB] at h3
   exact absurd ⟨(Option.some.inj h2).symm,(Option.some.inj h3).symm⟩ h4
 ·rintro (h | h)
  ·exact ⟨.inl h,fun e=>h1 z (e.2 ▸ h.mem.2) hz⟩
  ·exact ⟨.inr (.inl h),fun e=>h1 p hp (e.1 ▸ h.mem.1)⟩
theorem Zif {A B:List Nat} {p z:Nat} (hd:(A++B).Nodup) (hA:A.getLast?=some p) (hB:B.head?=some z) :
  ((Nx (A++B) x y∨Nx (A++B) y x)∧¬((x=p∧y=z)∨(x=z∧y=p)))↔(Nx A x y∨Nx A y x)∨(Nx B x y∨Nx B y x):=by
 have h1:∀u,u∈A→u∈B→False:=fun u ha hb=>(List.nodup_append.1 hd).2.2 u ha u hb rfl
 have hp:=List.mem_of_getLast? hA
 have hz:=List.mem_of_head? hB
 constructor
 ·rintro ⟨h | h,k⟩
  ·rcases (Q22 hd hA hB).1 ⟨h,fun e=>k (.inl e)⟩ with h | h
   ·exact .inl (.inl h)
   ·exact .inr (.inl h)
  ·rcases (Q22 hd hA hB).1 ⟨h,fun e=>k (.inr ⟨e.2,e.1⟩)⟩ with h | h
   ·exact .inl (.inr h)
   ·exact .inr (.inr h)
 ·have hn:∀{u v:Nat},Nx A u v∨Nx B u v→¬(u=z∧v=p):=by
   rintro u v (h | h) ⟨e1,e2⟩
   ·exact h1 z (e1 ▸ h.mem.1) hz
   ·exact h1 p hp (e2 ▸ h.mem.2)
  rintro ((h | h) | (h | h))
  ·obtain ⟨k1,k2⟩:=(Q22 hd hA hB).2 (.inl h);exact ⟨.inl k1,fun e=>e.elim k2 (hn (.inl h))⟩
  ·obtain ⟨k1,k2⟩:=(Q22 hd hA hB).2 (.inl h);exact ⟨.inr k1,fun e=>e.elim (fun e=>hn (.inl h) ⟨e.2,e.1⟩) (fun e=>k2 ⟨e.2,e.1⟩)⟩
  ·obtain ⟨k1,k2⟩:=(Q22 hd hA hB).2 (.inr h);exact ⟨.inl k1,fun e=>e.elim k2 (hn (.inr h))⟩
  ·obtain ⟨k1,k2⟩:=(Q22 hd hA hB).2 (.inr h);exact ⟨.inr k1,fun e=>e.elim (fun e=>hn (.inr h) ⟨e.2,e.1⟩) (fun e=>k2 ⟨e.2,e.1⟩)⟩
end
section
variable {E E':Nat→Nat→Prop} {a b c x y z n p:Nat} {l A B:List Nat} {q q':List (List Nat)} {D:Nat→Option (Nat × Nat)}
theorem Qy2:EW (A::q) D n x y↔(Nx A x y∨Nx A y x)∨EW q D n x y:=by
 unfold EW;rw [Zjl,or_assoc]
theorem Zb7 (hp:q.Perm q'):EW q D n x y↔EW q' D n x y:=or_congr ⟨EQ.perm hp,EQ.perm hp.symm⟩ Iff.rfl
theorem Q1w (hA:A.getLast?=some p) (hB:B.head?=some z):(EW (A::B::q) D n x y∨(x=p∧y=z)∨(x=z∧y=p))↔EW ((A++B)::q) D n x y:=by
 rw [Qy2,Qy2,Qy2,Nx.append,Nx.append,hA,hB]
 simp only [Option.some.injEq]
 constructor
 ·rintro ((h | h | h) | h)
  ·exact .inl (h.imp .inl .inl)
  ·exact .inl (h.imp (fun h=>.inr (.inl h)) (fun h=>.inr (.inl h)))
  ·exact .inr h
  ·rcases h with ⟨rfl,rfl⟩ | ⟨rfl,rfl⟩
   ·exact .inl (.inl (.inr (.inr ⟨rfl,rfl⟩)))
   ·exact .inl (.inr (.inr (.inr ⟨rfl,rfl⟩)))
 ·rintro (((h | h | h) | (h | h | h)) | h)
  ·exact .inl (.inl (.inl h))
  ·exact .inl (.inr (.inl (.inl h)))
  ·exact .inr (.inl ⟨h.1.symm,h.2.symm⟩)
  ·exact .inl (.inl (.inr h))
  ·exact .inl (.inr (.inl (.inr h)))
  ·exact .inr (.inr ⟨h.2.symm,h.1.symm⟩)
  ·exact .inl (.inr (.inr h))
theorem Q8i (h:EQ q x y):x∈q.flatten∧y∈q.flatten:=by
 obtain ⟨A,hA,h⟩:=h
 rcases h with h | h
 ·exact ⟨List.mem_flatten.2 ⟨A,hA,h.mem.1⟩,List.mem_flatten.2 ⟨A,hA,h.mem.2⟩⟩
 ·exact ⟨List.mem_flatten.2 ⟨A,hA,h.mem.2⟩,List.mem_flatten.2 ⟨A,hA,h.mem.1⟩⟩
theorem Zmt (h:TL D n x y):n≤x∨n≤y:=by
 obtain ⟨e,a,b,_,h | h⟩:=h
 ·right;omega
 ·left;omega
theorem Zb8 (hd:(A++B++q.flatten).Nodup) (hlt:∀x∈A++B,x<n) (hA:A.getLast?=some p) (hB:B.head?=some z) :
  (EW ((A++B)::q) D n x y∧¬((x=p∧y=z)∨(x=z∧y=p)))↔EW (A::B::q) D n x y:=by
 have hp:=List.mem_of_getLast? hA
 have hz:=List.mem_of_head? hB
 have hpn:=hlt p (List.mem_append_left _ hp)
 have hzn:=hlt z (List.mem_append_right _ hz)
 have hd1:=(List.nodup_append.1 hd).1
 have hno:EW q D n x y→¬((x=p∧y=z)∨(x=z∧y=p)):=by
  rintro (h | h) k
  ·have hm:=Q8i h
   have hpq:p∈q.flatten:=by
    rcases k with ⟨rfl,_⟩ | ⟨_,rfl⟩
    ·exact hm.1
    ·exact hm.2
   exact (List.nodup_append.1 hd).2.2 p (List.mem_append_left _ hp) p hpq rfl
  ·have:=Zmt h
   omega
 have h2:=Zif (x:=x) (y:=y) hd1 hA hB
 rw [Qy2,Qy2,Qy2]
 constructor
 ·rintro ⟨h | h,k⟩
  ·rcases h2.1 ⟨h,k⟩ with h | h
   ·exact .inl h
   ·exact .inr (.inl h)
  ·exact .inr (.inr h)
 ·rintro (h | h | h)
  ·exact ⟨.inl (h2.2 (.inl h)).1,(h2.2 (.inl h)).2⟩
  ·exact ⟨.inl (h2.2 (.inr h)).1,(h2.2 (.inr h)).2⟩
  ·exact ⟨.inr h,hno h⟩
theorem Q7m (hE:∀x y,E x y↔E' x y):RT E a b↔RT E' a b:=⟨RT.mono fun x y h=>(hE x y).1 h,RT.mono fun x y h=>(hE x y).2 h⟩
theorem Q7l {h:Array Obj} {F L N:Nat} {v:Nat→Int} (k:AE h F L N v (EW ((A++B)::q) D n)) (hd:(A++B++q.flatten).Nodup) (hlt:∀x∈A++B,x<n) (hA:A.getLast?=some p) (hB:B.head?=some z) (hx:x∈A) (hy:y∈B) :
  ¬RT (EW (A::B::q) D n) x y:=by
 intro hr
 have hE:EW ((A++B)::q) D n p z:=(Q1w hA hB).1 (.inr (.inl ⟨rfl,rfl⟩))
 refine Zfw k hE ?_
 refine (Q7m fun x y=>Zb8 hd hlt hA hB).2 ?_
 have h1:RT (EW (A::B::q) D n) p x:=Qy0 (q:=A::B::q) (A:=A) (by simp) (fun u v h=>.inl h) (List.mem_of_getLast? hA) hx
 have h2:RT (EW (A::B::q) D n) y z:=Qy0 (q:=A::B::q) (A:=B) (by simp) (fun u v h=>.inl h) hy (List.mem_of_head? hB)
 exact (h1.trans hr).trans h2
theorem Zg1 {e a b:Nat} (hD:D e=none):EW q (upd D e (some (a,b))) n x y↔(EW q D n x y∨(x=a∧y=n+e)∨(x=n+e∧y=a))∨(x=n+e∧y=b)∨(x=b∧y=n+e):=by
 unfold EW TL
 constructor
 ·rintro (h | ⟨i,u,v,h1,h2⟩)
  ·exact .inl (.inl (.inl h))
  ·by_cases hi:i=e
   ·subst hi
    rw [Qab] at h1
    cases h1
    rcases h2 with ⟨h2,h3 | h3⟩ | ⟨h2,h3 | h3⟩
    ·exact .inl (.inr (.inl ⟨h3,h2⟩))
    ·exact .inr (.inr ⟨h3,h2⟩)
    ·exact .inl (.inr (.inr ⟨h2,h3⟩))
    ·exact .inr (.inl ⟨h2,h3⟩)
   ·rw [Qag _ _ hi] at h1
    exact .inl (.inl (.inr ⟨i,u,v,h1,h2⟩))
 ·rintro ((h | h) | h)
  ·rcases h with h | ⟨i,u,v,h1,h2⟩
   ·exact .inl h
   ·refine .inr ⟨i,u,v,?_,h2⟩
    rw [Qag _ _ (fun h=>by rw [h,hD] at h1;cases h1)];exact h1
  ·refine .inr ⟨e,a,b,Qab _ _ _,?_⟩
   rcases h with ⟨h1,h2⟩ | ⟨h1,h2⟩
   ·exact .inl ⟨h2,.inl h1⟩
   ·exact .inr ⟨h1,.inl h2⟩
  ·refine .inr ⟨e,a,b,Qab _ _ _,?_⟩
   rcases h with ⟨h1,h2⟩ | ⟨h1,h2⟩
   ·exact .inr ⟨h1,.inr h2⟩
   ·exact .inl ⟨h2,.inr h1⟩
theorem Qxy {e:Nat} (hD:D e=none) (hq:∀x∈q.flatten,x<n) (hlt:∀i u v,D i=some (u,v)→u<n∧v<n):¬EW q D n x (n+e):=by
 rintro (h | ⟨i,u,v,h1,h2⟩)
 ·have:=hq _ (Q8i h).2
  omega
 ·have huv:=hlt i u v h1
  have:i=e:=by omega
  rw [this,hD] at h1;cases h1
theorem Q6b (h:RT E a b):a=b∨∃c,E c b:=by
 cases h with
 | refl=>exact .inl rfl
 | step _ e=>exact .inr ⟨_,e⟩
end
end Web
end Go.Proofs.YtfeekmmfdkfgmaaGreatDoor
namespace Go.Proofs.YtfeekmmfdkfgmaaGreatDoor
open Go Go.RowKit
namespace Web
open Go.Proofs.YtfeekmmfdkfgmaaGreatDoor.Seq Go.Proofs.YtfeekmmfdkfgmaaGreatDoor.Cut
def encT:Option (Nat × Nat)→List Value
 | some (a,b)=>[Value.int .i32 a,Value.int .i32 b]
 | none=>[Value.int .i32 (-1),Value.int .i32 (-1)]
def Qs9 (D:Nat→Option (Nat × Nat)) (t:Nat):List Value:=recs (fun e=>encT (D e)) t
structure WB (h:Array Obj) (W R F L CF CL EB n t:Nat) (q:List (List Nat)) (D:Nat→Option (Nat × Nat)) (key:Nat→Int):Prop where
 r:Row h W 271 [.pointer (some ⟨R,0,none⟩),.pointer (some ⟨CF,0,none⟩),.int .i64 n,.slice (some ⟨EB,0,none⟩) t t]
 e:Row h EB 268 (Qs9 D t)
 a:AR h R F L n (fun _=>0) q
 f:∃v,AE h CF CL (n+t) v (EW q D n)∧(∀x,x<n→v x=9223372036854775807)∧∀e a b,D e=some (a,b)→v (n+e)=key e
 d:∀e a b,D e=some (a,b)→e<t∧a<n∧b<n∧a≠b∧key e<9223372036854775807
 nW:W≠EB∧W≠L∧W≠CL
 nE:EB≠L∧EB≠CL∧EB≠R∧EB≠F∧EB≠CF
 nL:L≠CL∧L≠CF∧CL≠R∧CL≠F
 sz:n≤4194304∧t≤1048576∧1≤n
structure WS (w₀ w:World) (W R F L CF CL EB n t:Nat) (q:List (List Nat)) (D:Nat→Option (Nat × Nat)) (key:Nat→Int):Prop where
 c:Chg (fun k=>k=L∨k=CL∨k=EB) w₀ w
 a:WB w.heap W R F L CF CL EB n t q D key
section
variable {w₀ w w' w'':World} {W R F L CF CL EB n t a b x e:Nat} {q q':List (List Nat)} {D D':Nat→Option (Nat × Nat)} {key key':Nat→Int} {v v':Nat→Int} {E E':Nat→Nat→Prop} {A B pre post pra poa prb pob:List Nat}
theorem WS.trans (h:WS w₀ w W R F L CF CL EB n t q D key) (k:WS w w' W R F L CF CL EB n t q' D' key'):WS w₀ w' W R F L CF CL EB n t q' D' key':=⟨h.c.trans k.c,k.a⟩
theorem WB.perm {h:Array Obj} (k:WB h W R F L CF CL EB n t q D key) (p:q.Perm q'):WB h W R F L CF CL EB n t q' D key:=by
 obtain ⟨v,f,hv⟩:=k.f
 exact ⟨k.r,k.e,k.a.perm p,⟨v,f.congr fun x y=>Zb7 p,hv⟩,k.d,k.nW,k.nE,k.nL,k.sz⟩
theorem WS.perm (h:WS w₀ w W R F L CF CL EB n t q D key) (p:q.Perm q'):WS w₀ w W R F L CF CL EB n t q' D key:=⟨h.c,h.a.perm p⟩
theorem WB.keep {S:Nat→Prop} (h:WB w.heap W R F L CF CL EB n t q D key) (c:Chg S w w') (hS:∀k,S k→k≠W∧k≠R∧k≠F∧k≠L∧k≠CF∧k≠CL∧k≠EB):WB w'.heap W R F L CF CL EB n t q D key:=by
 obtain ⟨v,f,hv⟩:=h.f
 exact ⟨c.row (fun s=>(hS _ s).1 rfl) h.r,c.row (fun s=>(hS _ s).2.2.2.2.2.2 rfl) h.e,h.a.keep c (fun s=>(hS _ s).2.1 rfl) (fun s=>(hS _ s).2.2.1 rfl) (fun s=>(hS _ s).2.2.2.1 rfl),
  ⟨v,f.keep c (fun s=>(hS _ s).2.2.2.2.1 rfl) (fun s=>(hS _ s).2.2.2.2.2.1 rfl),hv⟩,h.d,h.nW,h.nE,h.nL,h.sz⟩
theorem WB.nob (h:WB w.heap W R F L CF CL EB n t q D key) (c:Chg Qaa w w'):WB w'.heap W R F L CF CL EB n t q D key:=h.keep c fun _ h=>h.elim
theorem WB.nodup {h:Array Obj} (k:WB h W R F L CF CL EB n t q D key):q.flatten.Nodup∧(∀x∈q.flatten,x<n)∧(∀A∈q,A≠[])∧(∀x,x<n→∃A∈q,x∈A):=by
 obtain ⟨h1,h2,h3,_,h5,h6⟩:=k.a.a.nodup
 exact ⟨h1,fun x hx=>by obtain ⟨A,hA,hx⟩:=List.mem_flatten.1 hx;exact h2 A hA x hx,h3,h6⟩
structure WP (h:Array Obj) (W R F L CF CL EB n t:Nat) (D:Nat→Option (Nat × Nat)) (key:Nat→Int) (q:List (List Nat)) (v:Nat→Int) (E:Nat→Nat→Prop):Prop where
 r:Row h W 271 [.pointer (some ⟨R,0,none⟩),.pointer (some ⟨CF,0,none⟩),.int .i64 n,.slice (some ⟨EB,0,none⟩) t t]
 e:Row h EB 268 (Qs9 D t)
 a:AR h R F L n (fun _=>0) q
 f:AE h CF CL (n+t) v E
 nW:W≠EB∧W≠L∧W≠CL
 nE:EB≠L∧EB≠CL∧EB≠R∧EB≠F∧EB≠CF
 nL:L≠CL∧L≠CF∧CL≠R∧CL≠F
structure WQ (w₀ w:World) (W R F L CF CL EB n t:Nat) (D:Nat→Option (Nat × Nat)) (key:Nat→Int) (q:List (List Nat)) (v:Nat→Int) (E:Nat→Nat→Prop):Prop where
 c:Chg (fun k=>k=L∨k=CL∨k=EB) w₀ w
 p:WP w.heap W R F L CF CL EB n t D key q v E
theorem WB.wq (h:WB w.heap W R F L CF CL EB n t q D key):∃v,WQ w w W R F L CF CL EB n t D key q v (EW q D n)∧(∀x,x<n→v x=9223372036854775807)∧∀e a b,D e=some (a,b)→v (n+e)=key e:=by
 obtain ⟨v,f,hv,hk⟩:=h.f
 exact ⟨v,⟨Chg.refl _ _,h.r,h.e,h.a,f,h.nW,h.nE,h.nL⟩,hv,hk⟩
theorem WQ.rs (h:WQ w₀ w W R F L CF CL EB n t D key q v E) (k:RS w w' R F L n (fun _=>0) q'):WQ w₀ w' W R F L CF CL EB n t D key q' v E:=
 ⟨h.c.trans (k.chg.mono fun i _ e=>.inl e),k.chg.row h.p.nW.2.1 h.p.r,k.chg.row h.p.nE.1 h.p.e,k.ar,h.p.f.keep k.chg (fun e=>h.p.nL.2.1 e.symm) (fun e=>h.p.nL.1 e.symm),h.p.nW,h.p.nE,h.p.nL⟩
theorem WQ.ce (h:WQ w₀ w W R F L CF CL EB n t D key q v E) (k:CE w w' CF CL (n+t) v' E'):WQ w₀ w' W R F L CF CL EB n t D key q v' E':=
 ⟨h.c.trans (k.c.mono fun i _ e=>.inr (.inl e)),k.c.row h.p.nW.2.2 h.p.r,k.c.row h.p.nE.2.1 h.p.e,h.p.a.keep k.c (fun e=>h.p.nL.2.2.1 e.symm) (fun e=>h.p.nL.2.2.2 e.symm) h.p.nL.1,k.a,h.p.nW,h.p.nE,h.p.nL⟩
theorem WQ.ws (h:WQ w₀ w W R F L CF CL EB n t D key q v E) (he:∀x y,E x y↔EW q D n x y) (hv:∀x,x<n→v x=9223372036854775807) (hk:∀e a b,D e=some (a,b)→v (n+e)=key e)
  (d:∀e a b,D e=some (a,b)→e<t∧a<n∧b<n∧a≠b∧key e<9223372036854775807) (sz:n≤4194304∧t≤1048576∧1≤n):WS w₀ w W R F L CF CL EB n t q D key:=
 ⟨h.c,h.p.r,h.p.e,h.p.a,⟨v,h.p.f.congr he,hv,hk⟩,d,h.p.nW,h.p.nE,h.p.nL,sz⟩
theorem Qpg (h:WB w.heap W R F L CF CL EB n t q D key):Calls Pg 180 #[.pointer (some ⟨W,0,none⟩)] w fun e w'=>e=.returned (.pointer (some ⟨R,0,none⟩))∧w'=w:=by
 refine (Qws _).go ?_
 unfold Qrd nr
 exact Qac (fun h=>by cases h) (fun _=>pt_i (Qav h.r rfl ⟨rfl,rfl⟩))
theorem Qqm {e:Int} (h:WB w.heap W R F L CF CL EB n t q D key):Calls Pg 182 #[.pointer (some ⟨W,0,none⟩),.int .i64 e] w fun r w'=>r=.returned (errV (if 0≤e∧e<t then 0 else 12))∧w'=w:=by
 refine (Qwt _ _).go ?_
 unfold Qre nr
 refine Qac (fun h=>by cases h) (fun _=>Qac (fun h1=>?_) (fun h1=>pt_i (Qai h.r rfl (Qac (fun h2=>?_) (fun h2=>?_)))))<;>simp only [b1s] at *
 ·rw [if_neg (by omega)];exact ⟨rfl,trivial⟩
 ·rw [if_neg (by omega)];exact ⟨rfl,trivial⟩
 ·rw [if_pos (by omega)];exact ⟨rfl,trivial⟩
theorem Q9z {a b:Int} (h:WB w.heap W R F L CF CL EB n t q D key):Calls Pg 252 #[.pointer (some ⟨W,0,none⟩),.int .i64 a,.int .i64 b] w fun r w'=>r=.returned (errV (if (0≤a∧a<n)∧0≤b∧b<n then 0 else 12))∧w'=w:=by
 refine (Qy6 _ _ _).go ?_
 unfold Qvh nr
 refine Qac (fun h=>by cases h) (fun _=>Qac (fun h1=>?_) (fun h1=>pt_i (Qaf h.r rfl (Qac (fun h2=>?_) (fun h2=>Qac (fun h3=>?_) (fun h3=>pt_i (Qaf h.r rfl (Qac (fun h4=>?_) (fun h4=>?_)))))))))<;>simp only [b1s] at *
 ·rw [if_neg (by omega)];exact ⟨rfl,trivial⟩
 ·rw [if_neg (by omega)];exact ⟨rfl,trivial⟩
 ·rw [if_neg (by omega)];exact ⟨rfl,trivial⟩
 ·rw [if_neg (by omega)];exact ⟨rfl,trivial⟩
 ·rw [if_pos (by omega)];exact ⟨rfl,trivial⟩
theorem Qw4 (h:WB w.heap W R F L CF CL EB n t q D key) (ha:a<n) (hb:b<n):Calls Pg 218 #[.pointer (some ⟨W,0,none⟩),.int .i64 a,.int .i64 b] w fun r w'=>∃z,r=.returned (.tuple #[.bool z,errV 0])∧(z=true↔RT (EW q D n) a b)∧WS w w' W R F L CF CL EB n t q D key:=by
 refine (Qkv _ _ _).go ?_
 unfold Qix nr
 refine (Q9z h).mono ?_
 rintro e w4 ⟨rfl,rfl⟩
 rw [if_pos (by omega)]
 obtain ⟨v,hq,hv,hk⟩:=h.wq
 refine ⟨_,rfl,Qaj (fun e=>absurd rfl e) (fun _=>pt_i (Qav h.r rfl ?_))⟩
 refine (Zhb hq.p.f (by omega) (by omega)).mono ?_
 rintro e w10 ⟨z,rfl,hz,hce⟩
 exact ⟨_,_,rfl,z,rfl,hz.trans Qd2,(hq.ce hce).ws (fun x y=>Iff.rfl) hv hk h.d h.sz⟩
end
theorem Qdl {P:Program} {e:TypeId} {k:IntKind} {xs:Array Value} {o:Nat} {v:Value} {w:World} (he:P.underlying e=some (.int k)) (h:xs[o]?=some v):(part e xs o).run P w=.ok v w:=by
 have ha:aggT P e=false:=by unfold aggT;rw [he]
 unfold part
 rw [Qae (Quu (by rw [he];rfl)),ha]
 simp [h,go_sem]
theorem Qzt {P:Program} {t e:TypeId} {k:IntKind} {X Y:Operand} {x y a b:Int} {w:World} (ht:P.underlying t=some (.array 2 e)) (hi:(P.info? e).isSome=true) (hz:P.cellsOf e=1) (he:P.underlying e=some (.int k)) (hg:P.eqGuardType P.depth t=false) :
  (do eqGuard .neq t X Y (.agg #[.int k x,.int k y]) (.agg #[.int k a,.int k b]);binOp .neq t (.agg #[.int k x,.int k y]) (.agg #[.int k a,.int k b]):Sem Value).run P w=.ok (.bool (!(x==a&&y==b))) w:=by
 obtain ⟨i,hi⟩:=Option.isSome_iff_exists.1 hi
 rw [Qae (run_eqGuard_agg w .neq t X Y _ _ hg),run_neq_struct,show 10000=9999+1 from rfl,run_equalIn_array w 9999 _ _ ht hi,hz]
 have e2:List.range 2=[0,1]:=rfl
 rw [e2]
 simp only [Op.eqItems]
 rw [Qae (Qdl (v:=.int k x) he rfl),Qae (Qdl (v:=.int k a) he rfl),Qae (run_equalIn_int w 9998 e k k x a he)]
 cases h1:(x==a)
 ·simp [go_sem,Result.andThen]
 ·simp only [Bool.not_true,Bool.false_eq_true,if_false]
  rw [Qae (Qdl (v:=.int k y) he rfl),Qae (Qdl (v:=.int k b) he rfl),Qae (run_equalIn_int w 9998 e k k y b he)]
  cases h2:(y==b)<;>simp [go_sem,Result.andThen]
section
variable {w₀ w w' w'':World} {W R F L CF CL EB n t a b x e:Nat} {q q':List (List Nat)} {D D':Nat→Option (Nat × Nat)} {key key':Nat→Int} {v v':Nat→Int} {E E':Nat→Nat→Prop} {A B pre post pra poa prb pob:List Nat}
theorem Qu1 (D:Nat→Option (Nat × Nat)) (x:Nat):(encT (D x)).length=2:=by
 rcases D x with _ | ⟨a,b⟩<;>rfl
theorem Q8m {k:Nat} (he:e<t) (hk:k<2):(Qs9 D t)[e*2+k]?=(encT (D e))[k]?:=
 Qdb _ (Qu1 D) he hk
theorem Q0z (h:WB w.heap W R F L CF CL EB n t q D key) (he:e<t):Calls Pg 106 #[.pointer (some ⟨W,0,none⟩),.int .i64 e] w fun r w'=>r=.returned (.bool (D e).isSome)∧w'=w:=by
 refine (Qom _ _).go ?_
 unfold Qli nr
 refine (Qqm h).mono ?_
 rintro r w3 ⟨rfl,rfl⟩
 rw [if_pos (by omega)]
 refine ⟨_,rfl,Qbu _,?_⟩
 rw [Qb4]
 refine Qac (fun _=>?_) (fun h=>by cases h)
 refine pt_i (Qai h.r rfl (Qat he ?_))
 have hg:=fun k hk=>Q8m (D:=D) (k:=k) he hk
 cases hD:D e with
 | none=>
  refine Qaf (n:=-1) h.e (by rw [Nat.zero_add];exact (hg 0 (by omega)).trans (by rw [hD];rfl)) ?_
  rw [Qad]
  refine Qaf (n:=-1) h.e (by rw [Nat.zero_add];exact (hg 1 (by omega)).trans (by rw [hD];rfl)) ?_
  exact ⟨_,_,Qzt (e:=21) (by kernel_rfl) (by kernel_rfl) (by kernel_rfl) (by kernel_rfl) (by kernel_rfl),rfl,rfl⟩
 | some ab=>
  obtain ⟨a,b⟩:=ab
  refine Qaf (n:=(a:Int)) h.e (by rw [Nat.zero_add];exact (hg 0 (by omega)).trans (by rw [hD];rfl)) ?_
  rw [Qad]
  refine Qaf (n:=(b:Int)) h.e (by rw [Nat.zero_add];exact (hg 1 (by omega)).trans (by rw [hD];rfl)) ?_
  refine ⟨_,_,Qzt (e:=21) (by kernel_rfl) (by kernel_rfl) (by kernel_rfl) (by kernel_rfl) (by kernel_rfl),?_,rfl⟩
  have:((a:Int)==-1)=false:=by simp
  simp [this]
theorem Quz {l:List Nat} (h:l≠[]):∃p,l.getLast?=some p:=⟨_,List.getLast?_eq_some_getLast h⟩
theorem Q4f {l:List Nat} {p:Nat} (h:l.getLast?=some p):l[l.length-1]?=some p:=by rw [←h,List.getLast?_eq_getElem?]
theorem Q90 (h:WB w.heap W R F L CF CL EB n t ((pre++x::post)::q) D key):Calls Pg 219 #[.pointer (some ⟨W,0,none⟩),.int .i64 x] w fun r w'=>r=.returned (errV 0)∧WS w w' W R F L CF CL EB n t ((x::post++pre)::q) D key:=by
 refine (Qx2 _ _).go ?_
 unfold Qse nr
 obtain ⟨hnd,hlt,hne,hal⟩:=h.nodup
 have hsz:=h.sz
 have hxn:x<n:=hlt x (by simp)
 refine (Qpg h).mono ?_
 rintro e w3 ⟨rfl,rfl⟩
 refine ⟨_,rfl,?_⟩
 cases pre with
 | nil=>
  refine (Q0m (y:=x) (A':=post) h.a (by simp)).mono ?_
  rintro e w7 ⟨rfl,hrs⟩
  obtain ⟨v,hq,hv,hk⟩:=h.wq
  have hw:=(hq.rs hrs).ws (fun x y=>Iff.rfl) hv hk h.d hsz
  refine ⟨_,_,rfl,fun _ _=>False,Qaj (fun e=>absurd rfl e) (fun _=>Qac (fun _=>?_) (fun h=>by simp at h)),fun _ _ h=>h.elim⟩
  rw [List.append_nil]
  exact ⟨rfl,hw⟩
 | cons f pre=>
  refine (Q0m (y:=f) (A':=pre++x::post) h.a (by simp)).mono ?_
  rintro e w7 ⟨rfl,hrs⟩
  have hfx:f≠x:=by
   rintro rfl
   simp at hnd
  refine ⟨_,_,rfl,fun _ w'=>w'=w7,Qaj (fun e=>absurd rfl e) (fun _=>Qac (fun h=>?_) (fun _=>rfl)),?_⟩
  ·simp only [b1s] at h;omega
  rintro _ w10 rfl
  obtain ⟨v,hq,hv,hk⟩:=h.wq
  replace hq:=hq.rs hrs
  obtain ⟨p,hp⟩:=Quz (l:=f::pre) (by simp)
  obtain ⟨z,hz⟩:=Quz (l:=x::post) (by simp)
  have hzA:(f::pre++x::post)[(f::pre++x::post).length-1]?=some z:=by
   refine Q4f ?_
   rw [List.getLast?_append,hz];rfl
  have hpA:(f::pre++x::post)[pre.length]?=some p:=by
   have h1:=Q4f hp
   simp only [List.length_cons,Nat.add_sub_cancel] at h1
   rw [List.getElem?_append_left (by simp)];exact h1
  have hxA:(f::pre++x::post)[pre.length+1]?=some x:=by
   rw [List.getElem?_append_right (by simp)];simp
  refine pt_i (Qav hq.p.r rfl ?_)
  refine (Q3y (x:=f) (i:=0) (k:=(f::pre++x::post).length-1) (y:=z) hq.p.a rfl (by simp) hzA).mono ?_
  rintro e w15 ⟨rfl,hrs⟩
  replace hq:=hq.rs hrs
  refine ⟨_,_,rfl,Qaj (fun e=>absurd rfl e) (fun _=>?_)⟩
  refine pt_i (Qav hq.p.r rfl ?_)
  refine (Q3y (x:=x) (i:=pre.length+1) (k:=pre.length) (y:=p) hq.p.a hxA (by rw [if_neg];simp) hpA).mono ?_
  rintro e w21 ⟨rfl,hrs⟩
  replace hq:=hq.rs hrs
  refine ⟨_,_,rfl,Qaj (fun e=>absurd rfl e) (fun _=>?_)⟩
  refine pt_i (Qav hq.p.r rfl ?_)
  have hzm:=List.mem_of_getLast? hz
  have hpm:=List.mem_of_getLast? hp
  have hpn:p<n:=hlt p (by rw [List.flatten_cons,List.mem_append,List.mem_append];exact .inl (.inl hpm))
  have hzn:z<n:=hlt z (by rw [List.flatten_cons,List.mem_append,List.mem_append];exact .inl (.inr hzm))
  have hfn:f<n:=hlt f (by simp)
  have hE:EW ((f::pre++x::post)::q) D n p x:=(Q1w hp rfl).1 (.inr (.inl ⟨rfl,rfl⟩))
  have hndA:(f::pre++x::post++q.flatten).Nodup:=hnd
  have hltA:∀y∈f::pre++x::post,y<n:=fun y hy=>hlt y (by rw [List.flatten_cons,List.mem_append];exact .inl hy)
  have hno:=Q7l hq.p.f hndA hltA hp rfl (x:=f) (y:=z) (by simp) hzm
  refine (Q60 hq.p.f (by omega) (by omega) hE).mono ?_
  rintro e w26 ⟨rfl,hce⟩
  replace hq:=hq.ce hce
  refine ⟨_,rfl,Qaj (fun e=>absurd rfl e) (fun _=>?_)⟩
  refine pt_i (Qav hq.p.r rfl ?_)
  have he1:∀u y,(EW ((f::pre++x::post)::q) D n u y∧¬((u=p∧y=x)∨(u=x∧y=p)))↔EW ((f::pre)::(x::post)::q) D n u y:=fun u y=>Zb8 hndA hltA hp rfl
  refine (Q17 hq.p.f (a:=z) (b:=f) (by omega) (by omega) ?_).mono ?_
  ·rw [Qd2,Q7m he1]
   exact fun h=>hno (h.symm fun x y h=>h.symm)
  rintro e w31 ⟨rfl,hce⟩
  replace hq:=hq.ce hce
  refine ⟨_,rfl,Qaj (fun e=>absurd rfl e) (fun _=>?_)⟩
  refine pt_i (Qav hq.p.r rfl ?_)
  refine (Q3x (pre:=f::pre) hq.p.a).mono ?_
  rintro e w36 ⟨rfl,hrs⟩
  replace hq:=hq.rs hrs
  refine ⟨_,rfl,rfl,hq.ws (fun u y=>?_) hv hk h.d hsz⟩
  rw [he1,←Q1w hz rfl,Zb7 (List.Perm.swap _ _ _)]
theorem Qe8 {y:Nat} (h:y∈a::poa++pra):y∈pra++a::poa:=(List.perm_append_comm (l₁:=a::poa) (l₂:=pra)).mem_iff.1 h
theorem Zhl (h:WB w.heap W R F L CF CL EB n t ((pra++a::poa)::(prb++b::pob)::q) D key) (hno:¬RT (EW ((pra++a::poa)::(prb++b::pob)::q) D n) a b) :
  Calls Pg 150 #[.pointer (some ⟨W,0,none⟩),.int .i64 a,.int .i64 b] w fun r w'=>r=.returned (errV 0)∧WS w w' W R F L CF CL EB n t (((a::poa++pra)++(b::pob++prb))::q) D key:=by
 refine (Qg5 _ _ _).go ?_
 unfold Qgq nr
 obtain ⟨hnd,hlt,hne,hal⟩:=h.nodup
 have hsz:=h.sz
 have han:a<n:=hlt a (by simp)
 have hbn:b<n:=hlt b (by simp)
 refine (Qw4 h han hbn).mono ?_
 rintro e w5 ⟨z,rfl,hz,hws⟩
 have hz:z=false:=by
  cases z with
  | false=>rfl
  | true=>exact absurd (hz.1 rfl) hno
 subst hz
 refine ⟨_,_,rfl,Qaj (fun e=>absurd rfl e) (fun _=>?_)⟩
 refine Qac (fun h=>by cases h) (fun _=>?_)
 refine (Q90 hws.a).mono ?_
 rintro e w8 ⟨rfl,hws2⟩
 replace hws:=(hws.trans hws2).perm (List.Perm.swap _ _ _)
 refine ⟨_,rfl,Qaj (fun e=>absurd rfl e) (fun _=>?_)⟩
 refine (Q90 hws.a).mono ?_
 rintro e w11 ⟨rfl,hws3⟩
 replace hws:=(hws.trans hws3).perm (List.Perm.swap _ _ _)
 refine ⟨_,rfl,Qaj (fun e=>absurd rfl e) (fun _=>?_)⟩
 obtain ⟨hnd,hlt,hne,hal⟩:=hws.a.nodup
 have hno2:¬RT (EW ((a::poa++pra)::(b::pob++prb)::q) D n) a b:=by
  intro hr
  refine hno (Zh5 (fun A hA=>?_) hr)
  simp only [List.mem_cons] at hA
  rcases hA with rfl | rfl | hA
  ·exact ⟨_,by simp,fun y hy=>Qe8 hy⟩
  ·exact ⟨_,by simp,fun y hy=>Qe8 hy⟩
  ·exact ⟨A,by simp [hA],fun y hy=>hy⟩
 obtain ⟨v,hq,hv,hk⟩:=hws.a.wq
 obtain ⟨p,hp⟩:=Quz (l:=a::poa++pra) (by simp)
 have hpm:=List.mem_of_getLast? hp
 have hpn:p<n:=hlt p (by rw [List.flatten_cons,List.mem_append];exact .inl hpm)
 refine pt_i (Qav hq.p.r rfl ?_)
 refine (Q3y (x:=a) (i:=0) (k:=(a::poa++pra).length-1) (y:=p) hq.p.a rfl (by simp) (Q4f hp)).mono ?_
 rintro e w17 ⟨rfl,hrs⟩
 replace hq:=hq.rs hrs
 refine ⟨_,_,rfl,Qaj (fun e=>absurd rfl e) (fun _=>?_)⟩
 refine pt_i (Qav hq.p.r rfl ?_)
 refine (Q17 hq.p.f (a:=p) (b:=b) (by omega) (by omega) ?_).mono ?_
 ·rw [Qd2]
  exact fun hr=>hno2 ((Qy0 (q:=(a::poa++pra)::(b::pob++prb)::q) (A:=a::poa++pra) (by simp) (fun u v h=>.inl h) (by simp) hpm).trans hr)
 rintro e w22 ⟨rfl,hce⟩
 replace hq:=hq.ce hce
 refine ⟨_,rfl,Qaj (fun e=>absurd rfl e) (fun _=>?_)⟩
 refine pt_i (Qav hq.p.r rfl ?_)
 refine (Zd1 (pra:=[]) (a:=a) (poa:=poa++pra) (prb:=[]) (b:=b) (pob:=pob++prb) hq.p.a).mono ?_
 rintro e w27 ⟨rfl,hrs⟩
 simp only [List.append_nil] at hrs
 replace hq:=hq.rs hrs
 exact ⟨_,rfl,rfl,hws.trans (hq.ws (fun u y=>Q1w hp rfl) hv hk hws.a.d hsz)⟩
end
section
variable {w₀ w w' w'':World} {W R F L CF CL EB n t a b x e:Nat} {q q':List (List Nat)} {D D':Nat→Option (Nat × Nat)} {key key':Nat→Int} {v v':Nat→Int} {E E':Nat→Nat→Prop} {A B pre post pra poa prb pob:List Nat}
theorem Q5g {D':Nat→Option (Nat × Nat)} {u z:Value} (he:e<t) (hne:∀j,j≠e→D' j=D j) (hx:encT (D' e)=[u,z]) :
  ((Qs9 D t).set (e*2) u).set (e*2+1) z=Qs9 D' t:=by
 have h1:=Qca (sz:=2) (fun e=>encT (D e)) (Qu1 D)
  (g:=fun j=>if j=e then (encT (D e)).set 0 u else encT (D j))
  (n:=t) (i:=e) (k:=0) (v:=u) he (by omega) (fun j hj=>by simp only [if_neg hj]) (by simp only [if_true])
 unfold Qs9
 rw [show e*2=e*2+0 from rfl,h1]
 refine Qca (sz:=2) _ (fun x=>?_) he (by omega) (fun j hj=>?_) ?_
 ·split
  ·rw [List.length_set];exact Qu1 D e
  ·exact Qu1 D x
 ·simp only [if_neg hj,hne j hj]
 ·simp only [if_true]
  rw [hx]
  rcases D e with _ | ⟨a,b⟩<;>rfl
theorem WQ.eb {es:List Value} (h:WQ w₀ w W R F L CF CL EB n t D key q v E) (c:Chg (·=EB) w w') (hr:Row w'.heap EB 268 (Qs9 D' t)):WQ w₀ w' W R F L CF CL EB n t D' key' q v E:=
 ⟨h.c.trans (c.mono fun i _ e=>.inr (.inr e)),c.row h.p.nW.1 h.p.r,hr,h.p.a.keep c (fun e=>h.p.nE.2.2.1 e.symm) (fun e=>h.p.nE.2.2.2.1 e.symm) (fun e=>h.p.nE.1 e.symm),
  h.p.f.keep c (fun e=>h.p.nE.2.2.2.2 e.symm) (fun e=>h.p.nE.2.1 e.symm),h.p.nW,h.p.nE,h.p.nL⟩
theorem Zfx {m:Nat} (hm:∀y,¬E m y∧¬E y m) (h:RT (fun x y=>E x y∨(x=a∧y=m)∨(x=m∧y=a)) m b):b=m∨RT E a b:=by
 induction h with
 | refl=>exact .inl rfl
 | @step y z _ hz ih=>
  rcases hz with hz | ⟨h1,h2⟩ | ⟨h1,h2⟩
  ·rcases ih with rfl | ih
   ·exact absurd hz (hm z).1
   ·exact .inr (ih.step hz)
  ·exact .inl h2
  ·subst h2;exact .inr .refl
theorem Zmm {k:Int} (h:WB w.heap W R F L CF CL EB n t q D key) (he:e<t) (ha:a<n) (hb:b<n) (hk:-9223372036854775808≤k∧k<9223372036854775807) (hs:¬RT (EW q D n) a b) (hD:D e=none) :
  Calls Pg 225 #[.pointer (some ⟨W,0,none⟩),.int .i64 e,.int .i64 a,.int .i64 b,.int .i64 k] w fun r w'=>r=.returned (errV 0)∧WS w w' W R F L CF CL EB n t q (upd D e (some (a,b))) (upd key e k):=by
 refine (Qfx _ _ _ _ _).go ?_
 unfold Qgk nr
 have hsz:=h.sz
 refine (Qqm h).mono ?_
 rintro r w6 ⟨rfl,rfl⟩
 rw [if_pos (by omega)]
 refine ⟨_,rfl,Qaj (fun e=>absurd rfl e) (fun _=>?_)⟩
 refine (Qw4 h ha hb).mono ?_
 rintro r w10 ⟨z,rfl,hz,hws⟩
 have hz:z=false:=by
  cases z with
  | false=>rfl
  | true=>exact absurd (hz.1 rfl) hs
 subst hz
 refine ⟨_,_,rfl,Qaj (fun e=>absurd rfl e) (fun _=>Qac (fun h=>?_) (fun _=>Qac (fun h=>by cases h) (fun _=>?_)))⟩
 ·simp only [b1s] at h;omega
 refine (Q0z hws.a he).mono ?_
 rintro r w13 ⟨rfl,rfl⟩
 rw [hD]
 refine ⟨_,rfl,Qac (fun h=>by cases h) (fun _=>?_)⟩
 obtain ⟨v,hq,hv,hkk⟩:=hws.a.wq
 refine pt_i (Qaf hq.p.r rfl (pt_i (Qav hq.p.r rfl ?_)))
 rw [wrap64_in (x:=(n:Int)+e) (by omega) (by omega),show (n:Int)+e=((n+e:Nat):Int) by omega]
 refine (Cut.Ze5 hq.p.f (a:=n+e) (by omega) (by omega)).mono ?_
 rintro r w20 ⟨rfl,hce⟩
 replace hq:=hq.ce hce
 refine ⟨_,rfl,Qaj (fun e=>absurd rfl e) (fun _=>?_)⟩
 refine pt_i (Qav hq.p.r rfl ?_)
 obtain ⟨hnd,hlt,hne,hal⟩:=h.nodup
 have hdl:∀i u v,D i=some (u,v)→u<n∧v<n:=fun i u v hi=>by have:=h.d i u v hi;omega
 have hal1:∀y,¬EW q D n y (n+e):=fun y=>Qxy hD hlt hdl
 have hno1:∀c,c<n→¬RT (EW q D n) c (n+e):=fun c hc hr=>by
  rcases Q6b hr with h | ⟨y,h⟩
  ·omega
  ·exact hal1 y h
 refine (Q17 hq.p.f (a:=a) (b:=n+e) (by omega) (by omega) (by rw [Qd2];exact hno1 a ha)).mono ?_
 rintro r w25 ⟨rfl,hce⟩
 replace hq:=hq.ce hce
 refine ⟨_,rfl,Qaj (fun e=>absurd rfl e) (fun _=>?_)⟩
 refine pt_i (Qai hq.p.r rfl (Qat he ?_))
 rw [Nat.zero_add,wrap32_in (x:=(a:Int)) (by omega) (by omega),wrap32_in (x:=(b:Int)) (by omega) (by omega)]
 have hel:(Qs9 D t).length=t*2:=Qah _ (Qu1 D) t
 refine Qbg hq.p.e (by rw [hel];omega) rfl fun hr1=>?_
 rw [Qad]
 refine Qbg hr1 (by rw [List.length_set,hel];omega) rfl fun hr2=>?_
 have hch:Chg (·=EB) w25 ((w25.setCell ⟨EB,e*2,none⟩ (.int .i32 (a:Int))).setCell ⟨EB,e*2+1,none⟩ (.int .i32 (b:Int))):=((Chg.refl (·=EB) _).setCell _ _ (.inl rfl)).setCell _ _ (.inl rfl)
 rw [Q5g (D':=upd D e (some (a,b))) he (fun j hj=>Qag _ _ hj) (by rw [Qab];rfl)] at hr2
 replace hq:=hq.eb (es:=[]) (D':=upd D e (some (a,b))) (key':=upd key e k) hch hr2
 clear hch hr1 hr2
 refine pt_i (Qav hq.p.r rfl ?_)
 refine (Q17 hq.p.f (a:=n+e) (b:=b) (by omega) (by omega) ?_).mono ?_
 ·rw [Qd2]
  intro hr
  rcases Zfx (fun y=>⟨fun h=>hal1 y h.symm,hal1 y⟩) hr with h | h
  ·omega
  ·exact hs h
 rintro r w35 ⟨rfl,hce⟩
 replace hq:=hq.ce hce
 refine ⟨_,rfl,rfl,hws.trans (hq.ws (fun x y=>(Zg1 hD).symm) (fun x hx=>?_) (fun i u y hi=>?_) (fun i u y hi=>?_) hsz)⟩
 ·rw [Qag _ _ (by omega)];exact hv x hx
 ·by_cases hie:i=e
  ·subst hie;rw [Qab,Qab]
  ·rw [Qag _ _ hie] at hi ⊢
   rw [Qag _ _ (by omega)];exact hkk i u y hi
 ·by_cases hie:i=e
  ·subst hie
   rw [Qab] at hi ⊢
   cases hi
   exact ⟨he,ha,hb,fun e=>hs (e ▸ .refl),hk.2⟩
  ·rw [Qag _ _ hie] at hi ⊢
   exact h.d i u y hi
theorem Zji {x y:Nat}:¬EW (ones n) (fun _=>none) n x y:=by
 rintro (⟨A,hA,h⟩ | ⟨e,a,b,h,_⟩)
 ·unfold ones at hA
  obtain ⟨z,_,rfl⟩:=List.mem_map.1 hA
  simp [Nx] at h
 ·cases h
theorem Zmn (h1:1≤n) (h2:n≤4194304) (h3:1≤t) (h4:t≤1048576):Calls Pg 128 #[.int .i64 n,.int .i64 t] w fun r w'=>∃W R F L CF CL EB,r=.returned (.tuple #[.pointer (some ⟨W,0,none⟩),errV 0])∧Chg Qaa w w'∧
  (w.heap.size≤W∧w.heap.size≤R∧w.heap.size≤F∧w.heap.size≤L∧w.heap.size≤CF∧w.heap.size≤CL∧w.heap.size≤EB)∧WB w'.heap W R F L CF CL EB n t (ones n) (fun _=>none) (fun _=>0):=by
 refine (Qx3 _ _).go ?_
 unfold Qyl nr
 refine ⟨fun _ w'=>w'=w,?_,?_⟩
 ·refine Qac (fun h=>?_) (fun _=>Qac (fun h=>?_) (fun _=>Qac (fun h=>?_) (fun _=>Qac (fun h=>?_) (fun _=>rfl))))<;>simp only [b1s] at h<;>omega
 rintro _ w3 rfl
 refine (Zkx h1 (by omega)).mono ?_
 rintro r w6 ⟨R,F,L,rfl,hc1,hR,hF,hL,ha⟩
 refine ⟨_,_,rfl,Qaj (fun e=>absurd rfl e) (fun _=>?_)⟩
 rw [wrap64_in (x:=(n:Int)+t) (by omega) (by omega),show (n:Int)+t=((n+t:Nat):Int) by omega]
 refine (Cut.Ze6 (n:=n+t) (by omega) (by omega)).mono ?_
 rintro r w10 ⟨CF,CL,rfl,hc2,hCF,hCL,hf⟩
 refine ⟨_,_,rfl,Qaj (fun e=>absurd rfl e) (fun _=>⟨by omega,by omega,by omega,?_⟩)⟩
 have ett:Int.toNat (t:Int)=t:=rfl
 rw [ett]
 have l5:=ha.a.lt
 have l6:=ha.r.lt
 replace ha:=ha.keep hc2 (fun h=>h) (fun h=>h) (fun h=>h)
 have s1:=hc1.size
 have s2:=hc2.size
 have l1:=ha.a.lt
 have l2:=ha.r.lt
 have l3:=hf.lt
 refine Qal fun hEB=>Qal fun hW=>?_
 have hch1:Chg Qaa w10 (w10.alloc (.cells (Qby #[.int .i32 0,.int .i32 0] t) 268)):=(Chg.refl _ _).alloc _
 have hs1:(w10.alloc (.cells (Qby #[.int .i32 0,.int .i32 0] t) 268)).heap.size=w10.heap.size+1:=by show (w10.heap.push _).size=_;simp
 rw [hs1] at hW ⊢
 rw [Qas] at hEB
 generalize w10.alloc (.cells (Qby #[.int .i32 0,.int .i32 0] t) 268)=w13 at *
 have hch2:Chg Qaa w13 (w13.alloc (.cells #[.pointer (some ⟨R,0,none⟩),.pointer (some ⟨CF,0,none⟩),.int .i64 n,.slice (some ⟨w10.heap.size,0,none⟩) t t] 271)):=(Chg.refl _ _).alloc _
 have hEB:=hch2.row (fun h=>h) hEB
 have ha:=ha.keep (hch1.trans hch2) (fun h=>h) (fun h=>h) (fun h=>h)
 have hf:=hf.keep (hch1.trans hch2) (fun h=>h) (fun h=>h)
 have hch:=hch1.trans hch2
 generalize hEBB:w10.heap.size=EB at *
 generalize w13.alloc (.cells #[.pointer (some ⟨R,0,none⟩),.pointer (some ⟨CF,0,none⟩),.int .i64 n,.slice (some ⟨EB,0,none⟩) t t] 271)=w15 at *
 have s3:=hch.size
 have l4:=hW.lt
 have enL:L≠CL∧L≠CF∧CL≠R∧CL≠F:=by omega
 let J:Nat→List Value→World→Prop:=fun j vs w'=>∃i:Nat,vs=[.int .i64 i]∧i≤n∧CE w15 w' CF CL (n+t) (fun x=>if x<i then 9223372036854775807 else 0) (fun _ _=>False)∧j=n-i
 refine ⟨LI J,LM J,⟨_,0,rfl,by omega,?_,rfl⟩,?_⟩
 ·have e0:(fun x:Nat=>if x<0 then (9223372036854775807:Int) else 0)=fun _=>0:=by funext x;simp
  rw [e0];exact CE.start hf
 intro _ i w19 hJ
 obtain ⟨i,hvs,hin,hce,hj⟩:=hJ.at
 simp only [vj] at hvs
 subst hvs
 refine Qac (fun hc=>?_) (fun hc=>?_)<;>simp only [b1s] at hc
 ·refine (Cut.Ze5 (a:=i) (z:=9223372036854775807) hce.a (by omega) (by omega)).mono ?_
  rintro r w21 ⟨rfl,hce2⟩
  refine ⟨_,rfl,Qaj (fun e=>absurd rfl e) (fun _=>?_)⟩
  rw [wrap64_in (by omega) (by omega)]
  refine LI.again (k:=n-(i+1)) ⟨i+1,rfl,by omega,?_,rfl⟩ (by rw [hj];omega)
  have e1:upd (fun x:Nat=>if x<i then (9223372036854775807:Int) else 0) i 9223372036854775807=fun x=>if x<i+1 then 9223372036854775807 else 0:=by
   funext x
   unfold upd
   by_cases hx:x=i
   ·simp [hx]
   ·rw [if_neg hx]
    by_cases hxi:x<i
    ·simp only [if_pos hxi,if_pos (show x<i+1 by omega)]
    ·simp only [if_neg hxi,if_neg (show ¬x<i+1 by omega)]
  rw [←e1]
  exact hce.trans hce2
 have hin:i=n:=by omega
 subst hin
 clear hJ hj hc J
 have hW19:=hce.c.row (fun e=>by omega) hW
 have hEB19:=hce.c.row (fun e=>by omega) hEB
 have ha19:=ha.keep hce.c (fun e=>by omega) (fun e=>by omega) (fun e=>by omega)
 refine Qai hW19 rfl ?_
 let J:Nat→List Value→World→Prop:=fun j vs w'=>∃k:Nat,vs=[.int .i64 k]∧k≤t∧Chg (·=EB) w19 w'∧Row w'.heap EB 268 (recs (fun x=>if x<k then [.int .i32 (-1),.int .i32 (-1)] else [.int .i32 0,.int .i32 0]) t)∧j=t-k
 refine ⟨LI J,LM J,⟨_,0,rfl,by omega,Chg.refl _ _,?_,rfl⟩,?_⟩
 ·refine (Qbb fun j _=>?_) ▸ hEB19
  simp
 intro _ k w27 hJ
 obtain ⟨k,hvs,hkt,hc27,hrow,hj⟩:=hJ.at
 simp only [vj] at hvs
 subst hvs
 have hW27:=hc27.row (fun e=>by omega) hW19
 refine Qac (fun hc=>?_) (fun hc=>?_)<;>simp only [b1s] at hc
 ·have hlen:∀x:Nat,(if x<k then [Value.int .i32 (-1),Value.int .i32 (-1)] else [.int .i32 0,.int .i32 0]).length=2:=fun x=>by split<;>rfl
  have hel:=Qah _ hlen t
  refine Qai hW27 rfl (Qat (by omega) ?_)
  rw [Nat.zero_add]
  refine Qbg hrow (by rw [hel];omega) rfl fun hr1=>?_
  rw [Qad]
  refine Qbg hr1 (by rw [List.length_set,hel];omega) rfl fun hr2=>?_
  rw [wrap64_in (by omega) (by omega)]
  refine LI.again (k:=t-(k+1)) ⟨k+1,rfl,by omega,(hc27.setCell _ _ (.inl rfl)).setCell _ _ (.inl rfl),?_,rfl⟩ (by rw [hj];omega)
  have e1:=Qca (sz:=2) _ hlen (g:=fun x=>if x=k then [Value.int .i32 (-1),.int .i32 0] else if x<k then [Value.int .i32 (-1),Value.int .i32 (-1)] else [.int .i32 0,.int .i32 0]) (n:=t) (i:=k) (k:=0) (v:=.int .i32 (-1)) (by omega) (by omega)
   (fun j hj=>by simp only [if_neg hj]) (by simp)
  rw [show k*2+0=k*2 from rfl] at e1
  rw [e1] at hr2
  have e2:=Qca (sz:=2) (fun x:Nat=>if x=k then [Value.int .i32 (-1),.int .i32 0] else if x<k then [Value.int .i32 (-1),Value.int .i32 (-1)] else [.int .i32 0,.int .i32 0]) (fun x=>by
    by_cases h1:x=k
    ·simp only [if_pos h1];rfl
    ·by_cases h2:x<k
     ·simp only [if_neg h1,if_pos h2];rfl
     ·simp only [if_neg h1,if_neg h2];rfl)
   (g:=fun x:Nat=>if x<k+1 then [Value.int .i32 (-1),Value.int .i32 (-1)] else [.int .i32 0,.int .i32 0]) (n:=t) (i:=k) (k:=1) (v:=.int .i32 (-1)) (by omega) (by omega)
   (fun j hj=>by
    by_cases hjk:j<k
    ·simp only [if_neg hj,if_pos hjk,if_pos (show j<k+1 by omega)]
    ·simp only [if_neg hj,if_neg hjk,if_neg (show ¬j<k+1 by omega)]) (by simp)
  rw [e2] at hr2
  exact hr2
 ·have hkt:k=t:=by omega
  subst hkt
  have hrow:Row w27.heap EB 268 (Qs9 (fun _=>none) k):=by
   have e:recs (fun x:Nat=>if x<k then [Value.int .i32 (-1),Value.int .i32 (-1)] else [.int .i32 0,.int .i32 0]) k=Qs9 (fun _=>none) k:=Qbb fun j hj=>by simp only [if_pos hj];rfl
   rw [←e];exact hrow
  refine ⟨_,_,_,_,_,_,_,rfl,?_,?_,hW27,hrow,ha19.keep hc27 (fun e=>by omega) (fun e=>by omega) (fun e=>by omega),⟨_,(hce.a.keep hc27 (fun e=>by omega) (fun e=>by omega)).congr fun x y=>⟨fun h=>h.elim,fun h=>Zji h⟩,fun x hx=>if_pos hx,fun e a b h=>(by cases h)⟩,
   fun e a b h=>(by cases h),by omega,by omega,enL,by omega⟩
  ·exact ((hc1.trans hc2).trans hch).trans' ((hce.c.mono (T:=fun k=>k=CL∨k=EB) fun i _ h=>.inl h).trans (hc27.mono fun i _ h=>.inr h)) (fun i hi=>.inr (by rcases hi with rfl | rfl<;>omega))
  ·omega
end
end Web
end Go.Proofs.YtfeekmmfdkfgmaaGreatDoor
