import Derived.Test.YtfeekmmfdkfgmaaGreatDoorGCoreE
import Derived.Test.YtfeekmmfdkfgmaaGreatDoorGRefC
import Derived.Test.YtfeekmmfdkfgmaaGreatDoorCoreT
/-
Which edges are ties: of a spanning Qct the other edges link the faces; they close no ring of faces just where each component has vertices, less edges, and faces two in all.
Conditions: those that each theorem states.
-/
set_option linter.unusedVariables false
set_option linter.unusedSimpArgs false
namespace Go.Proofs.YtfeekmmfdkfgmaaGreatDoor
open Go Go.RowKit
namespace Core
set_option linter.ambiguousOpen false
open Seq Cut Web
section
variable {N n m e f r a c x y u v:Nat} {tl:Nat→List Nat} {q:List (List Nat)} {B D D':Nat→Option (Nat × Nat)} {P P':Nat→Nat→Prop} {S:Nat→Prop}
theorem updN {D:Nat→Option (Nat × Nat)} {e i:Nat} {a b:Option (Nat × Nat)} (h:i≠e):upd (upd D e a) i b=upd (upd D i b) e a:=by
 funext j
 unfold upd
 by_cases h1:j=i
 ·rw [if_pos h1,if_neg (by omega),if_pos h1]
 ·by_cases h2:j=e
  ·rw [if_neg h1,if_pos h2,if_pos h2]
  ·rw [if_neg h1,if_neg h2,if_neg h2,if_neg h1]
theorem Zby:FO q (fun _=>none):=fun e a b h=>by cases h
theorem Zgy (hD:D e=none) (hF:FO q D) (hn:¬LK q D u v):FO q (upd D e (some (u,v))):=by
 intro i a b hi
 by_cases k:i=e
 ·subst k
  rw [Qab] at hi
  cases hi
  rwa [Qhh,Qk9 hD]
 ·rw [Qag _ _ k] at hi
  rw [updN k]
  have hD':upd D i none e=none:=by rw [Qag _ _ (fun h=>k h.symm)];exact hD
  rw [Q79 hD']
  have te:LK q D a b:=LK.te hi
  rintro (h | ⟨h1,h2⟩ | ⟨h1,h2⟩)
  ·exact hF i a b hi h
  ·exact hn ((h1.less.symm.trans te).trans h2.less.symm)
  ·exact hn ((h2.less.trans te.symm).trans h1.less)
theorem Zbz (hF:FO q D) (h:∀i p,D' i=some p→D i=some p):FO q D':=fun i a b hi k=>
 hF i a b (h i _ hi) (k.mono (fun _ _ h=>h) fun j p hj=>by
  obtain ⟨h1,h2⟩:=Qb3 hj
  rw [Qag _ _ h1];exact h j p h2)
theorem Zg8 (ha:a<n) (sa:S a) (h:∀x y,S x→S y→P x y):cl P S n=1:=by
 obtain ⟨z,h1,h2,h3⟩:=Qla (Q:=S) sa
 unfold cl
 rw [Qu0 List.nodup_range (List.mem_range.2 (show z<n by omega)) (Qc8.2 ⟨h2,fun y hy sy=>absurd sy (h3 y hy)⟩)]
 rw [List.filter_eq_nil_iff.2]
 ·rfl
 intro x _ k
 rw [Bool.and_eq_true,decide_eq_true_iff,Qc8] at k
 obtain ⟨⟨sx,k1⟩,k2⟩:=k
 rcases Nat.lt_trichotomy x z with l | l | l
 ·exact h3 x l sx
 ·exact k2 l
 ·exact k1 z l h2 (h x z sx h2)
theorem Q8p (h:∀x y,S x→S y→(P x y↔P' x y)):cl P S n=cl P' S n:=by
 unfold cl
 congr 1
 refine List.filter_congr fun x _=>?_
 rw [Bool.eq_iff_iff,Qc8,Qc8]
 exact ⟨fun k=>⟨k.1,fun y hy sy j=>k.2 y hy sy ((h x y k.1 sy).2 j)⟩,fun k=>⟨k.1,fun y hy sy j=>k.2 y hy sy ((h x y k.1 sy).1 j)⟩⟩
theorem Q4i:∀(m:Nat) (D:Nat→Option (Nat × Nat)),(∀i,m≤i→D i=none)→(∀i u v,D i=some (u,v)→(u<n∧S u)∧v<n∧S v)→(cl (LK q fun _=>none) S n:Int)≤cl (LK q D) S n+cB D m∧((cl (LK q fun _=>none) S n:Int)=cl (LK q D) S n+cB D m→FO q D)
 | 0,D,hD,_=>by
  have:D=fun _=>none:=funext fun i=>hD i (Nat.zero_le _)
  subst this
  exact ⟨by simp [cB,sm],fun _=>Zby⟩
 | m+1,D,hD,hl=>by
  cases hm:D m with
  | none=>
   have:=Q4i m D (fun i hi=>by
    rcases Nat.lt_or_ge m i with k | k
    ·exact hD i k
    ·obtain rfl:i=m:=by omega
     exact hm) hl
   have e0:cB D (m+1)=cB D m:=by simp [cB,sm,hm]
   rw [e0];exact this
  | some p=>
   obtain ⟨u,v⟩:=p
   obtain ⟨h1,h1'⟩:=Q4i m (upd D m none) (fun i hi=>by
    by_cases k:i=m
    ·rw [k,Qab]
    ·rw [Qag _ _ k];exact hD i (by omega)) fun i u v k=>hl i u v (Qb3 k).2
   obtain ⟨⟨hu,su⟩,hv,sv⟩:=hl m u v hm
   have h3:cB (upd D m none) m=cB D m:=Qfi fun i hi=>by rw [Qag _ _ (by omega)]
   have e0:cB D (m+1)=cB D m+1:=by simp [cB,sm,hm]
   rw [h3] at h1 h1'
   rw [e0]
   by_cases k:LK q (upd D m none) u v
   ·have h2:cl (LK q (upd D m none)) S n=cl (LK q D) S n:=Q8p fun x y _ _=>by
     rw [Qsv hm]
     exact ⟨.inl,fun i=>i.elim id fun i=>i.elim (fun i=>(i.1.trans k).trans i.2) fun i=>(i.1.trans k.symm).trans i.2⟩
    rw [h2] at h1
    exact ⟨by omega,fun i=>by omega⟩
   ·have h2:=Zcq (P:=LK q (upd D m none)) (P':=LK q D) (fun _=>LK.refl) (fun _ _=>LK.symm) (fun _ _ _=>LK.trans) hu hv su sv k fun x y=>Qsv hm
    rw [h2] at h1 h1'
    refine ⟨by omega,fun i=>?_⟩
    have:=Zgy (e:=m) (Qab _ _ _) (h1' (by omega)) k
    rwa [Qhh,show upd D m (some (u,v))=D by rw [←hm];exact Qi8 _ _] at this
noncomputable def only (P:Nat→Prop) (B:Nat→Option (Nat × Nat)):Nat→Option (Nat × Nat):=fun i=>bif bl (P i) then B i else none
theorem Qhw {P:Nat→Prop} {p:Nat × Nat} {i:Nat} (h:only P B i=some p):P i∧B i=some p:=by
 unfold only at h
 cases hb:bl (P i) with
 | false=>rw [hb] at h;cases h
 | true=>rw [hb] at h;exact ⟨Qc8.1 hb,h⟩
theorem Qss {P:Nat→Prop} {i:Nat} (h:P i):only P B i=B i:=by
 unfold only;rw [Qc8.2 h];rfl
theorem GC.symm (h:GC tl N x y):GC tl N y x:=RT.symm (fun _ _ ⟨e,h1,h2⟩=>⟨e,h1,h2.symm.imp (fun k=>⟨k.2,k.1⟩) fun k=>⟨k.2,k.1⟩⟩) h
theorem GC.edge (he:Laid tl N e):GC tl N (og tl N (2*e)) (og tl N (2*e+1)):=.one ⟨e,he,.inl ⟨rfl,rfl⟩⟩
theorem GC.tw (hM:MP N tl) (hx:x∈dl tl N):GC tl N (og tl N x) (og tl N (Core.tw x)):=by
 have k:=GC.edge (hM.laid hx)
 rcases Nat.mod_two_eq_zero_or_one x with h2 | h2
 ·have e1:2*(x/2)=x:=by omega
  have e2:Core.tw x=2*(x/2)+1:=by unfold Core.tw;rw [if_pos h2];omega
  rw [e2];rwa [e1] at k ⊢
 ·have e1:2*(x/2)+1=x:=by omega
  have e2:Core.tw x=2*(x/2):=by unfold Core.tw;rw [if_neg (by omega)];omega
  rw [e2];rw [e1] at k;exact k.symm
theorem GC.pf (hM:MP N tl) (hx:x∈dl tl N) (h:PF tl N x y):GC tl N (og tl N x) (og tl N y):=by
 have key:y∈dl tl N∧GC tl N (og tl N x) (og tl N y):=by
  induction h with
  | refl=>exact ⟨hx,.refl⟩
  | step _ k ih=>
   subst k
   exact ⟨hM.Qzy ih.1,ih.2.trans (by rw [hM.Zk9 ih.1];exact GC.tw hM ih.1)⟩
 exact key.2
structure CS (N:Nat) (tl:Nat→List Nat) (q:List (List Nat)) (B D:Nat→Option (Nat × Nat)):Prop extends CB (fun _=>False) N tl q B D where
 fB:FO [] B
 sp:∀e,Laid tl N e→LK [] B (og tl N (2*e)) (og tl N (2*e+1))
variable (h:CS N tl q B D)
include h
theorem CS.link (he:Laid tl N e):LK q D (2*e) (2*e+1):=by
 refine Classical.byContradiction fun hn=>?_
 cases hB:B e with
 | none=>
  cases hD:D e with
  | none=>exact h.no he hB hD
  | some p=>obtain rfl:=h.bD1 e p hD;exact hn (LK.te hD)
 | some p=>
  obtain rfl:=h.bB1 e p hB
  obtain ⟨i,h1,h2,h3,h4,_⟩:=h.cross (B':=upd B e none) (D':=D) h.bB2 h.bD1 he (Qgt (fun _=>LK.refl) (h.fB e _ _ hB)) (Qgt (fun _=>LK.refl) hn)
  exact h.no h2 ((Q2t h3).resolve_left h1) h4
theorem CS.linkT (hx:x∈dl tl N):LK q D x (Core.tw x):=by
 have k:=h.link (h.mp.laid hx)
 rcases Nat.mod_two_eq_zero_or_one x with h2 | h2
 ·have e1:2*(x/2)=x:=by omega
  have e2:Core.tw x=2*(x/2)+1:=by unfold Core.tw;rw [if_pos h2];omega
  rw [e2];rwa [e1] at k ⊢
 ·have e1:2*(x/2)+1=x:=by omega
  have e2:Core.tw x=2*(x/2):=by unfold Core.tw;rw [if_neg (by omega)];omega
  rw [e2];rw [e1] at k;exact k.symm
theorem CS.Qz6 (hv:v<N) (hx:x∈tl v) (hy:y∈tl v):LK q D x y:=by
 have hM:=h.mp
 refine RT.bind (E:=Cy (tl v)) (fun s t k=>?_) (Q6v hx hy)
 have hs:=k.mem.1
 have hsd:=Qa2.2 ⟨v,hv,hs⟩
 have hnd:=(Qxx (f:=tl) (l:=List.range N) hM.nd).1 v (List.mem_range.2 hv)
 have e1:sg tl N s=t:=by
  unfold sg
  rw [if_pos hsd,hM.ogE hv hs]
  exact Qv3 hnd k
 have htw:=hM.tw s hsd
 have e2:ph tl N (Core.tw s)=t:=by
  rw [hM.phE htw,show Core.tw (Core.tw s)=s from Q02 s,e1]
 have hlt:=hM.lt _ htw
 refine (h.linkT hsd).trans (LK.sf ?_)
 rw [←e2]
 exact h.Zdr (by omega)
theorem CS.gc:LK [] B x y↔GC tl N x y:=by
 constructor
 ·refine RT.mono fun u v k=>?_
  rcases k with ⟨A,hA,_⟩ | ⟨i,k⟩
  ·cases hA
  ·rcases k with k | k
   ·obtain ⟨k1,k2,_⟩:=h.bB i _ k;cases k2;exact ⟨i,k1,.inl ⟨rfl,rfl⟩⟩
   ·obtain ⟨k1,k2,_⟩:=h.bB i _ k;cases k2;exact ⟨i,k1,.inr ⟨rfl,rfl⟩⟩
 ·refine RT.bind fun u v k=>?_
  obtain ⟨i,hi,⟨rfl,rfl⟩ | ⟨rfl,rfl⟩⟩:=k
  ·exact h.sp i hi
  ·exact (h.sp i hi).symm
omit h in
theorem Qis (hx:x∈dl tl N):x∈tl (og tl N x)∧og tl N x<N:=⟨(Qbm hx).2,(Qbm hx).1⟩
theorem CS.comp (hx:x∈dl tl N) (hy:y∈dl tl N) (k:GC tl N (og tl N x) (og tl N y)):LK q D x y:=by
 have key:∀{v},GC tl N (og tl N x) v→∀y,y∈dl tl N→og tl N y=v→LK q D x y:=fun {v} k=>by
  induction k with
  | refl=>intro y hy e;exact h.Qz6 (Qis hx).2 (Qis hx).1 (e ▸ (Qis hy).1)
  | step _ k ih=>
   intro y hy e
   obtain ⟨i,hi,⟨h1,h2⟩ | ⟨h1,h2⟩⟩:=k
   ·have j1:=ih (2*i) hi h1.symm
    have j2:=h.mp.odd hi
    exact (j1.trans (h.link hi)).trans (h.Qz6 (Qis j2).2 (Qis j2).1 (by rw [←h2,←e];exact (Qis hy).1))
   ·have j2:=h.mp.odd hi
    have j1:=ih (2*i+1) j2 h1.symm
    exact (j1.trans (h.link hi).symm).trans (h.Qz6 (Qis hi).2 (Qis hi).1 (by rw [←h2,←e];exact (Qis hy).1))
 exact key k y hy rfl
theorem CS.local (hD':∀i p,D' i=some p→Laid tl N i∧p=(2*i,2*i+1)) (hx:x∈dl tl N) (hr:GC tl N r (og tl N x)) (k:LK q D' x y):(y∈dl tl N∧GC tl N r (og tl N y))∧LK q (only (fun i=>GC tl N r (og tl N (2*i))) D') x y:=by
 induction k with
 | refl=>exact ⟨⟨hx,hr⟩,LK.refl⟩
 | step _ k ih=>
  obtain ⟨⟨h1,h2⟩,h3⟩:=ih
  have hM:=h.mp
  rcases k with k | ⟨i,k⟩
  ·have:=hM.lt _ h1
   have pf:=(h.pf (by omega)).1 k
   exact ⟨⟨Zk6 hM h1 pf,h2.trans (GC.pf hM h1 pf)⟩,h3.trans (LK.sf k)⟩
  ·rcases k with k | k
   ·obtain ⟨j1,j2⟩:=hD' i _ k
    cases j2
    exact ⟨⟨hM.odd j1,h2.trans (GC.edge j1)⟩,h3.trans (LK.te (e:=i) (by rw [Qss (P:=fun i=>GC tl N r (og tl N (2*i))) h2];exact k))⟩
   ·obtain ⟨j1,j2⟩:=hD' i _ k
    cases j2
    have h4:=h2.trans (GC.edge j1).symm
    exact ⟨⟨j1,h4⟩,h3.trans (LK.te (e:=i) (by rw [Qss (P:=fun i=>GC tl N r (og tl N (2*i))) h4];exact k)).symm⟩
theorem CS.Zll (hr:GC tl N r x) (k:LK [] B x y):LK [] (only (fun i=>GC tl N r (og tl N (2*i))) B) x y:=by
 induction k with
 | refl=>exact LK.refl
 | @step u v k' k ih=>
  have hu:GC tl N r u:=hr.trans (h.gc.1 k')
  rcases k with ⟨_,k,_⟩ | ⟨i,k⟩
  ·cases k
  ·rcases k with k | k
   ·obtain ⟨j1,j2,_⟩:=h.bB i _ k
    cases j2
    exact ih.trans (LK.te (e:=i) (by rw [Qss (P:=fun i=>GC tl N r (og tl N (2*i))) hu];exact k))
   ·obtain ⟨j1,j2,_⟩:=h.bB i _ k
    cases j2
    exact ih.trans (LK.te (e:=i) (by rw [Qss (P:=fun i=>GC tl N r (og tl N (2*i))) (hu.trans (GC.edge j1).symm)];exact k)).symm
omit h
noncomputable def vN (tl:Nat→List Nat) (N r:Nat):Int:=sm (fun v=>if bl (GC tl N r v) then 1 else 0) N
noncomputable def eN (tl:Nat→List Nat) (N r:Nat):Int:=sm (fun e=>if bl (Laid tl N e∧GC tl N r (og tl N (2*e))) then 1 else 0) N
noncomputable def fN (tl:Nat→List Nat) (N r:Nat):Nat:=cl (PF tl N) (fun x=>x∈dl tl N∧GC tl N r (og tl N x)) (2*N)
include h
theorem CS.euler (hx:x∈dl tl N):(fN tl N (og tl N x):Int)≤eN tl N (og tl N x)-vN tl N (og tl N x)+2∧(vN tl N (og tl N x)-eN tl N (og tl N x)+fN tl N (og tl N x)=2↔FO q (only (fun i=>GC tl N (og tl N x) (og tl N (2*i))) D)):=by
 have hM:=h.mp
 generalize hr:og tl N x=r
 have hrN:r<N:=hr ▸ (Qis hx).2
 let P:Nat→Prop:=fun i=>GC tl N r (og tl N (2*i))
 let Sd:Nat→Prop:=fun x=>x∈dl tl N∧GC tl N r (og tl N x)
 have hxr:Sd x:=⟨hx,by rw [hr];exact .refl⟩
 have hlt:=hM.lt x hx
 have f1:cl (LK q (only P D)) Sd (2*N)=1:=Zg8 hlt hxr fun y z hy hz=>by
  have k:=h.comp hy.1 hz.1 (hy.2.symm.trans hz.2)
  exact (h.local (fun i p hp=>h.bD i p hp) hy.1 hy.2 k).2
 have f2:cl (LK q fun _=>none) Sd (2*N)=fN tl N r:=Q8p fun y z hy hz=>by
  have:=hM.lt y hy.1
  rw [←h.pf (by omega)]
  constructor
  ·exact fun k=>Zmz h.nd (h.al y (by omega)) (fun _=>rfl) k
  ·exact LK.sf
 have oD:∀i,N≤i→only P D i=none:=fun i hi=>by
  cases k:only P D i with
  | none=>rfl
  | some p=>have:=hM.Qbj (h.bD i p (Qhw k).2).1;omega
 have hlD:∀i u v,only P D i=some (u,v)→(u<2*N∧Sd u)∧v<2*N∧Sd v:=fun i u v k=>by
  obtain ⟨k1,k2⟩:=Qhw k
  obtain ⟨k3,k4⟩:=h.bD i _ k2
  cases k4
  have:=hM.Qbj k3
  exact ⟨⟨by omega,k3,k1⟩,by omega,hM.odd k3,k1.trans (GC.edge k3)⟩
 have fc:=Q4i (q:=q) (S:=Sd) (n:=2*N) N (only P D) oD hlD
 have g1:cl (LK [] (only P B)) (GC tl N r) N=1:=Zg8 hrN .refl fun y z hy hz=>h.Zll hy (h.gc.2 (hy.symm.trans hz))
 have oB:∀i,N≤i→only P B i=none:=fun i hi=>by
  cases k:only P B i with
  | none=>rfl
  | some p=>have:=hM.Qbj (h.bB i p (Qhw k).2).1;omega
 have hlB:∀i u v,only P B i=some (u,v)→(u<N∧GC tl N r u)∧v<N∧GC tl N r v:=fun i u v k=>by
  obtain ⟨k1,k2⟩:=Qhw k
  obtain ⟨k3,k4,_⟩:=h.bB i _ k2
  cases k4
  exact ⟨⟨(Qis k3).2,k1⟩,(Qis (hM.odd k3)).2,k1.trans (GC.edge k3)⟩
 have gt:=Qy3 (q:=[]) (S:=GC tl N r) (n:=N) N (only P B) oB (Zbz h.fB fun i p k=>(Qhw k).2) hlB
 have g2:(cl (LK [] fun _=>none) (GC tl N r) N:Int)=vN tl N r:=by
  rw [Q8q fun y z _ _ k=>Q1j k,Q1l];rfl
 have ee:cB (only P B) N+cB (only P D) N=eN tl N r:=by
  unfold cB eN
  rw [Q3q]
  refine Qfi fun i _=>?_
  show (if (only P B i).isSome=true then (1:Int) else 0)+(if (only P D i).isSome=true then 1 else 0)=if bl (Laid tl N i∧GC tl N r (og tl N (2*i)))=true then 1 else 0
  by_cases hp:P i
  ·rw [Qss hp,Qss hp]
   by_cases hl:Laid tl N i
   ·have e1:bl (Laid tl N i∧GC tl N r (og tl N (2*i)))=true:=Qc8.2 ⟨hl,hp⟩
    rw [e1]
    rcases h.cov i hl with k | k | k
    ·exact k.elim
    ·rcases h.ex i with j | j
     ·rw [j] at k;cases k
     ·simp [k,j]
    ·rcases h.ex i with j | j
     ·simp [k,j]
     ·rw [j] at k;cases k
   ·have e1:¬bl (Laid tl N i∧GC tl N r (og tl N (2*i)))=true:=fun k=>hl (Qc8.1 k).1
    have b0:B i=none:=by
     cases k:B i with
     | none=>rfl
     | some p=>exact absurd (h.bB i p k).1 hl
    have d0:D i=none:=by
     cases k:D i with
     | none=>rfl
     | some p=>exact absurd (h.bD i p k).1 hl
    rw [if_neg e1,b0,d0];rfl
  ·have e1:¬bl (Laid tl N i∧GC tl N r (og tl N (2*i)))=true:=fun k=>hp (Qc8.1 k).2
   have b0:only P B i=none:=by
    cases k:only P B i with
    | none=>rfl
    | some p=>exact absurd (Qhw k).1 hp
   have d0:only P D i=none:=by
    cases k:only P D i with
    | none=>rfl
    | some p=>exact absurd (Qhw k).1 hp
   rw [if_neg e1,b0,d0];rfl
 have eF:(cl (LK q fun _=>none) Sd (2*N):Int)=(fN tl N r:Nat):=by rw [f2]
 rw [f1] at fc
 rw [g1,g2] at gt
 rw [eF] at fc
 obtain ⟨c1,c2⟩:=fc
 refine ⟨by omega,fun k=>c2 (by omega),fun k=>?_⟩
 have:=Qy3 (q:=q) (S:=Sd) (n:=2*N) N (only P D) oD k hlD
 rw [f1,eF] at this
 omega
theorem CS.Qct:FO q D↔∀x,x∈dl tl N→vN tl N (og tl N x)-eN tl N (og tl N x)+fN tl N (og tl N x)=2:=by
 constructor
 ·intro k x hx
  exact (h.euler hx).2.2 (Zbz k fun i p j=>(Qhw j).2)
 ·intro k i a c hi j
  obtain ⟨h1,h2⟩:=h.bD i _ hi
  cases h2
  have k1:=(h.euler h1).2.1 (k _ h1)
  have hp:GC tl N (og tl N (2*i)) (og tl N (2*i)):=.refl
  have k2:=k1 i (2*i) (2*i+1) (by rw [Qss (P:=fun j=>GC tl N (og tl N (2*i)) (og tl N (2*j))) hp];exact hi)
  refine k2 ?_
  have k3:=(h.local (D':=upd D i none) (r:=og tl N (2*i)) (fun j p hp=>h.bD j p (Qb3 hp).2) h1 .refl j).2
  refine k3.mono (fun _ _ h=>h) fun j p hp=>?_
  obtain ⟨l1,l2⟩:=Qhw hp
  obtain ⟨l2,l3⟩:=Qb3 l2
  rw [Qag _ _ l2,Qss (P:=fun j=>GC tl N (og tl N (2*i)) (og tl N (2*j))) l1];exact l3
end
section
variable {e f g i x y:Nat} {L:List Nat} {en:Nat→Nat × Nat} {ky:Nat→Int} {B:Nat→Option (Nat × Nat)}
structure KR (en:Nat→Nat × Nat) (ky:Nat→Int) (L:List Nat) (B:Nat→Option (Nat × Nat)):Prop where
 b:∀i p,B i=some p→i∈L∧p=en i∧p.1≠p.2
 f:FO [] B
 s:∀e,e∈L→LK [] B (en e).1 (en e).2
 m:∀g f p,B g=some p→f∈L→B f=none→¬LK [] (upd B g none) (en f).1 (en f).2→ky g<ky f
theorem KR.nil:KR en ky [] (fun _=>none):=⟨fun i p h=>(by cases h),Zby,fun e h=>(by cases h),fun g f p h=>(by cases h)⟩
theorem KR.old (h:KR en ky L B) (hk:∀f,f∈L→ky f<ky e) (hl:LK [] B (en e).1 (en e).2):KR en ky (e::L) B:=by
 refine ⟨fun i p hi=>?_,h.f,fun i hi=>?_,fun g f p hg hf hn k=>?_⟩
 ·obtain ⟨h1,h2⟩:=h.b i p hi
  exact ⟨List.mem_cons_of_mem _ h1,h2⟩
 ·rcases List.mem_cons.1 hi with rfl | hi
  ·exact hl
  ·exact h.s i hi
 ·rcases List.mem_cons.1 hf with rfl | hf
  ·exact hk g (h.b g p hg).1
  ·exact h.m g f p hg hf hn k
theorem KR.new (h:KR en ky L B) (he:e∉L) (hk:∀f,f∈L→ky f<ky e) (hl:¬LK [] B (en e).1 (en e).2):KR en ky (e::L) (upd B e (some (en e))):=by
 have hB:B e=none:=by
  cases k:B e with
  | none=>rfl
  | some p=>exact absurd (h.b e p k).1 he
 refine ⟨fun i p hi=>?_,Zgy hB h.f hl,fun i hi=>?_,fun g f p hg hf hn k=>?_⟩
 ·by_cases hie:i=e
  ·subst hie
   rw [Qab] at hi
   cases hi
   exact ⟨List.mem_cons_self ..,rfl,fun k=>hl (k ▸ LK.refl)⟩
  ·rw [Qag _ _ hie] at hi
   obtain ⟨h1,h2⟩:=h.b i p hi
   exact ⟨List.mem_cons_of_mem _ h1,h2⟩
 ·rcases List.mem_cons.1 hi with rfl | hi
  ·exact LK.te (e:=i) (Qab _ _ _)
  ·refine (h.s i hi).mono (fun _ _ h=>h) fun j p hj=>?_
   rw [Qag _ _ (fun k=>by rw [k,hB] at hj;cases hj)];exact hj
 ·have hfe:f≠e:=fun k=>by rw [k,Qab] at hn;cases hn
  have hfL:=(List.mem_cons.1 hf).resolve_left hfe
  by_cases hge:g=e
  ·subst hge
   rw [Qhh,Qk9 hB] at k
   exact absurd (h.s f hfL) k
  ·rw [Qag _ _ hge] at hg
   rw [Qag _ _ hfe] at hn
   refine h.m g f p hg hfL hn fun j=>k ?_
   refine j.mono (fun _ _ h=>h) fun i q hi=>?_
   obtain ⟨k1,k2⟩:=Qb3 hi
   rw [Qag _ _ k1,Qag _ _ (fun k=>by rw [k,hB] at k2;cases k2)];exact k2
end
section
variable {N e x y:Nat} {L:List Nat} {tl:Nat→List Nat} {q:List (List Nat)} {B D:Nat→Option (Nat × Nat)} {ky:Nat→Int}
def ties (tl:Nat→List Nat) (N:Nat) (B:Nat→Option (Nat × Nat)):Nat→Option (Nat × Nat):=fun e=>if Laid tl N e∧B e=none then some (2*e,2*e+1) else none
theorem Q45 {p:Nat × Nat} (h:ties tl N B e=some p):Laid tl N e∧B e=none∧p=(2*e,2*e+1):=by
 unfold ties at h
 split at h
 ·rename_i k;cases h;exact ⟨k.1,k.2,rfl⟩
 ·cases h
def ens (tl:Nat→List Nat) (N e:Nat):Nat × Nat:=(og tl N (2*e),og tl N (2*e+1))
theorem KR.cs (h:KR (ens tl N) ky L B) (hM:MP N tl) (hL:∀e,e∈L↔Laid tl N e) (fq:FQ (ph tl N) q) (nd:q.flatten.Nodup) (al:∀x,x<3*N→∃A∈q,x∈A) (lt:∀x∈q.flatten,x<3*N):CS N tl q B (ties tl N B) where
 mp:=hM
 fq:=fq
 nd:=nd
 al:=al
 lt:=lt
 bB i p hi:=by
  obtain ⟨h1,h2,h3⟩:=h.b i p hi
  exact ⟨(hL i).1 h1,h2,h3⟩
 bD i p hi:=by
  obtain ⟨h1,h2,h3⟩:=Q45 hi
  exact ⟨h1,h3⟩
 ex i:=by
  unfold ties
  by_cases k:Laid tl N i∧B i=none
  ·exact .inl k.2
  ·right;rw [if_neg k]
 li i k:=k.elim
 cov i hi:=by
  right
  cases k:B i with
  | some p=>exact .inl rfl
  | none=>right;unfold ties;rw [if_pos ⟨hi,k⟩];rfl
 fB:=h.f
 sp e he:=h.s e ((hL e).2 he)
theorem KR.mm (h:KR (ens tl N) ky L B) (hL:∀e,e∈L↔Laid tl N e):MM N tl B (ties tl N B) ky fun _=>False:=fun g f p r _ hg hf k=>by
 obtain ⟨h1,h2,h3⟩:=Q45 hf
 exact h.m g f p hg ((hL f).2 h1) h2 k
end
section
variable {N j n x y z:Nat} {tl:Nat→List Nat} {q q':List (List Nat)} {X:Nat→List Nat} {A:List Nat}
open Classical in
structure FM (tl:Nat→List Nat) (N:Nat) (X:Nat→List Nat) (j:Nat) (A:List Nat) (q:List (List Nat)):Prop where
 f:FQ (fun z=>if (∃i,i<j∧z∈X i) then ph tl N z else nxt A z) q
 l:∀a b,LK q (fun _=>none) a b↔a=b∨(∃i,i<j∧a∈X i∧b∈X i)∨(a∈A∧b∈A)
theorem FM.start (hf:FQ id q) (hl:∀a b,LK q (fun _=>none) a b↔a=b):FM tl N X 0 [] q:=by
 constructor
 ·refine hf.congr fun C _ z _=>?_
  rw [if_neg (by rintro ⟨i,h,_⟩;omega)];rfl
 ·intro a b
  rw [hl]
  exact ⟨.inl,fun k=>k.elim id fun k=>k.elim (fun ⟨i,h,_⟩=>absurd h (Nat.not_lt_zero _)) fun k=>(by cases k.1)⟩
theorem FM.first (h:FM tl N X j [] q):FM tl N X j [x] q:=by
 constructor
 ·refine h.f.congr fun C _ z _=>?_
  by_cases k:∃i,i<j∧z∈X i
  ·rw [if_pos k,if_pos k]
  ·rw [if_neg k,if_neg k,Qwh];rfl
 ·intro a b
  rw [h.l]
  refine ⟨fun k=>k.imp_right fun k=>k.imp_right fun k=>(by cases k.1),fun k=>?_⟩
  rcases k with k | k | ⟨k1,k2⟩
  ·exact .inl k
  ·exact .inr (.inl k)
  ·rw [List.mem_singleton] at k1 k2;exact .inl (k1.trans k2.symm)
theorem Zee {R:List Nat} (hn:(x::R).Nodup) {t:Nat} (ht:(x::R).getLast?=some t):nxt (x::R) t=x:=Qv3 hn (.inr ⟨ht,rfl⟩)
theorem FM.more (hX:Fcs tl N n X) (hM:MP N tl) (hj:j<n) {R S:List Nat} (hXj:X j=x::R++y::S) (h:FM tl N X j (x::R) q) (hm:Mg q q' x y):FM tl N X j (x::R++[y]) q':=by
 obtain ⟨d,o⟩:=hX.o j hj
 have hnd:=o.n
 rw [hXj] at hnd
 have hnA:(x::R).Nodup:=(List.nodup_append.1 hnd).1
 have hyA:y∉x::R:=fun k=>(List.nodup_append.1 hnd).2.2 y k y (by simp) rfl
 have hxj:x∈X j:=by rw [hXj];simp
 have hyj:y∈X j:=by rw [hXj];simp
 have off:∀{z},z∈X j→¬∃i,i<j∧z∈X i:=fun {z} hz ⟨i,h1,h2⟩=>by
  have:=hX.u i j z (by omega) hj h2 hz;omega
 constructor
 ·refine (hm.f _ h.f).congr fun C _ z _=>?_
  by_cases k:∃i,i<j∧z∈X i
  ·rw [if_pos k,if_pos k]
   obtain ⟨i,h1,h2⟩:=k
   have hp:ph tl N z∈X i:=by
    obtain ⟨d',o'⟩:=hX.o i (by omega)
    exact (o'.Qkk h2).2 (.one rfl)
   rw [sw_o]
   ·rintro rfl;exact off hxj ⟨i,h1,hp⟩
   ·rintro rfl;exact off hyj ⟨i,h1,hp⟩
  ·rw [if_neg k,if_neg k]
   obtain ⟨t,ht⟩:∃t,(x::R).getLast?=some t:=⟨_,List.getLast?_eq_some_getLast (by simp)⟩
   have htm:=List.mem_of_getLast? ht
   have e1:ins (t:Int) y (x::R)=x::R++[y]:=by
    obtain ⟨P,hP⟩:=List.getLast?_eq_some_iff.1 ht
    rw [hP] at hnA ⊢
    rw [Q4g (B:=[]) (fun u hu k=>?_) rfl]
    ·simp
    ·have:u=t:=by omega
     subst this
     exact (List.nodup_append.1 hnA).2.2 u hu u (by simp) rfl
   rw [←e1,Zar hnA hyA rfl htm,Zee hnA ht,Zhs]
 ·intro a b
  rw [hm.l]
  simp only [h.l]
  have hxx:x∈x::R:=by simp
  have hyn:∀{i},i<j→y∉X i:=fun {i} h1 h2=>off hyj ⟨i,h1,h2⟩
  have hxn:∀{i},i<j→x∉X i:=fun {i} h1 h2=>off hxj ⟨i,h1,h2⟩
  have ax:∀{a},(a=x∨(∃i,i<j∧a∈X i∧x∈X i)∨(a∈x::R∧x∈x::R))→a∈x::R:=fun k=>by
   rcases k with rfl | ⟨i,h1,_,h2⟩ | ⟨k,_⟩
   ·exact hxx
   ·exact absurd h2 (hxn h1)
   ·exact k
  have xa:∀{a},(x=a∨(∃i,i<j∧x∈X i∧a∈X i)∨(x∈x::R∧a∈x::R))→a∈x::R:=fun k=>by
   rcases k with rfl | ⟨i,h1,h2,_⟩ | ⟨_,k⟩
   ·exact hxx
   ·exact absurd h2 (hxn h1)
   ·exact k
  have ay:∀{a},(a=y∨(∃i,i<j∧a∈X i∧y∈X i)∨(a∈x::R∧y∈x::R))→a=y:=fun k=>by
   rcases k with rfl | ⟨i,h1,_,h2⟩ | ⟨_,k⟩
   ·rfl
   ·exact absurd h2 (hyn h1)
   ·exact absurd k hyA
  have ya:∀{a},(y=a∨(∃i,i<j∧y∈X i∧a∈X i)∨(y∈x::R∧a∈x::R))→a=y:=fun k=>by
   rcases k with rfl | ⟨i,h1,h2,_⟩ | ⟨k,_⟩
   ·rfl
   ·exact absurd h2 (hyn h1)
   ·exact absurd k hyA
  simp only [List.mem_append,List.mem_singleton]
  constructor
  ·rintro ((k | k | k) | ⟨k1,k2⟩ | ⟨k1,k2⟩)
   ·exact .inl k
   ·exact .inr (.inl k)
   ·exact .inr (.inr ⟨.inl k.1,.inl k.2⟩)
   ·exact .inr (.inr ⟨.inl (ax k1),.inr (ya k2)⟩)
   ·exact .inr (.inr ⟨.inr (ay k1),.inl (xa k2)⟩)
  ·rintro (k | k | ⟨k1,k2⟩)
   ·exact .inl (.inl k)
   ·exact .inl (.inr (.inl k))
   ·rcases k1 with k1 | rfl<;>rcases k2 with k2 | rfl
    ·exact .inl (.inr (.inr ⟨k1,k2⟩))
    ·exact .inr (.inl ⟨.inr (.inr ⟨k1,hxx⟩),.inl rfl⟩)
    ·exact .inr (.inr ⟨.inl rfl,.inr (.inr ⟨hxx,k2⟩)⟩)
    ·exact .inl (.inl rfl)
theorem FM.apart (hX:Fcs tl N n X) (hj:j<n) {R S:List Nat} (hXj:X j=x::R++y::S) (h:FM tl N X j (x::R) q):¬LK q (fun _=>none) x y:=by
 obtain ⟨d,o⟩:=hX.o j hj
 have hnd:=o.n
 rw [hXj] at hnd
 have hyA:y∉x::R:=fun k=>(List.nodup_append.1 hnd).2.2 y k y (by simp) rfl
 have hxj:x∈X j:=by rw [hXj];simp
 rw [h.l]
 rintro (rfl | ⟨i,h1,h2,_⟩ | ⟨_,k⟩)
 ·exact hyA (by simp)
 ·have:=hX.u i j x (by omega) hj h2 hxj;omega
 ·exact hyA k
theorem FM.last (hX:Fcs tl N n X) (hj:j<n) (h:FM tl N X j (X j) q):FM tl N X (j+1) [] q:=by
 obtain ⟨d,o⟩:=hX.o j hj
 constructor
 ·refine h.f.congr fun C _ z _=>?_
  by_cases k:∃i,i<j∧z∈X i
  ·obtain ⟨i,h1,h2⟩:=k
   rw [if_pos ⟨i,by omega,h2⟩,if_pos ⟨i,h1,h2⟩]
  ·rw [if_neg k]
   by_cases hz:z∈X j
   ·rw [if_pos ⟨j,by omega,hz⟩]
    exact o.c _ _ (Q21 o.n hz)
   ·rw [if_neg,Qpj hz,Qpj (by simp)]
    rintro ⟨i,h1,h2⟩
    rcases Nat.lt_or_ge i j with l | l
    ·exact k ⟨i,l,h2⟩
    ·obtain rfl:i=j:=by omega
     exact hz h2
 ·intro a b
  rw [h.l]
  constructor
  ·rintro (k | ⟨i,h1,h2⟩ | k)
   ·exact .inl k
   ·exact .inr (.inl ⟨i,by omega,h2⟩)
   ·exact .inr (.inl ⟨j,by omega,k⟩)
  ·rintro (k | ⟨i,h1,h2⟩ | k)
   ·exact .inl k
   ·rcases Nat.lt_or_ge i j with l | l
    ·exact .inr (.inl ⟨i,l,h2⟩)
    ·obtain rfl:i=j:=by omega
     exact .inr (.inr h2)
   ·cases k.1
theorem FM.all (hX:Fcs tl N n X) (h:FM tl N X n [] q):FQ (ph tl N) q:=by
 refine h.f.congr fun C _ z _=>?_
 by_cases k:∃i,i<n∧z∈X i
 ·rw [if_pos k]
 ·rw [if_neg k,Qd7,Qpj (by simp)]
  intro hz
  obtain ⟨i,h1,h2⟩:=hX.a z hz
  exact k ⟨i,h1,h2⟩
end
section
variable {V N l r x y:Nat} {tl:Nat→List Nat} {X:Nat→List Nat} {vs:List Nat} {lm:Nat→Nat}
theorem Qlf {A B:List Nat} (ha:A.Nodup) (hb:B.Nodup) (h:∀x,x∈A↔x∈B):A.Perm B:=(List.perm_ext_iff_of_nodup ha hb).2 fun {x}=>h x
theorem Zgz (f:Nat→List Nat) {A B:List Nat} (h:A.Sublist B):(A.flatMap f).Sublist (B.flatMap f):=by
 induction h with
 | slnil=>exact List.Sublist.refl _
 | cons a _ ih=>rw [List.flatMap_cons];exact ih.trans (List.sublist_append_right _ _)
 | cons_cons a _ ih=>rw [List.flatMap_cons,List.flatMap_cons];exact (List.Sublist.refl _).append ih
structure LM' (V N:Nat) (tl:Nat→List Nat) (lm:Nat→Nat):Prop where
 lt:∀x,x<V→lm x<V
 gc:∀x,x<V→GC tl N x (lm x)
 eq:∀x y,x<V→y<V→(lm x=lm y↔GC tl N x y)
 b:∀v,V≤v→tl v=[]
theorem LM'.og {V N x:Nat} {tl:Nat→List Nat} {lm:Nat→Nat} (h:LM' V N tl lm) (hx:x∈dl tl N):Core.og tl N x<V:=by
 rcases Nat.lt_or_ge (Core.og tl N x) V with k | k
 ·exact k
 ·have:=(Qbm hx).2
  rw [h.b _ k] at this;cases this
structure VS (V:Nat) (tl:Nat→List Nat) (vs:List Nat):Prop where
 nd:vs.Nodup
 lt:∀v∈vs,v<V
 all:∀v,v<V→tl v≠[]→v∈vs
theorem Zbv (hM:MP N tl) (h:GC tl N x y):x=y∨(y<N∧tl y≠[]):=by
 cases h with
 | refl=>exact .inl rfl
 | step _ k=>
  right
  obtain ⟨e,he,⟨_,rfl⟩ | ⟨_,rfl⟩⟩:=k
  ·have:=Qis (hM.odd he)
   exact ⟨this.2,fun k=>by rw [k] at this;cases this.1⟩
  ·have:=Qis he
   exact ⟨this.2,fun k=>by rw [k] at this;cases this.1⟩
section
variable (hM:MP N tl) (hVN:V≤N) (hv:VS V tl vs) (hl:LM' V N tl lm) (hx:x∈dl tl N)
include hM hVN hv hl hx
theorem Q6x (v:Nat):(v∈vs∧lm v=lm (og tl N x))↔v<N∧GC tl N (og tl N x) v:=by
 have ho:=Qis hx
 have hoV:=hl.og hx
 constructor
 ·rintro ⟨h1,h2⟩
  have:=hv.lt v h1
  exact ⟨by omega,((hl.eq v _ this hoV).1 h2).symm⟩
 ·rintro ⟨h1,h2⟩
  have h3:tl v≠[]:=by
   rcases Zbv hM h2 with rfl | ⟨_,h3⟩
   ·intro k;rw [k] at ho;cases ho.1
   ·exact h3
  have h4:v<V:=by
   rcases Nat.lt_or_ge v V with k | k
   ·exact k
   ·exact absurd (hl.b v k) h3
  exact ⟨hv.all v h4 h3,(hl.eq v _ h4 hoV).2 h2.symm⟩
theorem Q5m:(vs.filter fun v=>lm v==lm (og tl N x)).Perm ((List.range N).filter fun v=>bl (GC tl N (og tl N x) v)):=by
 refine Qlf (hv.nd.filter _) (List.nodup_range.filter _) fun v=>?_
 rw [List.mem_filter,List.mem_filter,beq_iff_eq,Q6x hM hVN hv hl hx,List.mem_range,Qc8]
theorem Zmb:((vs.filter fun v=>lm v==lm (og tl N x)).length:Int)=vN tl N (og tl N x):=by
 rw [(Q5m hM hVN hv hl hx).length_eq,Q1l];rfl
theorem Zmc:(((vs.filter fun v=>lm v==lm (og tl N x)).map fun v=>(tl v).length).sum:Int)=2*eN tl N (og tl N x):=by
 have e1:((vs.filter fun v=>lm v==lm (og tl N x)).map fun v=>(tl v).length).sum=(((List.range N).filter fun v=>bl (GC tl N (og tl N x) v)).flatMap tl).length:=by
  rw [List.length_flatMap]
  exact ((Q5m hM hVN hv hl hx).map _).sum_nat
 have e2:(((List.range N).filter fun v=>bl (GC tl N (og tl N x) v)).flatMap tl).Perm (((el tl N).filter fun e=>bl (GC tl N (og tl N x) (og tl N (2*e)))).flatMap fun e=>[2*e,2*e+1]):=by
  refine Qlf ?_ ?_ fun d=>?_
  ·exact hM.nd.sublist (Zgz _ List.filter_sublist)
  ·exact ((hM.Zcb.nodup_iff).2 hM.nd).sublist (Zgz _ List.filter_sublist)
  ·rw [List.mem_flatMap,List.mem_flatMap]
   constructor
   ·rintro ⟨v,h1,h2⟩
    rw [List.mem_filter,List.mem_range,Qc8] at h1
    have hd:=Qa2.2 ⟨v,h1.1,h2⟩
    have ho:og tl N d=v:=hM.ogE h1.1 h2
    refine ⟨d/2,List.mem_filter.2 ⟨hM.Q1i.2 (hM.laid hd),Qc8.2 (h1.2.trans ?_)⟩,by simp;omega⟩
    rcases Nat.mod_two_eq_zero_or_one d with k | k
    ·rw [show 2*(d/2)=d by omega,ho];exact .refl
    ·have:=GC.edge (hM.laid hd)
     rw [show 2*(d/2)+1=d by omega,ho] at this
     exact this.symm
   ·rintro ⟨e,h1,h2⟩
    rw [List.mem_filter,Qc8,hM.Q1i] at h1
    simp only [List.mem_cons,List.not_mem_nil,or_false] at h2
    rcases h2 with rfl | rfl
    ·have:=Qis h1.1
     exact ⟨_,List.mem_filter.2 ⟨List.mem_range.2 this.2,Qc8.2 h1.2⟩,this.1⟩
    ·have:=Qis (hM.odd h1.1)
     exact ⟨_,List.mem_filter.2 ⟨List.mem_range.2 this.2,Qc8.2 (h1.2.trans (GC.edge h1.1))⟩,this.1⟩
 rw [e1,e2.length_eq,List.length_flatMap]
 have e3:∀L:List Nat,(L.map fun e=>[2*e,2*e+1].length).sum=2*L.length:=fun L=>by
  induction L with
  | nil=>rfl
  | cons a L ih=>rw [List.map_cons,List.sum_cons,ih];simp;omega
 rw [e3]
 have e4:((el tl N).filter fun e=>bl (GC tl N (og tl N x) (og tl N (2*e))))=(List.range N).filter fun e=>bl (Laid tl N e∧GC tl N (og tl N x) (og tl N (2*e))):=by
  unfold el
  rw [List.filter_filter]
  refine List.filter_congr fun e _=>?_
  rw [Bool.eq_iff_iff,Bool.and_eq_true,Qc8,Qc8,decide_eq_true_iff]
  exact ⟨fun k=>⟨k.2,k.1⟩,fun k=>⟨k.2,k.1⟩⟩
 rw [e4]
 have:=Q1l (p:=fun e=>bl (Laid tl N e∧GC tl N (og tl N x) (og tl N (2*e)))) N
 unfold eN
 rw [←this]
 omega
omit hv hVN in
theorem Zcp (hX:Fcs tl N l X) (hd:∀j,j<l→∃d,d∈X j∧(X j).head?=some d):(((List.range l).filter fun j=>lm (og tl N ((X j).headD 0))==lm (og tl N x)).length:Int)=fN tl N (og tl N x):=by
 have hox:=Qis hx
 have hdm:∀{j},j<l→(X j).headD 0∈X j∧(X j).headD 0∈dl tl N:=fun {j} hj=>by
  obtain ⟨d,h1,h2⟩:=hd j hj
  obtain ⟨d',o⟩:=hX.o j hj
  have:(X j).headD 0=d:=by rw [List.headD_eq_head?_getD,h2];rfl
  rw [this];exact ⟨h1,o.m d h1⟩
 have hin:∀{j z},j<l→z∈X j→(lm (og tl N ((X j).headD 0))=lm (og tl N x)↔GC tl N (og tl N x) (og tl N z)):=fun {j z} hj hz=>by
  obtain ⟨h1,h2⟩:=hdm hj
  obtain ⟨d',o⟩:=hX.o j hj
  have k:=GC.pf hM h2 ((o.Qkk h1).1 hz)
  rw [hl.eq _ _ (hl.og h2) (hl.og hx)]
  exact ⟨fun i=>i.symm.trans k,fun i=>k.trans i.symm⟩
 have ps:∀{a b},a∈dl tl N→PF tl N a b→PF tl N b a:=fun {a b} ha k=>by
  obtain ⟨j,h1,h2⟩:=hX.a a ha
  obtain ⟨d',o⟩:=hX.o j h1
  exact (o.Qkk ((o.Qkk h2).2 k)).1 h2
 congr 1
 unfold fN cl
 refine Nat.le_antisymm ?_ ?_
 ·
  have hex:∀j,∃z,j<l→(z∈X j∧∀y,y<z→y∉X j):=fun j=>by
   by_cases hj:j<l
   ·obtain ⟨z,h1,h2,h3⟩:=Qla (Q:=fun z=>z∈X j) (hdm hj).1
    exact ⟨z,fun _=>⟨h2,h3⟩⟩
   ·exact ⟨0,fun k=>absurd k hj⟩
  obtain ⟨φ,hφ⟩:=Classical.axiomOfChoice hex
  refine Qyv φ (List.nodup_range.filter _) (fun j hm=>?_) fun i hi j hj k=>?_
  ·rw [List.mem_filter,List.mem_range,beq_iff_eq] at hm
   obtain ⟨h1,h2⟩:=hφ j hm.1
   obtain ⟨d',o⟩:=hX.o j hm.1
   have hzd:=o.m _ h1
   rw [List.mem_filter,List.mem_range,Qc8]
   exact ⟨hM.lt _ hzd,⟨hzd,(hin hm.1 h1).1 hm.2⟩,fun y hy _ k=>h2 y hy ((o.Qkk h1).2 k)⟩
  ·rw [List.mem_filter,List.mem_range] at hi hj
   exact hX.u i j (φ i) hi.1 hj.1 (hφ i hi.1).1 (k ▸ (hφ j hj.1).1)
 ·have hex:∀z,∃j,z∈dl tl N→(j<l∧z∈X j):=fun z=>by
   by_cases hz:z∈dl tl N
   ·obtain ⟨j,h⟩:=hX.a z hz;exact ⟨j,fun _=>h⟩
   ·exact ⟨0,fun k=>absurd k hz⟩
  obtain ⟨φ,hφ⟩:=Classical.axiomOfChoice hex
  refine Qyv φ (List.nodup_range.filter _) (fun z hm=>?_) fun y hy z hz k=>?_
  ·rw [List.mem_filter,List.mem_range,Qc8] at hm
   obtain ⟨_,⟨h1,h2⟩,_⟩:=hm
   obtain ⟨h3,h4⟩:=hφ z h1
   rw [List.mem_filter,List.mem_range,beq_iff_eq]
   exact ⟨h3,(hin h3 h4).2 h2⟩
  ·rw [List.mem_filter,List.mem_range,Qc8] at hy hz
   obtain ⟨_,hy1,hy2⟩:=hy
   obtain ⟨_,hz1,hz2⟩:=hz
   obtain ⟨h3,h4⟩:=hφ y hy1.1
   obtain ⟨h5,h6⟩:=hφ z hz1.1
   rw [←k] at h6
   obtain ⟨d',o⟩:=hX.o _ h3
   have pf:=(o.Qkk h4).1 h6
   rcases Nat.lt_trichotomy y z with i | i | i
   ·exact absurd (ps hy1.1 pf) (hz2 y i hy1)
   ·exact i
   ·exact absurd pf (hy2 z i hz1)
end
def nV (vs:List Nat) (lm:Nat→Nat) (r:Nat):Int:=((vs.filter fun v=>lm v==r).length:Nat)
def nE (tl:Nat→List Nat) (vs:List Nat) (lm:Nat→Nat) (r:Nat):Int:=(((vs.filter fun v=>lm v==r).map fun v=>(tl v).length).sum:Nat)
def nI (tl:Nat→List Nat) (vs:List Nat) (lm:Nat→Nat) (r:Nat):Int:=((vs.filter fun v=>lm v==r&&(tl v).isEmpty).length:Nat)
def nF (tl:Nat→List Nat) (N l:Nat) (X:Nat→List Nat) (lm:Nat→Nat) (r:Nat):Int:=(((List.range l).filter fun j=>lm (og tl N ((X j).headD 0))==r).length:Nat)
theorem Q8e (hM:MP N tl) (hVN:V≤N) (hv:VS V tl vs) (hl:LM' V N tl lm) (hX:Fcs tl N l X) (hd:∀j,j<l→∃d,d∈X j∧(X j).head?=some d) :
  (∀v,v∈vs→nV vs lm (lm v)-nE tl vs lm (lm v)/2+(nI tl vs lm (lm v)+nF tl N l X lm (lm v))=2)↔∀x,x∈dl tl N→vN tl N (og tl N x)-eN tl N (og tl N x)+fN tl N (og tl N x)=2:=by
 have key:∀x,x∈dl tl N→nV vs lm (lm (og tl N x))-nE tl vs lm (lm (og tl N x))/2+(nI tl vs lm (lm (og tl N x))+nF tl N l X lm (lm (og tl N x)))=vN tl N (og tl N x)-eN tl N (og tl N x)+fN tl N (og tl N x):=fun x hx=>by
  have h1:nV vs lm (lm (og tl N x))=vN tl N (og tl N x):=Zmb hM hVN hv hl hx
  have h2:nE tl vs lm (lm (og tl N x))=2*eN tl N (og tl N x):=Zmc hM hVN hv hl hx
  have h3:nF tl N l X lm (lm (og tl N x))=fN tl N (og tl N x):=Zcp hM hl hx hX hd
  have h4:nI tl vs lm (lm (og tl N x))=0:=by
   unfold nI
   rw [List.filter_eq_nil_iff.2]
   ·rfl
   intro v hvm k
   rw [Bool.and_eq_true,beq_iff_eq,List.isEmpty_iff] at k
   have k2:=(Q6x hM hVN hv hl hx v).1 ⟨hvm,k.1⟩
   rcases Zbv hM k2.2 with rfl | ⟨_,k3⟩
   ·have:=Qis hx;rw [k.2] at this;cases this.1
   ·exact k3 k.2
  omega
 constructor
 ·intro h x hx
  rw [←key x hx]
  exact h _ ((Q6x hM hVN hv hl hx _).2 ⟨(Qis hx).2,.refl⟩).1
 ·intro h v hvm
  by_cases ht:tl v=[]
  ·have hvV:=hv.lt v hvm
   have only:∀u,u<V→lm u=lm v→u=v:=fun u hu e=>by
    rcases Zbv hM ((hl.eq u v hu hvV).1 e) with k | ⟨_,k⟩
    ·exact k
    ·exact absurd ht k
   have p1:(vs.filter fun u=>lm u==lm v).Perm [v]:=Qlf (hv.nd.filter _) (by simp) fun u=>by
    rw [List.mem_filter,beq_iff_eq,List.mem_singleton]
    exact ⟨fun k=>only u (hv.lt u k.1) k.2,fun k=>by subst k;exact ⟨hvm,rfl⟩⟩
   have p2:(vs.filter fun u=>lm u==lm v&&(tl u).isEmpty).Perm [v]:=Qlf (hv.nd.filter _) (by simp) fun u=>by
    rw [List.mem_filter,Bool.and_eq_true,beq_iff_eq,List.mem_singleton,List.isEmpty_iff]
    exact ⟨fun k=>only u (hv.lt u k.1) k.2.1,fun k=>by subst k;exact ⟨hvm,rfl,ht⟩⟩
   have h1:nV vs lm (lm v)=1:=by unfold nV;rw [p1.length_eq];rfl
   have h2:nE tl vs lm (lm v)=0:=by
    unfold nE
    rw [(p1.map fun v=>(tl v).length).sum_nat];simp [ht]
   have h3:nI tl vs lm (lm v)=1:=by unfold nI;rw [p2.length_eq];rfl
   have h4:nF tl N l X lm (lm v)=0:=by
    unfold nF
    rw [List.filter_eq_nil_iff.2]
    ·rfl
    intro j hj k
    rw [List.mem_range] at hj
    rw [beq_iff_eq] at k
    obtain ⟨d,k1,k2⟩:=hd j hj
    obtain ⟨d',o⟩:=hX.o j hj
    have e:(X j).headD 0=d:=by rw [List.headD_eq_head?_getD,k2];rfl
    rw [e] at k
    have hdl:=o.m d k1
    have:=only _ (hl.og hdl) k
    have h5:=(Qis hdl).1
    rw [this,ht] at h5;cases h5
   omega
  ·obtain ⟨x,hx⟩:=List.exists_mem_of_ne_nil _ ht
   have hvN:v<N:=by have:=hv.lt v hvm;omega
   have hxd:=Qa2.2 ⟨v,hvN,hx⟩
   have e:og tl N x=v:=hM.ogE hvN hx
   have:=key x hxd
   rw [h x hxd,e] at this
   exact this
end
structure Rot (LD:Nat→Prop) (fr nx:Nat→Nat) (tl:Nat→List Nat):Prop where
 nd:∀v,(tl v).Nodup
 mem:∀v d,d∈tl v↔LD d∧fr d=v
 nx:∀v d,d∈tl v→nxt (tl v) d=nx d
structure CW (LD:Nat→Prop) (fr nx:Nat→Nat) (v d:Nat) (c:List Nat):Prop where
 h:c.head?=some d
 n:c.Nodup
 m:∀x∈c,LD x∧fr x=v
 s:∀i x y,c[i]?=some x→c[i+1]?=some y→y=nx x
section
variable {LD:Nat→Prop} {fr nx:Nat→Nat} {N v d x y k:Nat} {c:List Nat} {tl out:Nat→List Nat}
theorem Rot.map (h:Rot LD fr nx tl) (hV:∀d,LD d→fr d<N) (hlt:∀d,LD d→d<2*N) (htw:∀d,LD d→LD (tw d)):MP N tl∧(∀d,d∈dl tl N↔LD d)∧∀d,LD d→og tl N d=fr d∧sg tl N d=nx d:=by
 have hm:∀d,d∈dl tl N↔LD d:=fun d=>by
  rw [Qa2]
  constructor
  ·rintro ⟨v,_,k⟩;exact ((h.mem v d).1 k).1
  ·intro k;exact ⟨fr d,hV d k,(h.mem _ d).2 ⟨k,rfl⟩⟩
 have hnd:ND N tl:=by
  refine ⟨?_,fun d hd=>hlt d ((hm d).1 hd)⟩
  unfold dl
  rw [List.Nodup,List.pairwise_flatMap]
  refine ⟨fun v _=>h.nd v,List.nodup_range.imp fun {a b} hab x hx y hy k=>?_⟩
  subst k
  exact hab (((h.mem a x).1 hx).2.symm.trans ((h.mem b x).1 hy).2)
 refine ⟨⟨hnd,fun d hd=>(hm _).2 (htw d ((hm d).1 hd))⟩,hm,fun d hd=>?_⟩
 have hv:=hV d hd
 have hin:=(h.mem (fr d) d).2 ⟨hd,rfl⟩
 refine ⟨hnd.ogE hv hin,?_⟩
 rw [hnd.sgE hv hin]
 exact h.nx _ d hin
theorem CW.one (hd:LD d) (hv:fr d=v):CW LD fr nx v d [d]:=⟨rfl,by simp,fun x hx=>by rw [List.mem_singleton] at hx;subst hx;exact ⟨hd,hv⟩,fun i x y hx hy=>by simp at hy⟩
theorem CW.more (h:CW LD fr nx v d c) {t:Nat} (ht:c.getLast?=some t) (hf:LD (nx t)∧fr (nx t)=v) (hn:nx t∉c):CW LD fr nx v d (c++[nx t]):=by
 refine ⟨?_,?_,fun x hx=>?_,fun i x y hx hy=>?_⟩
 ·have:=h.h
  cases c with
  | nil=>cases this
  | cons a r=>exact this
 ·rw [List.nodup_append]
  exact ⟨h.n,by simp,fun a ha b hb k=>by rw [List.mem_singleton] at hb;subst hb;exact hn (k ▸ ha)⟩
 ·rcases List.mem_append.1 hx with hx | hx
  ·exact h.m x hx
  ·rw [List.mem_singleton] at hx;subst hx;exact hf
 ·rcases Nat.lt_trichotomy (i+1) c.length with l | l | l
  ·rw [List.getElem?_append_left (by omega)] at hx
   rw [List.getElem?_append_left l] at hy
   exact h.s i x y hx hy
  ·rw [List.getElem?_append_left (by omega)] at hx
   rw [List.getElem?_append_right (by omega),show i+1-c.length=0 by omega] at hy
   rw [List.getLast?_eq_getElem?,show c.length-1=i by omega,hx] at ht
   cases ht
   simpa using hy.symm
  ·rw [List.getElem?_append_right (by omega)] at hy
   have:i+1-c.length≠0:=by omega
   obtain ⟨j,hj⟩:=Nat.exists_eq_succ_of_ne_zero this
   rw [hj] at hy;simp at hy
theorem Zas {l:List Nat} (hn:l.Nodup) (hx:x∈l) (hy:y∈l) (h:nxt l x=nxt l y):x=y:=
 map_inj (f:=nxt l) ((Qsu hn).nodup_iff.2 hn) hx hy h
theorem CW.stuck (h:CW LD fr nx v d c) {t:Nat} (ht:c.getLast?=some t) (hx:nx t∈c) (hd:nx t≠d):¬∃tl,Rot LD fr nx tl:=by
 rintro ⟨tl,r⟩
 obtain ⟨j,hj⟩:=List.getElem?_of_mem hx
 have hl:=(List.getElem?_eq_some_iff.1 hj).1
 cases j with
 | zero=>
  have:=h.h
  rw [List.head?_eq_getElem?,hj] at this
  cases this;exact hd rfl
 | succ j=>
  obtain ⟨u,hu⟩:∃u,c[j]?=some u:=⟨_,List.getElem?_eq_getElem (by omega)⟩
  have e:=h.s j u _ hu hj
  have hut:u≠t:=by
   rintro rfl
   rw [List.getLast?_eq_getElem?,←hu] at ht
   have:=(List.getElem?_inj (by omega) h.n).1 ht
   omega
  have mu:=(r.mem v u).2 (h.m u (List.mem_of_getElem? hu))
  have mt:=(r.mem v t).2 (h.m t (List.mem_of_getLast? ht))
  exact hut (Zas (r.nd v) mu mt (by rw [r.nx v u mu,r.nx v t mt,←e]))
theorem CW.round (h:CW LD fr nx v d c) {t:Nat} (ht:c.getLast?=some t) (hd:nx t=d) (hx:x∈c):nxt c x=nx x:=by
 obtain ⟨i,hi⟩:=List.getElem?_of_mem hx
 have hl:=(List.getElem?_eq_some_iff.1 hi).1
 refine Qv3 h.n ?_
 by_cases k:i+1<c.length
 ·obtain ⟨y,hy⟩:∃y,c[i+1]?=some y:=⟨_,List.getElem?_eq_getElem k⟩
  rw [←h.s i x y hi hy]
  left
  exact Q6g hi hy
 ·have e:i=c.length-1:=by omega
  rw [List.getLast?_eq_getElem?,←e,hi] at ht
  cases ht
  rw [hd]
  exact .inr ⟨by rw [List.getLast?_eq_getElem?,←e,hi],h.h⟩
structure OW (LD:Nat→Prop) (fr nx:Nat→Nat) (k:Nat) (out:Nat→List Nat):Prop where
 c:∀v,out v≠[]→∃d t,CW LD fr nx v d (out v)∧(out v).getLast?=some t∧nx t=d
 a:∀x,x<k→LD x→x∈out (fr x)
theorem OW.m (h:OW LD fr nx k out) (hx:x∈out v):LD x∧fr x=v:=by
 obtain ⟨d,t,c,_⟩:=h.c v (fun e=>by rw [e] at hx;cases hx)
 exact c.m x hx
theorem OW.none:OW LD fr nx 0 (fun _=>[]):=⟨fun v h=>absurd rfl h,fun x h=>by omega⟩
theorem OW.skip (h:OW LD fr nx k out) (hk:LD k→k∈out (fr k)):OW LD fr nx (k+1) out:=⟨h.c,fun x hx hl=>by
 rcases Nat.lt_or_ge x k with l | l
 ·exact h.a x l hl
 ·obtain rfl:x=k:=by omega
  exact hk hl⟩
theorem OW.take (h:OW LD fr nx k out) (hk:LD k) (he:out (fr k)=[]) {t:Nat} (cw:CW LD fr nx (fr k) k c) (ht:c.getLast?=some t) (hd:nx t=k):OW LD fr nx (k+1) (upd out (fr k) c):=by
 have hkc:k∈c:=List.mem_of_mem_head? cw.h
 refine ⟨fun v hv=>?_,fun x hx hl=>?_⟩
 ·by_cases e:v=fr k
  ·subst e;rw [Qab];exact ⟨k,t,cw,ht,hd⟩
  ·rw [Qag _ _ e] at hv ⊢;exact h.c v hv
 ·rcases Nat.lt_or_ge x k with l | l
  ·have:=h.a x l hl
   have e:fr x≠fr k:=fun e=>by rw [e,he] at this;cases this
   rw [Qag _ _ e];exact this
  ·obtain rfl:x=k:=by omega
   rw [Qab];exact hkc
theorem OW.twice (h:OW LD fr nx k out) (hk:LD k) (he:out (fr k)≠[]) (hn:k∉out (fr k)):¬∃tl,Rot LD fr nx tl:=by
 rintro ⟨tl,r⟩
 obtain ⟨d,t,cw,ht,hd⟩:=h.c _ he
 have md:=(r.mem (fr k) d).2 (cw.m d (List.mem_of_mem_head? cw.h))
 have mk:=(r.mem (fr k) k).2 ⟨hk,rfl⟩
 have key:∀{y},RT (Cy (tl (fr k))) d y→y∈out (fr k):=fun {y} j=>by
  induction j with
  | refl=>exact List.mem_of_mem_head? cw.h
  | @step u w j1 j ih=>
   have e:=Qv3 (r.nd _) j
   rw [r.nx _ _ j.mem.1] at e
   have:=cw.round ht hd ih
   rw [←e,←this]
   exact Qyr cw.n ih
 exact hn (key (Q6v md mk))
theorem OW.rot (h:OW LD fr nx k out) (hk:∀d,LD d→d<k):Rot LD fr nx out:=by
 refine ⟨fun v=>?_,fun v d=>⟨h.m,fun ⟨h1,h2⟩=>h2 ▸ h.a d (hk d h1) h1⟩,fun v d hd=>?_⟩
 ·by_cases e:out v=[]
  ·rw [e];exact List.nodup_nil
  ·obtain ⟨d,t,cw,_⟩:=h.c v e
   exact cw.n
 ·obtain ⟨d',t,cw,ht,he⟩:=h.c v (fun e=>by rw [e] at hd;cases hd)
  exact cw.round ht he hd
end
theorem xor1 {d:Nat} (hd:d<4194304):IntKind.wrap .i64 ((BitVec.ofInt (IntKind.bits .i64) (d:Int) ^^^ BitVec.ofInt (IntKind.bits .i64) (1:Int)).toNat:Int)=((tw d:Nat):Int):=by
 have e1:(BitVec.ofInt (IntKind.bits .i64) (d:Int) ^^^ BitVec.ofInt (IntKind.bits .i64) (1:Int)).toNat=d ^^^ 1:=by
  rw [BitVec.toNat_xor,BitVec.toNat_ofInt,BitVec.toNat_ofInt]
  have:IntKind.bits .i64=64:=rfl
  rw [this]
  congr 1
  omega
 have h1:(d ^^^ 1) % 2=1↔¬d % 2=1:=by rw [Nat.xor_mod_two_eq_one];simp
 have h2:(d ^^^ 1)/2=d/2:=by rw [Nat.xor_div_two];simp
 rw [e1]
 have h3:d ^^^ 1=tw d:=by
  unfold tw
  split<;>omega
 have h4:tw d<4194304:=by unfold tw;split<;>omega
 rw [h3,wrap64_in (by omega) (by omega)]
section
variable {N d:Nat} {tl:Nat→List Nat}
theorem Zf6 (hM:MP N tl) (hd:d∈dl tl N):∃L,Orb tl N d L:=by
 have grow:∀(n:Nat) (c:List Nat),2*N-c.length≤n→CW (·∈dl tl N) (fun _=>0) (ph tl N) 0 d c→∃L t,CW (·∈dl tl N) (fun _=>0) (ph tl N) 0 d L∧L.getLast?=some t∧ph tl N t=d:=by
  intro n
  induction n with
  | zero=>
   intro c hn cw
   have hcl:c.length≤2*N:=Qbh cw.n fun x hx=>hM.lt x (cw.m x hx).1
   obtain ⟨t,ht⟩:∃t,c.getLast?=some t:=⟨_,List.getLast?_eq_some_getLast (by intro e;have:=cw.h;rw [e] at this;cases this)⟩
   have htm:=(cw.m t (List.mem_of_getLast? ht)).1
   by_cases hin:ph tl N t∈c
   ·by_cases e:ph tl N t=d
    ·exact ⟨c,t,cw,ht,e⟩
    ·exfalso
     obtain ⟨j,hj⟩:=List.getElem?_of_mem hin
     have hl:=(List.getElem?_eq_some_iff.1 hj).1
     cases j with
     | zero=>
      have:=cw.h
      rw [List.head?_eq_getElem?,hj] at this
      cases this;exact e rfl
     | succ j=>
      obtain ⟨u,hu⟩:∃u,c[j]?=some u:=⟨_,List.getElem?_eq_getElem (by omega)⟩
      have e2:=hM.Q7y (cw.s j u _ hu hj)
      subst e2
      rw [List.getLast?_eq_getElem?,←hu] at ht
      have:=(List.getElem?_inj (by omega) cw.n).1 ht
      omega
   ·have:=cw.more ht ⟨hM.Qzy htm,rfl⟩ hin
    have h2:(c++[ph tl N t]).length≤2*N:=Qbh this.n fun x hx=>hM.lt x (this.m x hx).1
    rw [List.length_append] at h2
    simp at h2;omega
  | succ n ih=>
   intro c hn cw
   obtain ⟨t,ht⟩:∃t,c.getLast?=some t:=⟨_,List.getLast?_eq_some_getLast (by intro e;have:=cw.h;rw [e] at this;cases this)⟩
   have htm:=(cw.m t (List.mem_of_getLast? ht)).1
   by_cases hin:ph tl N t∈c
   ·by_cases e:ph tl N t=d
    ·exact ⟨c,t,cw,ht,e⟩
    ·exfalso
     obtain ⟨j,hj⟩:=List.getElem?_of_mem hin
     have hl:=(List.getElem?_eq_some_iff.1 hj).1
     cases j with
     | zero=>
      have:=cw.h
      rw [List.head?_eq_getElem?,hj] at this
      cases this;exact e rfl
     | succ j=>
      obtain ⟨u,hu⟩:∃u,c[j]?=some u:=⟨_,List.getElem?_eq_getElem (by omega)⟩
      have e2:=hM.Q7y (cw.s j u _ hu hj)
      subst e2
      rw [List.getLast?_eq_getElem?,←hu] at ht
      have:=(List.getElem?_inj (by omega) cw.n).1 ht
      omega
   ·exact ih _ (by rw [List.length_append];simp;omega) (cw.more ht ⟨hM.Qzy htm,rfl⟩ hin)
 obtain ⟨L,t,cw,ht,e⟩:=grow _ [d] (Nat.le_refl _) (CW.one hd rfl)
 refine ⟨L,cw.h,cw.n,fun x hx=>(cw.m x hx).1,fun u v k=>?_⟩
 rw [←Qv3 cw.n k]
 exact (cw.round ht e k.mem.1).symm
end
def GL (w:World) (base:Nat) (bad:Nat→Prop) (b:Option Addr) (l c:Nat) (X:Nat→List Nat):Prop:=
 ∃V:Nat→Value,Own w base 58 1 b l c (recs (fun k=>[V k]) l)∧∀k,k<l→LA w (fun g=>bad g∨bk b=some g) (V k) (X k)
section
variable {w w':World} {base l c A:Nat} {bad:Nat→Prop} {b b5:Option Addr} {c5:Nat} {X:Nat→List Nat} {L:List Nat} {S:Nat→Prop}
theorem GL.nil:GL w base bad none 0 0 X:=⟨fun _=>.nilIface,Own.nil,fun k h=>absurd h (Nat.not_lt_zero _)⟩
theorem GL.keep (h:GL w base bad b l c X) (k:Chg S w w') (hS:∀g,S g→bad g) (hb:∀g,bk b=some g→¬S g):GL w' base bad b l c X:=by
 obtain ⟨V,h1,h2⟩:=h
 exact ⟨V,h1.keep k hb,fun i hi=>(h2 i hi).keep k fun g hg=>.inl (hS g hg)⟩
theorem GL.nob (h:GL w base bad b l c X) (k:Chg Qaa w w'):GL w' base bad b l c X:=h.keep k (fun _ h=>h.elim) fun _ _ h=>h
theorem GL.Qar (h:GL w base bad b l c X) {g:Nat} (hg:bk b=some g):base≤g∧g<w.heap.size:=by
 obtain ⟨V,h1,h2⟩:=h;exact h1.Qar hg
theorem GL.tf (h:GL w base bad b l c X) (hb:∀g,bk b=some g→¬bad g):TF w bad b l X:=by
 obtain ⟨V,h1,h2⟩:=h
 exact ⟨V,VA.Qa6 h1,fun g _ hg=>hb g hg,fun i hi=>(h2 i hi).weak fun _ h=>.inl h⟩
theorem GL.push (h:GL w base bad b l c X) (r:Row w.heap A 58 [.slice b5 L.length c5]) (hL:LA w (fun g=>bad g∨bk b=some g) (.slice b5 L.length c5) L) (hb:base≤w.heap.size) (hl:l<100000000) :
  ∃b' c' w',(Builtin.append_ #[38,38] 38 #[.slice b l c,.slice (some ⟨A,0,none⟩) 1 1]).run Pg w=.ok (.slice b' (l+1) c') w'∧GL w' base bad b' (l+1) c' (upd X l L)∧Chg (fun k=>bk b=some k) w w'∧(bk b'=bk b∨bk b'=some w.heap.size):=by
 obtain ⟨V,ow,hV⟩:=h
 obtain ⟨b8,c8',w8,g8,o8,c8,hb8⟩:=Qb0 (sc:=1) Qzi ow (ty:=38) (VA.Qgm (l:=1) (sz:=1) r rfl) (by simp [oneC]) (by omega) (by omega) (by omega) (by omega)
 let V':Nat→Value:=upd V l (.slice b5 L.length c5)
 have eR:recs (fun k=>[V k]) l++[.slice b5 L.length c5]=recs (fun k=>[V' k]) (l+1):=by
  rw [Qd6]
  have:V' l=.slice b5 L.length c5:=by show upd _ _ _ _=_;rw [Qab]
  rw [this,Qbb (f:=fun k=>[V k]) (g:=fun k=>[V' k]) fun k hk=>by show [V k]=[upd _ _ _ _];rw [Qag _ _ (by omega)]]
 rw [eR] at o8
 have okb:∀{X:Value} {Y:List Nat},LA w (fun g=>bad g∨bk b=some g) X Y→LA w8 (fun g=>bad g∨bk b8=some g) X Y:=fun {X Y} hh=>by
  obtain ⟨bx,cx,rfl,x1,x2,x3⟩:=hh.keep c8 fun g e=>.inr e
  refine ⟨bx,cx,rfl,x1,fun g hg e hb=>?_,x3⟩
  rcases hb with hb | hb
  ·exact x2 g hg e (.inl hb)
  ·rcases hb8 with h9 | h9
   ·rw [h9] at hb;exact x2 g hg e (.inr hb)
   ·rw [h9] at hb
    obtain rfl:w.heap.size=g:=Option.some.inj hb
    obtain ⟨bx',cx',hbx,x1',_,_⟩:=hh
    simp only [Value.slice.injEq] at hbx
    obtain ⟨rfl,_,rfl⟩:=hbx
    obtain ⟨g',e',hlt'⟩:=x1'.blk hg
    rw [e'] at e;cases e;omega
 refine ⟨b8,c8',w8,g8,⟨V',o8,fun k hk=>?_⟩,c8,hb8⟩
 by_cases e:k=l
 ·subst e
  show LA w8 _ (upd _ _ _ _) (upd _ _ _ _)
  rw [Qab,Qab]
  exact okb hL
 ·show LA w8 _ (upd _ _ _ _) (upd _ _ _ _)
  rw [Qag _ _ e,Qag _ _ e]
  exact okb (hV k (by omega))
end
end Core
end Go.Proofs.YtfeekmmfdkfgmaaGreatDoor
