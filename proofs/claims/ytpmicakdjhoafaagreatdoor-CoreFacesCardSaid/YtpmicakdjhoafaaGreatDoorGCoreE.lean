/-
Which edges are marked, in plain words: sums apart, an edge less or greater than all, one answer.
Conditions: those that each theorem states.
-/
import Derived.Test.YtpmicakdjhoafaaGreatDoorGCoreC
set_option linter.unusedVariables false
set_option linter.unusedSimpArgs false
namespace Go.Proofs.YtpmicakdjhoafaaGreatDoor
open Go Go.RowKit
namespace Core
open Go.Proofs.YtpmicakdjhoafaaGreatDoor.Seq Go.Proofs.YtpmicakdjhoafaaGreatDoor.Cut Go.Proofs.YtpmicakdjhoafaaGreatDoor.Web
section
variable {w₀ w w':World} {b b':Bk} {N m e f a c x y u v:Nat} {lv lv':Nat→Bool} {tl:Nat→List Nat} {q q':List (List Nat)} {B D B' D':Nat→Option (Nat × Nat)} {ky:Nat→Int} {P:Nat→Nat→Prop} {h0 h1:Array Obj}
theorem upd_comm {α:Type} (s:Nat→α) {i j:Nat} (x y:α) (h:i≠j):upd (upd s i x) j y=upd (upd s j y) i x:=by
 funext k
 by_cases h1:k=i
 ·subst h1;rw [Qak _ _ h,Qac,Qac]
 ·by_cases h2:k=j
  ·subst h2;rw [Qac,Qak _ _ h1,Qac]
  ·rw [Qak _ _ h2,Qak _ _ h1,Qak _ _ h1,Qak _ _ h2]
theorem FO.less (h:FO q D):FO q (upd D m none):=by
 intro e a b he hl
 obtain ⟨hne,he⟩:=Qd1 he
 rw [upd_comm _ _ _ (Ne.symm hne)] at hl
 exact h e a b he hl.less
theorem sepP (pr:∀x,P x x) (ps:∀x y,P x y→P y x) (pt:∀x y z,P x y→P y z→P x z) (pq:∀x y,SF q x y→P x y) :
  ∀(m:Nat) (D:Nat→Option (Nat × Nat)) (a b:Nat),(∀i,m≤i→D i=none)→FO q D→LK q D a b→¬P a b→∃f u v,D f=some (u,v)∧¬LK q (upd D f none) a b∧¬P u v:=by
 intro m
 induction m with
 | zero=>
  intro D a b hD _ hl hp
  exfalso
  apply hp
  clear hp
  induction hl with
  | refl=>exact pr _
  | step _ k ih=>
   rcases k with k | ⟨i,k | k⟩
   ·exact pt _ _ _ ih (pq _ _ k)
   ·rw [hD i (Nat.zero_le _)] at k;cases k
   ·rw [hD i (Nat.zero_le _)] at k;cases k
 | succ m ih=>
  intro D a b hD hF hl hp
  cases hm:D m with
  | none=>exact ih D a b (fun i hi=>by
    rcases Nat.lt_or_ge m i with k | k
    ·exact hD i k
    ·obtain rfl:i=m:=by omega
     exact hm) hF hl hp
  | some p=>
   obtain ⟨u,v⟩:=p
   have hD':∀i,m≤i→upd D m none i=none:=fun i hi=>by
    by_cases k:i=m
    ·rw [k,Qac]
    ·rw [Qak _ _ k];exact hD i (by omega)
   have huv:=hF m u v hm
   have up:∀{a' b':Nat},¬P a' b'→LK q (upd D m none) a' b'→(∀f,f≠m→¬LK q (upd (upd D m none) f none) a' b'→LK q (upd D f none) a b→False)→∃f u v,D f=some (u,v)∧¬LK q (upd D f none) a b∧¬P u v:=fun {a' b'} h1 h2 h3=>by
    obtain ⟨f,x,y,k1,k2,k3⟩:=ih (upd D m none) a' b' hD' hF.less h2 h1
    obtain ⟨hf,k1⟩:=Qd1 k1
    exact ⟨f,x,y,k1,fun k=>h3 f hf k2 k,k3⟩
   have back:∀{f:Nat},f≠m→LK q (upd D f none) a b→LK q (upd (upd D m none) f none) a b∨(LK q (upd (upd D m none) f none) a u∧LK q (upd (upd D m none) f none) v b)∨(LK q (upd (upd D m none) f none) a v∧LK q (upd (upd D m none) f none) u b):=fun {f} hf k=>by
    have hm':upd D f none m=some (u,v):=by rw [Qak _ _ (Ne.symm hf)];exact hm
    have:=(lk_back hm').1 k
    rwa [upd_comm _ _ _ hf] at this
   by_cases hl':LK q (upd D m none) a b
   ·refine up hp hl' fun f hf k1 k2=>?_
    rcases back hf k2 with k | ⟨k,j⟩ | ⟨k,j⟩
    ·exact k1 k
    ·exact huv ((k.less.symm.trans hl').trans j.less.symm)
    ·exact huv ((j.less.trans hl'.symm).trans k.less)
   ·by_cases hpu:P u v
    ·rcases (lk_back hm).1 hl with k | ⟨k,j⟩ | ⟨k,j⟩
     ·exact absurd k hl'
     ·by_cases h1:P a u
      ·have h2:¬P v b:=fun k2=>hp (pt _ _ _ h1 (pt _ _ _ hpu k2))
       refine up h2 j fun f hf k1 k2=>?_
       rcases back hf k2 with i | ⟨i,i'⟩ | ⟨i,i'⟩
       ·exact hl' i.less
       ·exact k1 i'
       ·exact hl' (k.trans i'.less)
      ·refine up h1 k fun f hf k1 k2=>?_
       rcases back hf k2 with i | ⟨i,i'⟩ | ⟨i,i'⟩
       ·exact hl' i.less
       ·exact k1 i
       ·exact hl' (i.less.trans j)
     ·by_cases h1:P a v
      ·have h2:¬P u b:=fun k2=>hp (pt _ _ _ h1 (pt _ _ _ (ps _ _ hpu) k2))
       refine up h2 j fun f hf k1 k2=>?_
       rcases back hf k2 with i | ⟨i,i'⟩ | ⟨i,i'⟩
       ·exact hl' i.less
       ·exact hl' (k.trans i'.less)
       ·exact k1 i'
      ·refine up h1 k fun f hf k1 k2=>?_
       rcases back hf k2 with i | ⟨i,i'⟩ | ⟨i,i'⟩
       ·exact hl' i.less
       ·exact hl' (i.less.trans j)
       ·exact k1 i
    ·exact ⟨m,u,v,hm,hl',hpu⟩
theorem GM.bN (h:GM h0 b N lv tl q B D ky) (i:Nat) (hi:N≤i):B i=none:=by
 cases k:B i with
 | none=>rfl
 | some p=>have:=h.cb.mp.Qca (h.cb.bB i p k).1;omega
theorem GM.dN (h:GM h0 b N lv tl q B D ky) (i:Nat) (hi:N≤i):D i=none:=by
 cases k:D i with
 | none=>rfl
 | some p=>have:=h.cb.mp.Qca (h.cb.bD i p k).1;omega
theorem GM.cj' {h0:Array Obj} (h:GM h0 b N lv tl q B D ky):CJ (fun _=>False) N tl q B D:=(GM.cj (w:={(default:World) with heap:=h0}) h)
theorem GM.tied (h:GM h0 b N lv tl q B D ky) (hl:Laid tl N e) (hB:B e=none):D e=some (2*e,2*e+1):=by
 cases k:D e with
 | none => rcases h.cb.cov e hl with j | j | j
           · exact j.elim
           · rw [hB] at j;cases j
           · rw [k] at j;cases j
 | some p=>rw [(h.cb.bD e p k).2]
theorem GM.bridge (h:GM h0 b N lv tl q B D ky) (hl:Laid tl N e) (hs:SF q (2*e) (2*e+1)):(B e).isSome:=by
 cases hB:B e with
 | some p=>rfl
 | none=>exact absurd (LK.sf hs) (h.cj'.fD e _ _ (h.tied hl hB))
theorem GM.least (h:GM h0 b N lv tl q B D ky) (hl:Laid tl N e) (hk:∀i,Laid tl N i→i≠e→ky e<ky i):(B e).isSome↔og tl N (2*e)≠og tl N (2*e+1):=by
 constructor
 ·intro k
  obtain ⟨p,k⟩:=Option.isSome_iff_exists.1 k
  obtain ⟨_,rfl,k⟩:=h.cb.bB e p k
  exact k
 ·intro hne
  cases hB:B e with
  | some p=>rfl
  | none=>
   exfalso
   have hD:=h.tied hl hB
   obtain ⟨f,x,y,k1,k2,_⟩:=sepP (P:=fun x y=>x=y) (q:=[]) (fun _=>rfl) (fun _ _=>Eq.symm) (fun _ _ _=>Eq.trans) (fun _ _ ⟨A,hA,_⟩=>by cases hA) N B _ _ h.bN h.cj'.fB (h.cj'.hang hl) hne
   have hf:=(h.cb.bB f _ k1).1
   have hfe:f≠e:=by rintro rfl;rw [hB] at k1;cases k1
   have:=h.mm f e _ _ (fun h=>h) k1 hD k2
   have:=hk f hf hfe
   omega
theorem GM.most (h:GM h0 b N lv tl q B D ky) (hl:Laid tl N e) (hk:∀i,Laid tl N i→i≠e→ky i<ky e):(B e).isSome↔SF q (2*e) (2*e+1):=by
 constructor
 ·intro k
  obtain ⟨p,hB⟩:=Option.isSome_iff_exists.1 k
  obtain ⟨_,rfl,hne⟩:=h.cb.bB e p hB
  refine Classical.byContradiction fun hs=>?_
  have hlt:=h.cb.mp.Qca hl
  obtain ⟨f,x,y,k1,k2,_⟩:=sepP (P:=fun x y=>x=y∨SF q x y) (q:=q) (fun _=>.inl rfl) (fun _ _ k=>k.imp Eq.symm SF.symm) (fun _ _ _ k j=>by
   rcases k with rfl | k
   ·exact j
   ·rcases j with rfl | j
    ·exact .inr k
    ·exact .inr (sf_trans h.cb.nd k j)) (fun _ _=>.inr) N D _ _ h.dN h.cj'.fD (h.cj'.link hl) (fun k=>k.elim (by omega) hs)
  have hf:=(h.cb.bD f _ k1).1
  have hfe : f ≠ e := by rintro rfl; rcases h.cb.ex f with j | j
                         · rw [hB] at j;cases j
                         · rw [k1] at j;cases j
  have cb':=h.cb.unmark hB
  have cj:CJ (fun i=>False∨i=e) N tl q (upd B e none) D:=⟨cb',h.cj'.fB.less,h.cj'.fD⟩
  have:=cj.across (e:=e) (fun i hi=>hi.elim False.elim id) hl (Qac _ _ _) (h.cj'.fB e _ _ hB) k2
  have:=h.mm e f _ _ (fun h=>h) hB k1 this
  have:=hk f hf hfe
  omega
 ·exact h.bridge hl
end
end Core
end Go.Proofs.YtpmicakdjhoafaaGreatDoor
namespace Go.Proofs.YtpmicakdjhoafaaGreatDoor
open Go Go.RowKit
namespace Core
open Go.Proofs.YtpmicakdjhoafaaGreatDoor.Seq Go.Proofs.YtpmicakdjhoafaaGreatDoor.Cut Go.Proofs.YtpmicakdjhoafaaGreatDoor.Web
section
variable {N n m e f a c x y u v:Nat} {be ce:Int} {lv:Nat→Bool} {tl:Nat→List Nat} {q:List (List Nat)} {B D:Nat→Option (Nat × Nat)} {P P':Nat→Nat→Prop} {S S':Nat→Prop}
noncomputable def bl (p:Prop):Bool:=@decide p (Classical.propDecidable p)
theorem bl_iff {p:Prop}:bl p=true↔p:=by unfold bl;exact @decide_eq_true_iff p (Classical.propDecidable p)
noncomputable def cl (P:Nat→Nat→Prop) (S:Nat→Prop) (n:Nat):Nat:=((List.range n).filter fun x=>bl (S x∧∀y,y<x→S y→¬P x y)).length
theorem inj_len {α β:Type} [DecidableEq β] (φ:α→β):∀{l1:List α} {l2:List β},l1.Nodup→(∀x∈l1,φ x∈l2)→(∀x∈l1,∀y∈l1,φ x=φ y→x=y)→l1.length≤l2.length
 | [],_,_,_,_=>Nat.zero_le _
 | x::l1,l2,h1,h2,h3=>by
  have hx:=h2 x List.mem_cons_self
  obtain ⟨h4,h5⟩:=List.nodup_cons.1 h1
  have:=inj_len φ (l1:=l1) (l2:=l2.erase (φ x)) h5 (fun y hy=>(List.mem_erase_of_ne (fun k=>h4 (by
   have:=h3 y (List.mem_cons_of_mem _ hy) x List.mem_cons_self k
   rwa [this] at hy))).2 (h2 y (List.mem_cons_of_mem _ hy))) fun y hy z hz=>h3 y (List.mem_cons_of_mem _ hy) z (List.mem_cons_of_mem _ hz)
  rw [List.length_erase_of_mem hx] at this
  have hl:0<l2.length:=List.length_pos_of_mem hx
  simp only [List.length_cons];omega
theorem least_ex {Q:Nat→Prop} (h:Q x):∃y,y≤x∧Q y∧∀z,z<y→¬Q z:=by
 induction x using Nat.strongRecOn with
 | ind x ih=>
  by_cases k:∃z,z<x∧Q z
  ·obtain ⟨z,hz,k⟩:=k
   obtain ⟨y,h1,h2,h3⟩:=ih z hz k
   exact ⟨y,by omega,h2,h3⟩
  ·exact ⟨x,Nat.le_refl _,h,fun z hz j=>k ⟨z,hz,j⟩⟩
theorem cl_le (ps:∀x y,P x y→P y x) (ps':∀x y,P' x y→P' y x) (pr':∀x,P' x x) (pt':∀x y z,P' x y→P' y z→P' x z) (φ:Nat→Nat) (h1:∀x,x<n→S x→S' (φ x)∧φ x<m) (h2:∀x y,x<n→y<n→S x→S y→P' (φ x) (φ y)→P x y):cl P S n≤cl P' S' m:=by
 classical
 have hx:∀x,∃y,(x<n→S x→(y<m∧S' y∧P' (φ x) y∧∀z,z<y→S' z→¬P' y z)):=fun x=>by
  by_cases k:x<n∧S x
  ·obtain ⟨k1,k2⟩:=h1 x k.1 k.2
   obtain ⟨y,j1,⟨j2,j3⟩,j4⟩:=least_ex (Q:=fun z=>S' z∧P' (φ x) z) ⟨k1,pr' _⟩
   exact ⟨y,fun _ _=>⟨by omega,j2,j3,fun z hz i j=>j4 z hz ⟨i,pt' _ _ _ j3 j⟩⟩⟩
  ·exact ⟨0,fun i j=>absurd ⟨i,j⟩ k⟩
 obtain ⟨ψ,hψ⟩:=Classical.axiomOfChoice hx
 unfold cl
 refine inj_len ψ (List.nodup_range.filter _) (fun x hm=>?_) fun x hm y hm2 k=>?_
 ·rw [List.mem_filter,List.mem_range] at hm ⊢
  obtain ⟨k1,k2⟩:=hm
  obtain ⟨k2,k3⟩:=bl_iff.1 k2
  obtain ⟨j1,j2,j3,j4⟩:=hψ x k1 k2
  exact ⟨j1,bl_iff.2 ⟨j2,j4⟩⟩
 ·rw [List.mem_filter,List.mem_range] at hm hm2
  obtain ⟨k1,k2⟩:=hm
  obtain ⟨k2,k3⟩:=bl_iff.1 k2
  obtain ⟨i1,i2⟩:=hm2
  obtain ⟨i2,i3⟩:=bl_iff.1 i2
  obtain ⟨_,_,j3,_⟩:=hψ x k1 k2
  obtain ⟨_,_,l3,_⟩:=hψ y i1 i2
  rw [←k] at l3
  have hp:=h2 x y k1 i1 k2 i2 (pt' _ _ _ j3 (ps' _ _ l3))
  rcases Nat.lt_trichotomy x y with h | h | h
  ·exact absurd (ps _ _ hp) (i3 x h k2)
  ·exact h
  ·exact absurd hp (k3 y h i2)
theorem filter_but {p:Nat→Bool}:∀{l:List Nat},l.Nodup→a∈l→p a=true→(l.filter p).length=(l.filter fun x=>p x&&decide (x≠a)).length+1
 | [],_,h,_=>by cases h
 | x::l,h1,h2,h3=>by
  obtain ⟨h4,h5⟩:=List.nodup_cons.1 h1
  rcases List.mem_cons.1 h2 with rfl | h2
  ·rw [List.filter_cons_of_pos h3,List.filter_cons_of_neg (by simp)]
   have:l.filter (fun x=>p x&&decide (x≠a))=l.filter p:=List.filter_congr fun y hy=>by
    have:y≠a:=by rintro rfl;exact h4 hy
    simp [this]
   rw [this];rfl
  ·have hx:x≠a:=by rintro rfl;exact h4 h2
   have ih:=filter_but h5 h2 h3
   by_cases hp:p x=true
   ·rw [List.filter_cons_of_pos hp,List.filter_cons_of_pos (by simp [hp,hx])]
    simp only [List.length_cons];omega
   ·rw [List.filter_cons_of_neg hp,List.filter_cons_of_neg (by simp [hp])];exact ih
theorem cl_link (pr:∀x,P x x) (ps:∀x y,P x y→P y x) (pt:∀x y z,P x y→P y z→P x z) (hu:u<n) (hv:v<n) (su:S u) (sv:S v) (hn:¬P u v) (h:∀x y,P' x y↔P x y∨(P x u∧P v y)∨(P x v∧P u y)):cl P S n=cl P' S n+1:=by
 classical
 obtain ⟨a,a1,⟨a0,a2⟩,a3⟩:=least_ex (Q:=fun z=>S z∧P u z) ⟨su,pr u⟩
 obtain ⟨c,c1,⟨c0,c2⟩,c3⟩:=least_ex (Q:=fun z=>S z∧P v z) ⟨sv,pr v⟩
 have hac:a≠c:=by rintro rfl;exact hn (pt _ _ _ a2 (ps _ _ c2))
 have key:∀{u v a c:Nat},(∀x y,P' x y↔P x y∨(P x u∧P v y)∨(P x v∧P u y))→S a→P u a→(∀z,z<a→¬(S z∧P u z))→S c→P v c→(∀z,z<c→¬(S z∧P v z))→c<n→a<c→cl P S n=cl P' S n+1:=fun {u v a c} h a0 a2 a3 c0 c2 c3 hc hlt=>by
  have hp:∀x,S x→((∀y,y<x→S y→¬P' x y)↔(∀y,y<x→S y→¬P x y)∧x≠c):=fun x sx=>by
   constructor
   ·intro k
    refine ⟨fun y hy sy j=>k y hy sy ((h _ _).2 (.inl j)),?_⟩
    rintro rfl
    exact k a hlt a0 ((h _ _).2 (.inr (.inr ⟨ps _ _ c2,a2⟩)))
   ·rintro ⟨k,hx⟩ y hy sy j
    rcases (h _ _).1 j with j | ⟨j,i⟩ | ⟨j,i⟩
    ·exact k y hy sy j
    ·have h1:x=a:=by
      rcases Nat.lt_trichotomy x a with l | l | l
      ·exact absurd ⟨sx,ps _ _ j⟩ (a3 x l)
      ·exact l
      ·exact absurd (pt _ _ _ j a2) (k a l a0)
     have:¬y<c:=fun l=>c3 y l ⟨sy,i⟩
     omega
    ·have h1:x=c:=by
      rcases Nat.lt_trichotomy x c with l | l | l
      ·exact absurd ⟨sx,ps _ _ j⟩ (c3 x l)
      ·exact l
      ·exact absurd (pt _ _ _ j c2) (k c l c0)
     exact hx h1
  unfold cl
  rw [filter_but List.nodup_range (List.mem_range.2 hc) (bl_iff.2 ⟨c0,fun y hy sy j=>c3 y hy ⟨sy,pt _ _ _ c2 j⟩⟩)]
  congr 2
  refine List.filter_congr fun x _=>?_
  rw [Bool.eq_iff_iff,Bool.and_eq_true,decide_eq_true_iff,bl_iff,bl_iff]
  constructor
  ·rintro ⟨⟨sx,k⟩,hx⟩;exact ⟨sx,(hp x sx).2 ⟨k,hx⟩⟩
  ·rintro ⟨sx,k⟩;obtain ⟨k1,k2⟩:=(hp x sx).1 k;exact ⟨⟨sx,k1⟩,k2⟩
 rcases Nat.lt_or_gt_of_ne hac with k | k
 ·exact key h a0 a2 a3 c0 c2 c3 (by omega) k
 ·exact key (u:=v) (v:=u) (fun x y=>by rw [h];exact ⟨fun i=>i.elim .inl fun i=>.inr i.symm,fun i=>i.elim .inl fun i=>.inr i.symm⟩) c0 c2 c3 a0 a2 a3 (by omega) k
theorem cl_ties:∀(m:Nat) (D:Nat→Option (Nat × Nat)),(∀i,m≤i→D i=none)→FO q D→(∀i u v,D i=some (u,v)→(u<n∧S u)∧v<n∧S v)→(cl (LK q fun _=>none) S n:Int)=cl (LK q D) S n+cB D m
 | 0,D,hD,_,_=>by
  have:D=fun _=>none:=funext fun i=>hD i (Nat.zero_le _)
  subst this
  simp [cB,sm]
 | m+1,D,hD,hF,hl=>by
  cases hm:D m with
  | none=>
   have:=cl_ties m D (fun i hi=>by
    rcases Nat.lt_or_ge m i with k | k
    ·exact hD i k
    ·obtain rfl:i=m:=by omega
     exact hm) hF hl
   rw [this];simp [cB,sm,hm]
  | some p=>
   obtain ⟨u,v⟩:=p
   have h1:=cl_ties m (upd D m none) (fun i hi=>by
    by_cases k:i=m
    ·rw [k,Qac]
    ·rw [Qak _ _ k];exact hD i (by omega)) hF.less fun i u v k=>hl i u v (Qd1 k).2
   obtain ⟨⟨hu,su⟩,hv,sv⟩:=hl m u v hm
   have h2:=cl_link (P:=LK q (upd D m none)) (P':=LK q D) (fun _=>LK.refl) (fun _ _=>LK.symm) (fun _ _ _=>LK.trans) hu hv su sv (hF m u v hm) fun x y=>lk_back hm
   have h3:cB (upd D m none) m=cB D m:=sm_congr fun i hi=>by rw [Qak _ _ (by omega)]
   rw [h1,h2,h3]
   simp only [cB,sm,hm]
   simp;omega
theorem cl_alone (h:∀x y,S x→S y→P x y→x=y):cl P S n=((List.range n).filter fun x=>bl (S x)).length:=by
 unfold cl
 congr 1
 refine List.filter_congr fun x _=>?_
 rw [Bool.eq_iff_iff,bl_iff,bl_iff]
 exact ⟨fun k=>k.1,fun k=>⟨k,fun y hy sy j=>by have:=h x y k sy j;omega⟩⟩
theorem lk_none_B:LK [] (fun _=>none) x y→x=y:=fun h=>by
 induction h with
 | refl=>rfl
 | step _ k ih=>
  rcases k with ⟨_,k,_⟩ | ⟨_,k | k⟩
  ·cases k
  ·cases k
  ·cases k
variable {b:Bk} {ky:Nat→Int} {h0:Array Obj}
theorem GM.around (h:GM h0 b N lv tl q B D ky) (hv:v<N) (hx:x∈tl v) (hy:y∈tl v):LK q D x y:=by
 have hM:=h.cb.mp
 refine RT.bind (E:=Cy (tl v)) (fun s t k=>?_) (cy_rt hx hy)
 have hs:=k.mem.1
 have hsd:=Qbv.2 ⟨v,hv,hs⟩
 have hnd:=(fm_nodup (f:=tl) (l:=List.range N) hM.nd).1 v (List.mem_range.2 hv)
 have e1:sg tl N s=t:=by
  unfold sg
  rw [if_pos hsd,hM.ogE hv hs]
  exact cy_nxt hnd k
 have htw:=hM.tw s hsd
 have e2:ph tl N (Core.tw s)=t:=by
  rw [hM.phE htw,show Core.tw (Core.tw s)=s from tw_tw s,e1]
 have hlt:=hM.lt _ htw
 have h1:LK q D s (Core.tw s):=by
  have:=h.cj'.link (hM.laid hsd)
  by_cases h2:s % 2=0
  ·have e:s=2*(s/2):=by omega
   have:Core.tw s=2*(s/2)+1:=by unfold Core.tw;rw [if_pos h2];omega
   rw [this,show LK q D s (2*(s/2)+1)↔LK q D (2*(s/2)) (2*(s/2)+1) by rw [←e]]
   assumption
  ·have e:s=2*(s/2)+1:=by omega
   have:Core.tw s=2*(s/2):=by unfold Core.tw;rw [if_neg h2];omega
   rw [this,show LK q D s (2*(s/2))↔LK q D (2*(s/2)+1) (2*(s/2)) by rw [←e]]
   exact LK.symm (by assumption)
 refine h1.trans (LK.sf ?_)
 rw [←e2]
 exact h.cb.sf_ph (by omega)
theorem org_og (h:MP N tl) (hd:x∈dl tl N):org tl N x=og tl N x:=by
 have:=h.lt _ hd
 unfold org;rw [if_neg (by omega)]
theorem GM.nearD (h:GM h0 b N lv tl q B D ky) (hx:x∈dl tl N) (hy:y∈dl tl N):LK q D x y↔LK [] B (og tl N x) (og tl N y):=by
 have hM:=h.cb.mp
 constructor
 ·intro k
  have:=h.cj'.near k
  rwa [org_og hM hx,org_og hM hy] at this
 ·intro k
  have at':∀{z},z∈dl tl N→z∈tl (og tl N z)∧og tl N z<N:=fun {z} hz=>by
   obtain ⟨v,hv,hz'⟩:=Qbv.1 hz
   rw [hM.ogE hv hz'];exact ⟨hz',hv⟩
  have key:∀{v},LK [] B (og tl N x) v→∀y,y∈dl tl N→og tl N y=v→LK q D x y:=fun {v} k=>by
   induction k with
   | refl=>
    intro y hy e
    have h1:=at' hx
    have h2:=at' hy
    rw [e] at h2
    exact h.around h1.2 h1.1 h2.1
   | @step v z _ k ih=>
    intro y hy e
    have h2:=at' hy
    rw [e] at h2
    rcases k with ⟨_,k,_⟩ | ⟨i,k | k⟩
    ·cases k
    ·obtain ⟨hl,k,_⟩:=h.cb.bB i _ k
     cases k
     have h3:=at' (hM.odd hl)
     exact ((ih _ hl rfl).trans (h.cj'.link hl)).trans (h.around h2.2 h3.1 h2.1)
    ·obtain ⟨hl,k,_⟩:=h.cb.bB i _ k
     cases k
     have h3:=at' hl
     exact ((ih _ (hM.odd hl) rfl).trans (h.cj'.link hl).symm).trans (h.around h2.2 h3.1 h2.1)
  exact key k y hy rfl
theorem len_sm {p:Nat→Bool}:∀n:Nat,(((List.range n).filter p).length:Int)=sm (fun x=>if p x then 1 else 0) n
 | 0=>rfl
 | n+1=>by
  have:=len_sm (p:=p) n
  rw [List.range_succ,List.filter_append,List.length_append]
  unfold sm
  rw [←this]
  by_cases h:p n=true
  ·rw [List.filter_cons_of_pos h,if_pos h];simp
  ·rw [List.filter_cons_of_neg h,if_neg h];simp
theorem sm_plus {f g:Nat→Int}:∀n:Nat,sm f n+sm g n=sm (fun i=>f i+g i) n
 | 0=>rfl
 | n+1=>by unfold sm;rw [←sm_plus n];omega
theorem GM.euler (h:GM h0 b N lv tl q B D ky):(cl (LK q fun _=>none) (·∈dl tl N) (2*N):Int)+sm (fun v=>if lv v=true∧tl v=[] then 1 else 0) N=2*(cV lv N-cB B N)-cV lv N+cE tl N:=by
 have hM:=h.cb.mp
 have e1:=cl_ties (q:=q) (n:=2*N) (S:=(·∈dl tl N)) N D h.dN h.cj'.fD fun i u v k=>by
  obtain ⟨hl,k⟩:=h.cb.bD i _ k
  cases k
  have:=hM.Qca hl
  exact ⟨⟨by omega,hl⟩,by omega,hM.odd hl⟩
 have ogS:∀{x},x∈dl tl N→tl (og tl N x)≠[]∧og tl N x<N:=fun {z} hz=>by
  obtain ⟨v,hv,hz'⟩:=Qbv.1 hz
  rw [hM.ogE hv hz'];exact ⟨fun k=>(by rw [k] at hz';cases hz'),hv⟩
 have e2:=cl_ties (q:=[]) (n:=N) (S:=fun v=>tl v≠[]) N B h.bN h.cj'.fB fun i u v k=>by
  obtain ⟨hl,k,_⟩:=h.cb.bB i _ k
  cases k
  have h1:=ogS hl
  have h2:=ogS (hM.odd hl)
  exact ⟨⟨h1.2,h1.1⟩,h2.2,h2.1⟩
 have e3:cl (LK q D) (·∈dl tl N) (2*N)=cl (LK [] B) (fun v=>tl v≠[]) N:=by
  refine Nat.le_antisymm ?_ ?_
  ·exact cl_le (fun _ _=>LK.symm) (fun _ _=>LK.symm) (fun _=>LK.refl) (fun _ _ _=>LK.trans) (og tl N) (fun x _ hx=>ogS hx) fun x y _ _ hx hy k=>(h.nearD hx hy).2 k
  ·have hh:∀{v},tl v≠[]→(tl v).headD 0∈tl v:=fun {v} k=>by
    cases e:tl v with
    | nil=>exact absurd e k
    | cons a l=>simp
   refine cl_le (fun _ _=>LK.symm) (fun _ _=>LK.symm) (fun _=>LK.refl) (fun _ _ _=>LK.trans) (fun v=>(tl v).headD 0) (fun v hv hs=>?_) fun u v hu hv su sv k=>?_
   ·have:=Qbv.2 ⟨v,hv,hh hs⟩
    exact ⟨this,hM.lt _ this⟩
   ·have:=(h.nearD (Qbv.2 ⟨u,hu,hh su⟩) (Qbv.2 ⟨v,hv,hh sv⟩)).1 k
    rwa [hM.ogE hu (hh su),hM.ogE hv (hh sv)] at this
 have e4:cl (LK [] fun _=>none) (fun v=>tl v≠[]) N=((List.range N).filter fun x=>bl (tl x≠[])).length:=cl_alone fun x y _ _=>lk_none_B
 have e5:=len_sm (p:=fun x=>bl (tl x≠[])) N
 have e6:cB D N+cB B N=cE tl N:=by
  unfold cB cE
  rw [sm_plus]
  refine sm_congr fun i hi=>?_
  by_cases hl:Laid tl N i
  ·rw [if_pos hl]
   cases hB:B i with
   | none=>rw [h.tied hl hB];rfl
   | some p=>
    rcases h.cb.ex i with k | k
    ·rw [hB] at k;cases k
    ·rw [k];rfl
  ·rw [if_neg hl]
   have h1:B i=none:=by
    cases hB:B i with
    | none=>rfl
    | some p=>exact absurd (h.cb.bB i p hB).1 hl
   have h2:D i=none:=by
    cases hD:D i with
    | none=>rfl
    | some p=>exact absurd (h.cb.bD i p hD).1 hl
   rw [h1,h2];rfl
 have e7:sm (fun v=>if bl (tl v≠[])=true then (1:Int) else 0) N+sm (fun v=>if lv v=true∧tl v=[] then 1 else 0) N=cV lv N:=by
  unfold cV
  rw [sm_plus]
  refine sm_congr fun i hi=>?_
  by_cases hs:tl i=[]
  ·have:¬bl (tl i≠[])=true:=by rw [bl_iff];exact fun k=>k hs
   rw [if_neg this]
   cases hv:lv i<;>simp [hs]
  ·rw [if_pos (bl_iff.2 hs),if_neg (fun k=>hs k.2),h.ll i hi hs];rfl
 omega
end
end Core
end Go.Proofs.YtpmicakdjhoafaaGreatDoor
