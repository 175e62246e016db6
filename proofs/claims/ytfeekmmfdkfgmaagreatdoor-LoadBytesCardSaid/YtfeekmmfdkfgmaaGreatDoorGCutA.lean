/-
Forests by each node's link up: ways up, chains, roads; a Qct turned to another root, linked, cut.
Conditions: those that each theorem states.
-/
import Derived.Below
import Derived.Tactics
import Derived.Test.YtfeekmmfdkfgmaaGreatDoorGFor
import Derived.Test.YtfeekmmfdkfgmaaGreatDoorSplayQ
set_option linter.unusedVariables false
set_option linter.unusedSimpArgs false
namespace Go.Proofs.YtfeekmmfdkfgmaaGreatDoor
namespace Cut
inductive Top (pa:Nat→Int):Nat→Nat→Prop
 | root {x:Nat}:pa x=-1→Top pa x x
 | step {x y r:Nat}:pa x=y→Top pa y r→Top pa x r
inductive Anc (pa:Nat→Int):Nat→Nat→Prop
 | refl {x:Nat}:Anc pa x x
 | step {x y z:Nat}:pa x=y→Anc pa y z→Anc pa x z
def Ch (pa:Nat→Int):Int→List Nat→Prop
 | _,[]=>True
 | q,x::l=>pa x=q∧Ch pa x l
def Ed (pa:Nat→Int) (x y:Nat):Prop:=pa x=y∨pa y=x
def Lk (E:Nat→Nat→Prop):List Nat→Prop
 | []=>True
 | x::l=>(∀y,l.head?=some y→E x y)∧Lk E l
structure Way (E:Nat→Nat→Prop) (a b:Nat) (l:List Nat):Prop where
 hd:l.head?=some a
 la:l.getLast?=some b
 nd:l.Nodup
 lk:Lk E l
section
variable {pa pa':Nat→Int} {x y z r r' a b:Nat} {q:Int} {l l' l1 l2:List Nat} {E E':Nat→Nat→Prop}
theorem Top.uniq (h:Top pa x r):∀{r'},Top pa x r'→r=r':=by
 induction h with
 | root h=>
  intro r' k
  cases k with
  | root=>rfl
  | step e _=>rw [h] at e;omega
 | step e _ ih=>
  intro r' k
  cases k with
  | root h=>rw [h] at e;omega
  | step e' k=>rw [e] at e';have:_=_:=Int.ofNat.inj e';subst this;exact ih k
theorem Top.down (h:Top pa x r) (e:pa y=x):Top pa y r:=.step e h
theorem Top.up (h:Top pa x r) (e:pa x=y):Top pa y r:=by
 cases h with
 | root h=>rw [h] at e;omega
 | step e' k=>rw [e] at e';have:_=_:=Int.ofNat.inj e';subst this;exact k
theorem Top.edge (h:Top pa x r) (e:Ed pa x y):Top pa y r:=e.elim (fun e=>h.up e) (fun e=>h.down e)
theorem Ed.symm (h:Ed pa x y):Ed pa y x:=Or.symm h
theorem Anc.top' (h:Anc pa x z) (k:Top pa z r):Top pa x r:=by
 induction h with
 | refl=>exact k
 | step e _ ih=>exact .step e (ih k)
theorem Anc.trans (h:Anc pa x y) (k:Anc pa y z):Anc pa x z:=by
 induction h with
 | refl=>exact k
 | step e _ ih=>exact .step e (ih k)
theorem Ch.append:∀{l1 l2:List Nat} {q:Int},Ch pa q (l1++l2)↔Ch pa q l1∧Ch pa (match l1.getLast? with | some z=>(z:Int) | none=>q) l2:=by
 intro l1
 induction l1 with
 | nil=>intro l2 q;simp [Ch]
 | cons x l1 ih=>
  intro l2 q
  rw [List.cons_append]
  simp only [Ch]
  rw [ih,and_assoc]
  have:(match (x::l1).getLast? with | some z=>(z:Int) | none=>q)=(match l1.getLast? with | some z=>(z:Int) | none=>(x:Int)):=by
   rw [List.getLast?_cons]
   cases l1.getLast?<;>rfl
  rw [this]
theorem Ch.snoc {l:List Nat} {z y:Nat} {q:Int} (h:Ch pa q (l++[z])) (e:pa y=z):Ch pa q (l++[z]++[y]):=by
 rw [Ch.append]
 refine ⟨h,?_⟩
 simp [Ch,e]
theorem Ch.split {l1 l2:List Nat} {x:Nat} {q:Int} (h:Ch pa q (l1++x::l2)):Ch pa q (l1++[x])∧Ch pa x l2:=by
 have e:l1++x::l2=(l1++[x])++l2:=by simp
 rw [e,Ch.append] at h
 refine ⟨h.1,?_⟩
 simpa using h.2
theorem Ch.congr {l:List Nat}:∀{q:Int},(∀y∈l,pa' y=pa y)→Ch pa q l→Ch pa' q l:=by
 induction l with
 | nil=>intro q _ _;trivial
 | cons x l ih=>intro q he h;exact ⟨by rw [he x (by simp),h.1],ih (fun y hy=>he y (by simp [hy])) h.2⟩
theorem Ch.anc {l:List Nat}:∀{q:Int} {b:Nat},Ch pa q l→l.getLast?=some b→∀z∈l,Anc pa b z:=by
 induction l with
 | nil=>intro q b _ _ z hz;cases hz
 | cons x l ih=>
  intro q b h hb z hz
  cases l with
  | nil=>
   simp at hb hz;subst hb hz;exact .refl
  | cons y l=>
   have hb':(y::l).getLast?=some b:=by rw [List.getLast?_cons] at hb ⊢;simpa [List.getLast?_cons] using hb
   rcases List.mem_cons.1 hz with rfl | hz
   ·exact (ih h.2 hb' y (by simp)).trans (.step h.2.1 .refl)
   ·exact ih h.2 hb' z hz
theorem Ch.lk {l:List Nat}:∀{q:Int},Ch pa q l→Lk (Ed pa) l:=by
 induction l with
 | nil=>intro q _;trivial
 | cons x l ih=>
  intro q h
  refine ⟨fun y hy=>?_,ih h.2⟩
  cases l with
  | nil=>cases hy
  | cons z l=>simp at hy;subst hy;exact .inr h.2.1
theorem Zm0 {l:List Nat}:∀{q:Int} {x:Nat},pa x=q→(∀p:Nat,q=p→p∉l)→(x::l).Nodup→Lk (Ed pa) (x::l)→Ch pa q (x::l):=by
 induction l with
 | nil=>intro q x h _ _ _;exact ⟨h,trivial⟩
 | cons y l ih=>
  intro q x h hq hn hl
  refine ⟨h,?_⟩
  have hy:pa y=x:=by
   rcases hl.1 y rfl with e | e
   ·exact absurd (by simp) (hq y (by rw [←h,e]))
   ·exact e
  rw [List.nodup_cons] at hn
  refine ih hy (fun p hp hm=>?_) hn.2 hl.2
  have:x=p:=by omega
  subst this
  exact hn.1 (by simp [hm])
theorem Q1z {l:List Nat}:∀{l':List Nat} {b:Nat},Ch pa (-1) (l++[b])→Ch pa (-1) (l'++[b])→l=l':=by
 induction hn:l.length using Nat.strongRecOn generalizing l with
 | _ n ih=>
  intro l' b h h'
  rcases List.eq_nil_or_concat l with rfl | ⟨k,c,rfl⟩
  ·rcases List.eq_nil_or_concat l' with rfl | ⟨k',c',rfl⟩
   ·rfl
   ·have h1:pa b=-1:=h.1
    rw [List.concat_eq_append,List.append_assoc] at h'
    have h2:=(Ch.split (l2:=[b]) h').2.1
    omega
  ·rw [List.concat_eq_append] at h hn ⊢
   have h1:=(Ch.split (l2:=[b]) (by simpa using h)).2.1
   have h0:=(Ch.split (l1:=k) (x:=c) (l2:=[b]) (by simpa using h)).1
   rcases List.eq_nil_or_concat l' with rfl | ⟨k',c',rfl⟩
   ·have h2:pa b=-1:=h'.1
    omega
   ·rw [List.concat_eq_append] at h' ⊢
    have h3:=(Ch.split (l2:=[b]) (by simpa using h')).2.1
    have h4:=(Ch.split (l1:=k') (x:=c') (l2:=[b]) (by simpa using h')).1
    have e:c=c':=by omega
    subst e
    rw [ih k.length (by simp at hn;omega) rfl h0 h4]
theorem Lk.congr {l:List Nat} (h:∀x y,E x y→E' x y):Lk E l→Lk E' l:=by
 induction l with
 | nil=>intro _;trivial
 | cons x l ih=>intro k;exact ⟨fun y hy=>h x y (k.1 y hy),ih k.2⟩
theorem Lk.append {l1 l2:List Nat}:Lk E (l1++l2)↔Lk E l1∧Lk E l2∧∀x y,l1.getLast?=some x→l2.head?=some y→E x y:=by
 induction l1 with
 | nil=>simp [Lk]
 | cons x l1 ih=>
  rw [List.cons_append]
  simp only [Lk]
  rw [ih]
  cases l1 with
  | nil=>
   simp only [List.nil_append,List.getLast?_singleton,Option.some.injEq]
   constructor
   ·rintro ⟨a,b,c,d⟩;exact ⟨⟨fun y hy=>by simp at hy,trivial⟩,c,fun u w hu hw=>hu ▸ a w hw⟩
   ·rintro ⟨a,b,c⟩;exact ⟨fun y hy=>c x y rfl hy,trivial,b,fun u w hu=>by simp at hu⟩
  | cons z l1=>
   simp only [List.cons_append,List.head?_cons,List.getLast?_cons,Option.some.injEq]
   constructor
   ·rintro ⟨a,b,c,d⟩;exact ⟨⟨a,b⟩,c,fun u w hu hw=>d u w (by simpa using hu) hw⟩
   ·rintro ⟨⟨a,b⟩,c,d⟩;exact ⟨a,b,c,fun u w hu hw=>d u w (by simpa using hu) hw⟩
structure Fst (n:Nat) (pa:Nat→Int):Prop where
 rng:∀x,x<n→-1≤pa x∧pa x<n
 top:∀x,x<n→∃r,Top pa x r
theorem Anc.lt {n:Nat} (h:Fst n pa) (k:Anc pa x z):x<n→z<n:=by
 induction k with
 | refl=>exact id
 | step e _ ih=>intro hx;have:=(h.rng _ hx).2;exact ih (by omega)
theorem Top.rank (h:Top pa x r):∃l,Ch pa (-1) (l++[x])∧(l++[x]).head?=some r:=by
 induction h with
 | root h=>exact ⟨[],⟨h,trivial⟩,rfl⟩
 | step e _ ih=>
  obtain ⟨l,h1,h2⟩:=ih
  refine ⟨l++[_],h1.snoc e,?_⟩
  cases l<;>simpa using h2
theorem Zcr {l:List Nat}:∀{q:Int} {z:Nat},Ch pa q l→(q=-1∧l.head?=some z)∨(∃y:Nat,q=y∧Top pa y z)→∀x∈l,Top pa x z:=by
 induction l with
 | nil=>intro q z _ _ x hx;cases hx
 | cons a l ih=>
  intro q z h hq x hx
  have ha:Top pa a z:=by
   rcases hq with ⟨e,hz⟩ | ⟨y,e,ht⟩
   ·simp at hz;subst hz;exact .root (by rw [h.1,e])
   ·exact .step (by rw [h.1,e]) ht
  rcases List.mem_cons.1 hx with rfl | hx
  ·exact ha
  ·exact ih h.2 (.inr ⟨a,rfl,ha⟩) x hx
theorem Qqy {l:List Nat} (h:Ch pa (-1) l):l.Nodup:=by
 induction hn:l.length using Nat.strongRecOn generalizing l with
 | _ n ih=>
  rcases List.eq_nil_or_concat l with rfl | ⟨k,c,rfl⟩
  ·simp
  ·rw [List.concat_eq_append] at h hn ⊢
   have hk:Ch pa (-1) k:=(Ch.append.1 h).1
   have h1:=ih k.length (by simp at hn;omega) hk rfl
   rw [List.nodup_append]
   refine ⟨h1,by simp,?_⟩
   intro x hx y hy
   simp at hy;subst hy
   rintro rfl
   obtain ⟨k1,k2,rfl⟩:=List.append_of_mem hx
   have h2:=(Ch.split (l1:=k1) (x:=x) (l2:=k2++[x]) (by simpa using h)).1
   have:=Q1z h2 h
   have:=congrArg List.length this
   simp at this
def ups (pa:Nat→Int):Int→List Nat→Nat→Int
 | _,[]=>pa
 | q,x::l=>fun z=>if z=x then q else ups pa x l z
theorem Qwb {l:List Nat}:∀{q:Int},z∉l→ups pa q l z=pa z:=by
 induction l with
 | nil=>intro q _;rfl
 | cons x l ih=>
  intro q h
  rw [List.mem_cons,not_or] at h
  simp only [ups,if_neg h.1]
  exact ih h.2
theorem Q43 {l:List Nat}:∀{q:Int},l.Nodup→Ch (ups pa q l) q l:=by
 induction l with
 | nil=>intro q _;trivial
 | cons x l ih=>
  intro q h
  rw [List.nodup_cons] at h
  refine ⟨by simp [ups],(ih (q:=(x:Int)) h.2).congr fun y hy=>?_⟩
  have:y≠x:=fun e=>h.1 (e ▸ hy)
  simp [ups,this]
def Nx (l:List Nat) (x y:Nat):Prop:=∃l1 l2,l=l1++x::y::l2
theorem Nx.rev (h:Nx l x y):Nx l.reverse y x:=by
 obtain ⟨l1,l2,rfl⟩:=h
 exact ⟨l2.reverse,l1.reverse,by simp⟩
theorem Ch.nx (h:Ch pa (-1) l) (hx:x∈l):pa x=y↔Nx l y x:=by
 constructor
 ·intro e
  obtain ⟨l1,l2,rfl⟩:=List.append_of_mem hx
  rcases List.eq_nil_or_concat l1 with rfl | ⟨k,c,rfl⟩
  ·have:pa x=-1:=h.1
   omega
  ·rw [List.concat_eq_append] at h ⊢
   have h1:=(Ch.split (l1:=k) (x:=c) (l2:=x::l2) (by simpa using h)).2.1
   have:y=c:=by omega
   subst this
   exact ⟨k,l2,by simp⟩
 ·rintro ⟨l1,l2,rfl⟩
  exact (Ch.split h).2.1
theorem Nx.mem (h:Nx l x y):x∈l∧y∈l:=by obtain ⟨l1,l2,rfl⟩:=h;simp
theorem Zf2 (h:Ch pa (-1) l):Ed (ups pa (-1) l.reverse) x y↔Ed pa x y:=by
 have hn:=Qqy h
 have hn':l.reverse.Nodup:=(List.reverse_perm l).nodup_iff.2 hn
 have h':Ch (ups pa (-1) l.reverse) (-1) l.reverse:=Q43 hn'
 have one:∀x y:Nat,ups pa (-1) l.reverse x=y→Ed pa x y:=by
  intro x y e
  by_cases hx:x∈l
  ·have h1:=((h'.nx (by simpa using hx)).1 e).rev
   rw [List.reverse_reverse] at h1
   exact .inr ((h.nx h1.mem.2).2 h1)
  ·rw [Qwb (by simpa using hx)] at e
   exact .inl e
 have two:∀x y:Nat,pa x=y→Ed (ups pa (-1) l.reverse) x y:=by
  intro x y e
  by_cases hx:x∈l
  ·have h1:=((h.nx hx).1 e).rev
   exact .inr ((h'.nx h1.mem.2).2 h1)
  ·exact .inl (by rw [Qwb (by simpa using hx)];exact e)
 exact ⟨fun k=>k.elim (one x y) (fun e=>(one y x e).symm),fun k=>k.elim (two x y) (fun e=>(two y x e).symm)⟩
theorem head_mem {l:List Nat} (h:l.head?=some x):x∈l:=by cases l<;>simp at h;subst h;simp
theorem Q6d (h:Ch pa (-1) l) (hr:l.head?=some r) (ha:l.getLast?=some a) (k:Top pa x r'):(r'=r→Top (ups pa (-1) l.reverse) x a)∧(r'≠r→Top (ups pa (-1) l.reverse) x r'):=by
 have hn:=Qqy h
 have h':Ch (ups pa (-1) l.reverse) (-1) l.reverse:=Q43 ((List.reverse_perm l).nodup_iff.2 hn)
 have hl:∀z∈l,Top (ups pa (-1) l.reverse) z a:=fun z hz=>Zcr h' (.inl ⟨rfl,by rw [List.head?_reverse];exact ha⟩) z (by simpa using hz)
 have hr0:∀z∈l,Top pa z r:=fun z hz=>Zcr h (.inl ⟨rfl,hr⟩) z hz
 induction k with
 | root e=>
  rename_i z
  refine ⟨fun e'=>hl _ (by subst e';exact head_mem hr),fun hne=>?_⟩
  by_cases hz:z∈l
  ·exact absurd ((Top.root e).uniq (hr0 z hz)) hne
  ·exact .root (by rw [Qwb (by simpa using hz)];exact e)
 | step e k ih=>
  rename_i z y r'
  by_cases hz:z∈l
  ·exact ⟨fun _=>hl z hz,fun hne=>absurd ((Top.step e k).uniq (hr0 z hz)) hne⟩
  ·have e':ups pa (-1) l.reverse z=y:=by rw [Qwb (by simpa using hz)];exact e
   exact ⟨fun h=>.step e' (ih.1 h),fun h=>.step e' (ih.2 h)⟩
theorem Ch.rng {n:Nat} {l:List Nat}:∀{q:Int},Ch pa q l→-1≤q→q<n→(∀z∈l,z<n)→∀z∈l,-1≤pa z∧pa z<n:=by
 induction l with
 | nil=>intro q _ _ _ _ z hz;cases hz
 | cons x l ih=>
  intro q h h0 h1 hl z hz
  rcases List.mem_cons.1 hz with rfl | hz
  ·rw [h.1];exact ⟨h0,h1⟩
  ·have:=hl x (by simp)
   exact ih h.2 (by omega) (by omega) (fun z hz=>hl z (by simp [hz])) z hz
theorem Fst.rev {n:Nat} (hF:Fst n pa) (h:Ch pa (-1) l) (hr:l.head?=some r) (ha:l.getLast?=some a) (hl:∀z∈l,z<n):Fst n (ups pa (-1) l.reverse):=by
 have h':Ch (ups pa (-1) l.reverse) (-1) l.reverse:=Q43 ((List.reverse_perm l).nodup_iff.2 (Qqy h))
 refine ⟨fun x hx=>?_,fun x hx=>?_⟩
 ·by_cases hz:x∈l
  ·exact h'.rng (by omega) (by have:=hl x hz;omega) (fun z hz=>hl z (by simpa using hz)) x (by simpa using hz)
  ·rw [Qwb (by simpa using hz)];exact hF.rng x hx
 ·obtain ⟨r',k⟩:=hF.top x hx
  by_cases e:r'=r
  ·exact ⟨_,(Q6d h hr ha k).1 e⟩
  ·exact ⟨_,(Q6d h hr ha k).2 e⟩
theorem Q4e {l:List Nat} (h:l.getLast?=some x):∃k,l=k++[x]:=by
 rcases List.eq_nil_or_concat l with rfl | ⟨k,c,rfl⟩
 ·cases h
 ·rw [List.concat_eq_append] at h ⊢
  simp at h;subst h;exact ⟨k,rfl⟩
theorem Fst.Zf3 {n:Nat} (hF:Fst n pa) (ha:a<n):∃pa',Fst n pa'∧pa' a=-1∧(∀x y,Ed pa' x y↔Ed pa x y)∧∀r x,Top pa a r→Top pa x r→Top pa' x a:=by
 obtain ⟨r,k⟩:=hF.top a ha
 obtain ⟨l,h1,h2⟩:=k.rank
 have hla:(l++[a]).getLast?=some a:=by simp
 have hlt:∀z∈l++[a],z<n:=fun z hz=>(h1.anc hla z hz).lt hF ha
 refine ⟨ups pa (-1) (l++[a]).reverse,hF.rev h1 h2 hla hlt,?_,fun x y=>Zf2 h1,fun r' x k1 k2=>?_⟩
 ·rw [List.reverse_append];simp [ups]
 ·have:=k1.uniq k;subst this
  exact (Q6d h1 h2 hla k2).1 rfl
theorem Zfd (h:Way (Ed pa) a b l) (e:pa a=-1):Ch pa (-1) l:=by
 obtain ⟨h1,_,h3,h4⟩:=h
 cases l with
 | nil=>cases h1
 | cons x l=>
  simp at h1;subst h1
  exact Zm0 e (fun p hp=>by omega) h3 h4
theorem Way.congr (h:Way E a b l) (k:∀x y,E x y→E' x y):Way E' a b l:=⟨h.hd,h.la,h.nd,h.lk.congr k⟩
theorem Way.uniq {n:Nat} (hF:Fst n pa) (ha:a<n) (h:Way (Ed pa) a b l) (h':Way (Ed pa) a b l'):l=l':=by
 obtain ⟨pa',hF',e,hE,_⟩:=hF.Zf3 ha
 have k:=Zfd (h.congr fun x y=>(hE x y).2) e
 have k':=Zfd (h'.congr fun x y=>(hE x y).2) e
 obtain ⟨m,rfl⟩:=Q4e h.la
 obtain ⟨m',rfl⟩:=Q4e h'.la
 rw [Q1z k k']
theorem Way.top {l:List Nat}:∀{a:Nat},Lk (Ed pa) l→l.head?=some a→Top pa a r→∀z∈l,Top pa z r:=by
 induction l with
 | nil=>intro a _ _ _ z hz;cases hz
 | cons x l ih=>
  intro a h ha k z hz
  simp at ha;subst ha
  rcases List.mem_cons.1 hz with rfl | hz
  ·exact k
  ·cases l with
   | nil=>cases hz
   | cons y l=>exact ih h.2 rfl (k.edge (h.1 y rfl)) z hz
theorem Q5w {n:Nat} (hF:Fst n pa) (ha:a<n) (hb:b<n):(∃r,Top pa a r∧Top pa b r)↔∃l,Way (Ed pa) a b l:=by
 constructor
 ·rintro ⟨r,k1,k2⟩
  obtain ⟨pa',hF',e,hE,hT⟩:=hF.Zf3 ha
  obtain ⟨l,h1,h2⟩:=(hT r b k1 k2).rank
  exact ⟨l++[b],h2,by simp,Qqy h1,h1.lk.congr fun x y=>(hE x y).1⟩
 ·rintro ⟨l,h⟩
  obtain ⟨r,k⟩:=hF.top a ha
  obtain ⟨m,rfl⟩:=Q4e h.la
  exact ⟨r,k,Way.top h.lk h.hd k b (by simp)⟩
theorem Top.Zlc (k:Top pa x r):pa x≠x:=by
 induction k with
 | root h=>rw [h];omega
 | step h _ ih=>
  rename_i x y r _
  intro e
  have:y=x:=by omega
  subst this
  exact ih e
theorem Top.Zld (k:Top pa x r):∀y:Nat,pa x=y→pa y≠x:=by
 induction k with
 | root h=>intro y e;omega
 | step h _ ih=>
  rename_i x y' r _
  intro y e e'
  have:y=y':=by omega
  subst this
  exact ih x e' h
theorem Ed.irr {n:Nat} (hF:Fst n pa) (ha:a<n):¬Ed pa a a:=by
 intro h
 have e:pa a=a:=h.elim id id
 obtain ⟨r,k⟩:=hF.top a ha
 exact k.Zlc e
theorem Q8a (e:pa a=-1) (hb:Top pa b r) (hne:r≠a) (k:Top pa x r'):(r'≠a→Top (fun z=>if z=a then (b:Int) else pa z) x r')∧(r'=a→Top (fun z=>if z=a then (b:Int) else pa z) x r):=by
 have key:∀{x r'},Top pa x r'→r'≠a→Top (fun z=>if z=a then (b:Int) else pa z) x r':=by
  intro x r' k
  induction k with
  | root h=>intro hn;exact .root (by simp [hn,h])
  | step h _ ih=>
   intro hn
   rename_i z y _ _
   have:z≠a:=by rintro rfl;omega
   exact .step (by simp [this,h]) (ih hn)
 refine ⟨key k,?_⟩
 induction k with
 | root h=>intro hn;subst hn;exact .step (by simp) (key hb hne)
 | step h _ ih=>
  intro hn
  rename_i z y _ _
  have:z≠a:=by rintro rfl;omega
  exact .step (by simp [this,h]) (ih hn)
theorem Fst.link {n:Nat} (hF:Fst n pa) (e:pa a=-1) (hb:b<n) (k:Top pa b r) (hne:r≠a):Fst n (fun z=>if z=a then (b:Int) else pa z):=by
 refine ⟨fun x hx=>?_,fun x hx=>?_⟩
 ·split
  ·omega
  ·exact hF.rng x hx
 ·obtain ⟨r',k'⟩:=hF.top x hx
  by_cases h:r'=a
  ·exact ⟨_,(Q8a e k hne k').2 h⟩
  ·exact ⟨_,(Q8a e k hne k').1 h⟩
theorem Ziw (e:pa a=-1):Ed (fun z=>if z=a then (b:Int) else pa z) x y↔Ed pa x y∨(x=a∧y=b)∨(x=b∧y=a):=by
 unfold Ed
 simp only []
 by_cases h1:x=a<;>by_cases h2:y=a<;>simp [h1,h2,e]<;>omega
theorem Zcm (k:Top pa x r):(Anc pa x b→Top (fun z=>if z=b then (-1:Int) else pa z) x b)∧(¬Anc pa x b→Top (fun z=>if z=b then (-1:Int) else pa z) x r):=by
 induction k with
 | root h=>
  rename_i z
  constructor
  ·intro ha
   cases ha with
   | refl=>exact .root (by simp)
   | step e _=>rw [h] at e;omega
  ·intro hn
   have:z≠b:=by rintro rfl;exact hn .refl
   exact .root (by simp [this,h])
 | step h _ ih=>
  rename_i z y _ _
  by_cases hz:z=b
  ·subst hz
   exact ⟨fun _=>.root (by simp),fun hn=>absurd .refl hn⟩
  ·constructor
   ·intro ha
    cases ha with
    | refl=>exact absurd rfl hz
    | step e k=>
     rw [h] at e
     have:_=_:=Int.ofNat.inj e
     subst this
     exact .step (by simp [hz,h]) (ih.1 k)
   ·intro hn
    exact .step (by simp [hz,h]) (ih.2 fun k=>hn (.step h k))
theorem Fst.cut {n:Nat} (hF:Fst n pa) (hb:b<n):Fst n (fun z=>if z=b then (-1:Int) else pa z):=by
 refine ⟨fun x hx=>?_,fun x hx=>?_⟩
 ·split
  ·omega
  ·exact hF.rng x hx
 ·obtain ⟨r,k⟩:=hF.top x hx
  by_cases h:Anc pa x b
  ·exact ⟨_,(Zcm k).1 h⟩
  ·exact ⟨_,(Zcm k).2 h⟩
theorem Fst.Zih {n:Nat} (hF:Fst n pa) (hx:x<n) (e:pa x=y):pa y≠x:=by
 intro e'
 obtain ⟨r,k⟩:=hF.top x hx
 exact k.Zld y e e'
theorem Zma {n:Nat} (hF:Fst n pa) (hb:b<n) (e:pa b=a):Ed (fun z=>if z=b then (-1:Int) else pa z) x y↔Ed pa x y∧¬((x=a∧y=b)∨(x=b∧y=a)):=by
 have hne:=hF.Zih hb e
 have hab:a≠b:=fun h=>Ed.irr hF hb (.inl (by rw [e,h]))
 unfold Ed
 simp only []
 by_cases h1:x=b
 ·subst h1
  by_cases h2:y=x
  ·subst h2;simp [e];omega
  ·simp [h2,e,hab.symm,Ne.symm hab]
   constructor
   ·intro h;exact ⟨.inr h,fun h'=>by subst h';exact hne h⟩
   ·rintro ⟨h | h,h'⟩
    ·exact absurd (by omega) h'
    ·exact h
 ·by_cases h2:y=b
  ·subst h2
   simp [h1,e]
   constructor
   ·intro h;exact ⟨.inl h,fun h'=>by subst h';exact hne h⟩
   ·rintro ⟨h | h,h'⟩
    ·exact h
    ·exact absurd (by omega) h'
  ·simp [h1,h2]
theorem Zjy (h:Anc pa x z):∀{l:List Nat},Ch pa (-1) (l++[x])→z∈l++[x]:=by
 induction h with
 | refl=>intro l _;simp
 | step e _ ih=>
  intro l h
  rename_i x y z _
  rcases List.eq_nil_or_concat l with rfl | ⟨k,c,rfl⟩
  ·have:pa x=-1:=h.1
   omega
  ·rw [List.concat_eq_append] at h ⊢
   obtain ⟨h1,h2⟩:=Ch.split (l1:=k) (x:=c) (l2:=[x]) (by simpa using h)
   have hx:pa x=c:=h2.1
   have:c=y:=by omega
   subst this
   have:=ih h1
   simp at this ⊢
   rcases this with h | h
   ·exact .inl h
   ·exact .inr (.inl h)
theorem Anc.acyc (hT:Top pa y r) (h:Anc pa y z) (e:pa z=y):False:=by
 obtain ⟨l,h1,_⟩:=hT.rank
 have hm:=Zjy h h1
 obtain ⟨l1,l2,e2⟩:=List.append_of_mem hm
 have h2:=(Ch.split (l1:=l1) (x:=z) (l2:=l2) (by rw [←e2];exact h1)).1
 have h3:=h1.snoc e
 have h4:=Q1z h2 h3
 have h5:=congrArg List.length e2
 have h6:=congrArg List.length h4
 simp at h5 h6
 omega
theorem Ch.join {l1 l2:List Nat} {x:Nat} {q:Int} (h:Ch pa q (l1++[x])) (k:Ch pa x l2):Ch pa q (l1++x::l2):=by
 have e:l1++x::l2=(l1++[x])++l2:=by simp
 rw [e,Ch.append]
 refine ⟨h,?_⟩
 simpa using k
theorem Ch.Q96 {l:List Nat} {q:Int} (h:Ch pa q l) (hx:l.head?=some x):∀z∈l,Anc pa z x:=by
 intro z hz
 obtain ⟨l1,l2,rfl⟩:=List.append_of_mem hz
 refine (Ch.split h).1.anc (by simp) x ?_
 cases l1 with
 | nil=>simp at hx;subst hx;simp
 | cons a l1=>simp at hx;subst hx;simp
theorem Ch.notin {n:Nat} {l:List Nat} (hF:Fst n pa) (hl:∀z∈l,z<n) (h:Ch pa q l):∀z∈l,(z:Int)≠q:=by
 intro z hz e
 cases l with
 | nil=>cases hz
 | cons x l=>
  obtain ⟨r,k⟩:=hF.top z (hl z hz)
  exact (h.Q96 rfl z hz).acyc k (by rw [h.1,e])
end
end Cut
end Go.Proofs.YtfeekmmfdkfgmaaGreatDoor
namespace Go.Proofs.YtfeekmmfdkfgmaaGreatDoor
open Go
namespace Cut
open Go.Proofs.YtfeekmmfdkfgmaaGreatDoor.Seq
structure Lc (n:Nat) (s:S) (v:Nat→Int) (pa:Nat→Int) (ps:List (T × Int)):Prop where
 vr:VR v
 rep:∀p∈ps,Rep s v p.2 p.1∧p.1≠.nil∧Ch pa p.2 p.1.seq∧-1≤p.2∧p.2<n
 perm:(ps.flatMap (fun p=>p.1.ls)).Perm (List.range n)
 small:n≤8388608
 fst:Fst n pa
def pc (t:T) (q:Int):List (T × Int):=match t with | .nil=>[] | t=>[(t,q)]
theorem Zic (t:T) (q:Int):(pc t q).flatMap (fun p=>p.1.ls)=t.ls:=by cases t<;>simp [pc,T.ls]
theorem Zf5 {t:T} {q:Int} {p:T × Int} (h:p∈pc t q):p=(t,q)∧t≠.nil:=by cases t<;>simp [pc] at h;exact ⟨h,by simp⟩
theorem Zge {t:T} {q:Int} (h:t≠.nil):(t,q)∈pc t q:=by cases t<;>simp [pc];exact absurd rfl h
theorem Zid {t:T} {q:Int} (h:t≠.nil):pc t q=[(t,q)]:=by cases t<;>simp [pc];exact absurd rfl h
section
variable {n:Nat} {s s':S} {v:Nat→Int} {pa pa':Nat→Int} {t t' l r tl:T} {p p':T × Int} {ps ps' ps1:List (T × Int)} {x y z b:Nat} {q:Int}
theorem Lc.reorder (h:Lc n s v pa ps) (k:ps.Perm ps'):Lc n s v pa ps':=
 ⟨h.vr,fun t ht=>h.rep t (k.mem_iff.2 ht),(k.symm.flatMap_right _).trans h.perm,h.small,h.fst⟩
theorem Lc.nodup (h:Lc n s v pa ps):(ps.flatMap (fun p=>p.1.ls)).Nodup:=h.perm.nodup_iff.2 List.nodup_range
theorem Lc.lt (h:Lc n s v pa ps) (ht:p∈ps) (hx:x∈p.1.ls):x<n:=List.mem_range.1 (h.perm.mem_iff.1 (List.mem_flatMap.2 ⟨p,ht,hx⟩))
theorem Lc.wf (h:Lc n s v pa ps):Wf n s:=by
 intro i hi
 have:i∈ps.flatMap (fun p=>p.1.ls):=h.perm.mem_iff.2 (List.mem_range.2 hi)
 obtain ⟨t,ht,hit⟩:=List.mem_flatMap.1 this
 have k:=h.rep t ht
 exact k.1.links k.2.2.2.1 k.2.2.2.2 (fun y hy=>h.lt ht hy) i hit
theorem Lc.nd (h:Lc n s v pa (p::ps)):p.1.ls.Nodup:=by
 have hn:=h.nodup
 rw [List.flatMap_cons,List.nodup_append] at hn
 exact hn.1
theorem Lc.apart (h:Lc n s v pa (p::ps)) (ht:p'∈ps) (hx:x∈p'.1.ls):x∉p.1.ls:=by
 have hn:=h.nodup
 rw [List.flatMap_cons,List.nodup_append] at hn
 exact fun hxt=>hn.2.2 x hxt x (List.mem_flatMap.2 ⟨p',ht,hx⟩) rfl
theorem Lc.make (h:Lc n s v pa (ps1++ps)) (hr:∀p∈ps',Rep s' v p.2 p.1∧p.1≠.nil∧Ch pa' p.2 p.1.seq∧-1≤p.2∧p.2<n) (ho:∀z,z∉ps1.flatMap (fun p=>p.1.ls)→Eqv s s' z)
  (hpa:∀z,z∉ps1.flatMap (fun p=>p.1.ls)→pa' z=pa z) (hp:(ps'.flatMap (fun p=>p.1.ls)).Perm (ps1.flatMap (fun p=>p.1.ls))) (hF:Fst n pa'):Lc n s' v pa' (ps'++ps):=by
 have hn:=h.nodup
 rw [List.flatMap_append,List.nodup_append] at hn
 refine ⟨h.vr,?_,?_,h.small,hF⟩
 ·intro u hu
  rcases List.mem_append.1 hu with hu | hu
  ·exact hr u hu
  ·have h1:=h.rep u (by simp [hu])
   have ha:∀z∈u.1.ls,z∉ps1.flatMap (fun p=>p.1.ls):=fun z hz hz'=>hn.2.2 z hz' z (List.mem_flatMap.2 ⟨u,hu,hz⟩) rfl
   exact ⟨h1.1.congr fun z hz=>ho z (ha z hz),h1.2.1,h1.2.2.1.congr fun z hz=>hpa z (ha z (Qb2.1 hz)),h1.2.2.2⟩
 ·rw [List.flatMap_append]
  refine (hp.append_right _).trans ?_
  have:=h.perm
  rwa [List.flatMap_append] at this
theorem Lc.head (h:Lc n s v pa (p::ps)):Rep s v p.2 p.1∧p.1≠.nil∧Ch pa p.2 p.1.seq∧-1≤p.2∧p.2<n:=h.rep p (by simp)
structure Gq (q:Int) (s₀:S) (v:Nat→Int) (t:T) (s:S) (t':T):Prop where
 rep:Rep s v q t'
 perm:t.ls.Perm t'.ls
 seq:t'.seq=t.seq
 other:∀y,y∉t.ls→Eqv s₀ s y
theorem Gq.refl (h:Rep s v q t):Gq q s v t s t:=⟨h,List.Perm.refl _,rfl,fun y _=>Eqv.refl s y⟩
theorem Gq.trans {s₀ s s':S} {t t' t'':T} (g:Gq q s₀ v t s t') (g':Gq q s v t' s' t''):Gq q s₀ v t s' t'':=
 ⟨g'.rep,g.perm.trans g'.perm,g'.seq.trans g.seq,fun y hy=>(g.other y hy).trans (g'.other y (fun h=>hy (g.perm.mem_iff.2 h)))⟩
theorem Lc.gq (h:Lc n s v pa ((t,q)::ps)) (g:Gq q s v t s' t'):Lc n s' v pa ((t',q)::ps):=by
 have k:=h.head
 refine Lc.make (ps1:=[(t,q)]) (ps':=[(t',q)]) h ?_ (fun z hz=>g.other z (by simpa using hz)) (fun _ _=>rfl) (by simpa using g.perm.symm) h.fst
 intro p hp
 obtain rfl:=List.mem_singleton.1 hp
 refine ⟨g.rep,fun e=>?_,by rw [g.seq];exact k.2.2.1,k.2.2.2⟩
 have h2:=g.perm.length_eq
 simp only at e
 rw [e] at h2
 cases t with
 | nil=>exact k.2.1 rfl
 | node=>simp [T.ls] at h2
structure Tq (n:Nat) (s:S) (v:Nat→Int) (q:Int) (t:T):Prop where
 vr:VR v
 rep:Rep s v q t
 nd:t.ls.Nodup
 bd:∀y∈t.ls,y<n
 wf:Wf n s
 small:n≤8388608
 q0:-1≤q
 q1:q<n
 qt:∀y∈t.ls,(y:Int)≠q
 qc:q=-1∨∀y∈t.ls,s.left q.toNat≠y∧s.right q.toNat≠y
theorem Gq.wf (g:Gq q s v t s' t') (k:Tq n s v q t):Wf n s':=by
 intro i hi
 by_cases h:i∈t.ls
 ·exact g.rep.links k.q0 k.q1 (fun y hy=>k.bd y (g.perm.mem_iff.2 hy)) i (g.perm.mem_iff.1 h)
 ·have e:=g.other i h
  rw [e.up,e.left,e.right];exact k.wf i hi
theorem Gq.tq (g:Gq q s v t s' t') (k:Tq n s v q t):Tq n s' v q t':=by
 refine ⟨k.vr,g.rep,g.perm.nodup_iff.1 k.nd,fun y hy=>k.bd y (g.perm.mem_iff.2 hy),g.wf k,k.small,k.q0,k.q1,fun y hy=>k.qt y (g.perm.mem_iff.2 hy),?_⟩
 by_cases hq:q=-1
 ·exact .inl hq
 ·refine .inr fun y hy=>?_
  have h1:=k.qc.resolve_left hq y (g.perm.mem_iff.2 hy)
  have e:=g.other q.toNat (fun hm=>k.qt _ hm (by have:=k.q0;omega))
  rw [e.left,e.right];exact h1
theorem Tq.len (k:Tq n s v q t):t.ls.length≤8388608:=Nat.le_trans (Qbh k.nd k.bd) k.small
theorem Zah:∀{t:T} {p:Int},Rep s v p t→x∈t.ls→(s.left x=-1∨∃z∈t.ls,s.left x=(z:Nat))∧(s.right x=-1∨∃z∈t.ls,s.right x=(z:Nat)):=by
 intro t
 induction t with
 | nil=>intro p _ h;cases h
 | node l y b r hl hr=>
  intro p h hx
  simp only [T.ls,List.mem_append,List.mem_cons] at hx ⊢
  rcases hx with hx | rfl | hx
  ·obtain ⟨h1,h2⟩:=hl h.2.1 hx
   exact ⟨h1.imp id fun ⟨z,a,b⟩=>⟨z,.inl a,b⟩,h2.imp id fun ⟨z,a,b⟩=>⟨z,.inl a,b⟩⟩
  ·rw [h.1.left,h.1.right]
   exact ⟨(Qcl l).imp id fun ⟨z,a,b⟩=>⟨z,.inl b,a⟩,(Qcl r).imp id fun ⟨z,a,b⟩=>⟨z,.inr (.inr b),a⟩⟩
  ·obtain ⟨h1,h2⟩:=hr h.2.2 hx
   exact ⟨h1.imp id fun ⟨z,a,b⟩=>⟨z,.inr (.inr a),b⟩,h2.imp id fun ⟨z,a,b⟩=>⟨z,.inr (.inr a),b⟩⟩
theorem Lc.tq (h:Lc n s v pa ((t,q)::ps)):Tq n s v q t:=by
 obtain ⟨h1,h2,h3,h4,h5⟩:=h.head
 have hb:∀y∈t.ls,y<n:=fun y hy=>h.lt (p:=(t,q)) (by simp) hy
 have hq:∀y∈t.ls,(y:Int)≠q:=fun y hy=>h3.notin h.fst (fun z hz=>hb z (Qb2.1 hz)) y (Qb2.2 hy)
 refine ⟨h.vr,h1,h.nd,hb,h.wf,h.small,h4,h5,hq,?_⟩
 by_cases e:q=-1
 ·exact .inl e
 ·refine .inr fun y hy=>?_
  simp only at h4 h5
  have hg:q.toNat∈(((t,q)::ps).flatMap (fun p=>p.1.ls)):=h.perm.mem_iff.2 (List.mem_range.2 (by omega))
  obtain ⟨u,hu,hgu⟩:=List.mem_flatMap.1 hg
  rcases List.mem_cons.1 hu with rfl | hu
  ·exact absurd (by omega) (hq _ hgu)
  ·obtain ⟨c1,c2⟩:=Zah (h.rep u (by simp [hu])).1 hgu
   constructor
   ·rcases c1 with c | ⟨z,hz,c⟩
    ·omega
    ·rw [c];intro e';have e':z=y:=by omega
     subst e';exact h.apart hu hz hy
   ·rcases c2 with c | ⟨z,hz,c⟩
    ·omega
    ·rw [c];intro e';have e':z=y:=by omega
     subst e';exact h.apart hu hz hy
theorem Q6o {c:List Fr} {b:Bool} (k:Tq n s v q (plug c (.node l x b r))):Gq q s v (plug c (.node l x b r)) (pushS s x) (plug c (pushT l x b r)):=by
 obtain ⟨h1,h2⟩:=Q7v k.rep k.nd
 exact ⟨h1,Qxj c (Qqq l x b r),Q0p c (Q1e l x b r),h2⟩
theorem Zlx {s4:S} {f:Fr} {c:List Fr} (k:Tq n s v q (plug (f::c) (.node l x false r))) (hb:f.b=false) (RL:RotQ s s4 x f.p (par q c) (par (-1) c) (if f.d then r.rt else l.rt) f.d) :
  Gq q s v (plug (f::c) (.node l x false r)) (pullS (pullS s4 f.p) x) (plug c (rotT f l x r)):=by
 have hl:=k.len
 have:Rep (pullS (pullS s4 f.p) x) v q (plug c (rotT f l x r))∧∀y,y∉(plug (f::c) (.node l x false r)).ls→Eqv s (pullS (pullS s4 f.p) x) y:=by
  cases hd:f.d<;>rw [hd] at RL
  ·exact Q3v RL hd k.vr hb k.rep k.nd (by omega)
  ·exact Q47 RL hd k.vr hb k.rep k.nd (by omega)
 exact ⟨this.1,Qxj c (by rw [Qyo]),Q0p c (Q7o hb),this.2⟩
theorem Zi3 (h:Lc n s v pa ((pc tl y++[(.node l y false r,q)])++ps)):Lc n (pullS (s.Qa3 y tl.rt) y) v pa (((.node l y false tl,q)::pc r y)++ps):=by
 have hn:=h.nodup
 have hlenn:=h.perm.length_eq
 have hsm:=h.small
 rw [List.flatMap_append,List.flatMap_append,Zic] at hn hlenn
 simp only [List.flatMap_cons,List.flatMap_nil,List.append_nil,T.ls,List.length_append,List.length_cons,List.length_range] at hn hlenn
 have hk:=h.rep (.node l y false r,q) (by simp)
 obtain ⟨⟨hX,hL,hR⟩,_,hCh,hq0,hq1⟩:=hk
 simp only [T.seq,Bool.false_eq_true,if_false] at hCh
 obtain ⟨hC1,hC2⟩:=hCh.split
 have hT:Rep s v y tl∧Ch pa y tl.seq:=by
  by_cases e:tl=.nil
  ·subst e;exact ⟨trivial,trivial⟩
  ·have:=h.rep (tl,(y:Int)) (by simp [Zge e]);exact ⟨this.1,this.2.2.1⟩
 rw [List.nodup_append,List.nodup_append] at hn
 obtain ⟨⟨hn1,hn2,hn3⟩,_,_⟩:=hn
 simp only [List.nodup_append,List.nodup_cons] at hn2
 obtain ⟨ndl,⟨hyr,ndr⟩,dl⟩:=hn2
 have hyt:∀z∈tl.ls,z≠y:=fun z hz=>hn3 z hz y (by simp)
 have hyl:∀z∈l.ls,z≠y:=fun z hz=>dl z hz y (by simp)
 have hyr':∀z∈r.ls,z≠y:=fun z hz e=>hyr (e ▸ hz)
 have e6:∀z,z≠y→Eqv s (pullS (s.Qa3 y tl.rt) y) z:=fun z h1=>(Eqv.trans (b:=s.Qa3 y tl.rt) ⟨rfl,rfl,by simp [upd,h1],rfl,rfl,rfl,rfl,rfl,rfl⟩ (Qay _ y z h1))
 have RL:Rep (pullS (s.Qa3 y tl.rt) y) v y l:=hL.congr fun z hz=>e6 z (hyl z hz)
 have RR:Rep (pullS (s.Qa3 y tl.rt) y) v y r:=hR.congr fun z hz=>e6 z (hyr' z hz)
 have RT:Rep (pullS (s.Qa3 y tl.rt) y) v y tl:=hT.1.congr fun z hz=>e6 z (hyt z hz)
 have NX:Nd (pullS (s.Qa3 y tl.rt) y) v y q l false tl:=by
  refine Qhv h.vr hX.up hX.left (by simp [Qab]) hX.turned hX.value (fun z hz=>(hL.root hz).2.1.congr ⟨rfl,rfl,rfl,rfl,rfl,rfl⟩) (fun z hz=>(hT.1.root hz).2.1.congr ⟨rfl,rfl,rfl,rfl,rfl,rfl⟩) (fun e=>hyl y (Qaq e.symm) rfl) (fun e=>hyt y (Qaq e.symm) rfl) ?_
  simp only [List.length_append,List.length_cons];omega
 have hy:y<n:=h.lt (p:=(.node l y false r,q)) (by simp) (by simp [T.ls])
 refine Lc.make h ?_ ?_ (fun _ _=>rfl) ?_ h.fst
 ·intro p hp
  rcases List.mem_cons.1 hp with rfl | hp
  ·refine ⟨⟨NX,RL,RT⟩,by simp,?_,hq0,hq1⟩
   simp only [T.seq,Bool.false_eq_true,if_false]
   exact hC1.join hT.2
  ·obtain ⟨rfl,hne⟩:=Zf5 hp
   exact ⟨RR,hne,hC2,by simp only [];omega,by simp only [];omega⟩
 ·intro z hz
  refine e6 z (fun e=>hz ?_)
  rw [List.flatMap_append];simp [T.ls,e]
 ·rw [List.flatMap_cons,Zic,List.flatMap_append,Zic]
  simp only [List.flatMap_cons,List.flatMap_nil,List.append_nil,T.ls]
  have e1:(l.ls++y::tl.ls)++r.ls=l.ls++([y]++tl.ls++r.ls):=by simp
  have e2:tl.ls++(l.ls++y::r.ls)=tl.ls++(l.ls++[y])++r.ls:=by simp
  rw [e1,e2,←List.append_assoc]
  refine List.Perm.append_right _ ?_
  rw [←List.append_assoc]
  exact List.perm_append_comm
theorem Zi5 (h:Lc n s v pa ((.node l x false .nil,-1)::ps)):Lc n (s.Qa9 x (!(s.turned x))) v (ups pa (-1) (l.seq++[x]).reverse) ((.node l x true .nil,-1)::ps):=by
 obtain ⟨⟨hX,hL,hR⟩,_,hCh,_,hn1⟩:=h.head
 have htnd:=h.nd
 have hsq:(T.node l x false .nil).seq=l.seq++[x]:=by simp [T.seq]
 rw [hsq] at hCh
 simp only [T.ls,List.nodup_append,List.nodup_cons] at htnd
 obtain ⟨ndl,_,dl⟩:=htnd
 have e6:∀z,z≠x→Eqv s (s.Qa9 x (!(s.turned x))) z:=fun z h1=>⟨rfl,rfl,rfl,by simp [upd,h1],rfl,rfl,rfl,rfl,rfl⟩
 have hnd:=Qqy hCh
 have hb:∀z∈l.seq++[x],z<n:=fun z hz=>h.lt (p:=(.node l x false .nil,-1)) (by simp) (Qb2.1 (by rw [hsq];exact hz))
 have hh:∃r,(l.seq++[x]).head?=some r:=by cases l.seq<;>simp
 obtain ⟨r,hr⟩:=hh
 refine Lc.make (ps1:=[(.node l x false .nil,-1)]) (ps':=[(.node l x true .nil,-1)]) h ?_ ?_ ?_ (by simp [T.ls]) (h.fst.rev (a:=x) hCh hr (by simp) hb)
 ·intro p hp
  obtain rfl:=List.mem_singleton.1 hp
  refine ⟨⟨⟨hX.up,hX.left,hX.right,by simp [upd,hX.turned],hX.value,hX.agg.size,hX.agg.sum,hX.agg.least,hX.agg.most⟩,hL.congr fun z hz=>e6 z (fun e=>dl z hz x (by simp) e),trivial⟩,by simp,?_,by simp,hn1⟩
  have:(T.node l x true .nil).seq=(l.seq++[x]).reverse:=by simp [T.seq]
  rw [this]
  exact Q43 ((List.reverse_perm _).nodup_iff.2 hnd)
 ·intro z hz
  simp only [List.flatMap_cons,List.flatMap_nil,List.append_nil,T.ls,List.mem_append,List.mem_cons,not_or] at hz
  exact e6 z hz.2.1
 ·intro z hz
  refine Qwb fun hm=>hz ?_
  rw [List.mem_reverse,←hsq,Qb2] at hm
  simpa using hm
theorem Zi4 {rb:Nat} (h:Lc n s v pa ((.node .nil x false r,-1)::ps)) (hb:b<n) (k:Top pa b rb) (hne:rb≠x) :
  Lc n (s.w_up x b) v (fun z=>if z=x then (b:Int) else pa z) ((.node .nil x false r,b)::ps):=by
 obtain ⟨⟨hX,hL,hR⟩,_,hCh,_,_⟩:=h.head
 have htnd:=h.nd
 have hsq:(T.node .nil x false r).seq=x::r.seq:=by simp [T.seq]
 rw [hsq] at hCh
 simp only [T.ls,List.nil_append,List.nodup_cons] at htnd
 have e6:∀z,z≠x→Eqv s (s.w_up x b) z:=fun z h1=>⟨by simp [upd,h1],rfl,rfl,rfl,rfl,rfl,rfl,rfl,rfl⟩
 refine Lc.make (ps1:=[(.node .nil x false r,-1)]) (ps':=[(.node .nil x false r,b)]) h ?_ ?_ ?_ (by simp [T.ls]) (h.fst.link hCh.1 hb k hne)
 ·intro p hp
  obtain rfl:=List.mem_singleton.1 hp
  refine ⟨⟨⟨by simp [upd],hX.left,hX.right,hX.turned,hX.value,hX.agg.size,hX.agg.sum,hX.agg.least,hX.agg.most⟩,trivial,hR.congr fun z hz=>e6 z (fun e=>htnd.1 (e ▸ hz))⟩,by simp,?_,by simp only [];omega,by simp only [];omega⟩
  rw [hsq]
  refine ⟨by simp,hCh.2.congr fun z hz=>?_⟩
  have:z≠x:=fun e=>htnd.1 (e ▸ Qb2.1 hz)
  simp [this]
 ·intro z hz
  simp only [List.flatMap_cons,List.flatMap_nil,List.append_nil,T.ls,List.nil_append,List.mem_cons,not_or] at hz
  exact e6 z hz.1
 ·intro z hz
  simp only [List.flatMap_cons,List.flatMap_nil,List.append_nil,T.ls,List.nil_append,List.mem_cons,not_or] at hz
  simp [hz.1]
theorem Zlq (h:Lc n s v pa ((.node l x false r,-1)::ps)) (hl:l≠.nil):Lc n (pullS ((s.w_up l.rt.toNat (-1)).Qa5 x (-1)) x) v (fun z=>if z=x then (-1:Int) else pa z) ((l,-1)::(.node .nil x false r,-1)::ps):=by
 obtain ⟨⟨hX,hL,hR⟩,_,hCh,hq0,hq1⟩:=h.head
 have hlenn:=h.perm.length_eq
 have hsm:=h.small
 simp only [List.flatMap_cons,T.ls,List.length_append,List.length_cons,List.length_range] at hlenn
 obtain ⟨z0,hz0⟩:∃z:Nat,(z:Int)=l.rt:=by
  cases l with
  | nil=>exact absurd rfl hl
  | node a y b c=>exact ⟨y,rfl⟩
 have hzm:=Qaq hz0
 have htnd:=h.nd
 simp only [T.ls,List.nodup_append,List.nodup_cons] at htnd
 obtain ⟨ndl,⟨hxr,ndr⟩,dl⟩:=htnd
 have hzx:z0≠x:=fun e=>dl z0 hzm x (by simp) e
 have hzn:l.rt.toNat=z0:=by omega
 rw [hzn]
 have eu:∀z,((s.w_up z0 (-1)).Qa5 x (-1)).up z=if z=z0 then -1 else s.up z:=fun z=>by simp [upd]
 have el:∀z,((s.w_up z0 (-1)).Qa5 x (-1)).left z=if z=x then -1 else s.left z:=fun z=>by simp [upd]
 have e4:∀z,z≠x→z≠z0→Eqv s ((s.w_up z0 (-1)).Qa5 x (-1)) z:=fun z h1 h2=>⟨by rw [eu,if_neg h2],by rw [el,if_neg h1],rfl,rfl,rfl,rfl,rfl,rfl,rfl⟩
 have e6:∀z,z≠x→z≠z0→Eqv s (pullS ((s.w_up z0 (-1)).Qa5 x (-1)) x) z:=fun z h1 h2=>(e4 z h1 h2).trans (Qay _ x z h1)
 have RL:Rep (pullS ((s.w_up z0 (-1)).Qa5 x (-1)) x) v (-1) l:=by
  refine hL.Q1b (fun z hz hne=>e6 z (fun e=>dl z hz x (by simp) e) (by omega)) (fun z hz=>?_) ndl
  have hzz:z=z0:=by omega
  subst hzz
  have o:=Qay ((s.w_up z (-1)).Qa5 x (-1)) x z hzx
  exact ⟨⟨o.turned,o.size,o.value,o.sum,o.least,o.most⟩,by rw [o.left,el,if_neg hzx],o.right,by rw [o.up,eu,if_pos rfl]⟩
 have RR:Rep (pullS ((s.w_up z0 (-1)).Qa5 x (-1)) x) v x r:=hR.congr fun z hz=>e6 z (fun e=>hxr (e ▸ hz)) (fun e=>dl z0 hzm z0 (by simp [←e,hz]) rfl)
 have NX:Nd (pullS ((s.w_up z0 (-1)).Qa5 x (-1)) x) v x (-1) .nil false r:=by
  refine Qhv h.vr (by rw [eu,if_neg (Ne.symm hzx),hX.up]) (by rw [el,if_pos rfl];rfl) hX.right hX.turned hX.value (fun z hz=>by simp [T.rt] at hz) (fun z hz=>(hR.root hz).2.1.congr ⟨rfl,rfl,rfl,rfl,rfl,rfl⟩) (by simp [T.rt]) (fun e=>hxr (Qaq e.symm)) ?_
  simp only [T.ls,List.nil_append,List.length_cons];omega
 have hxn:x<n:=h.lt (p:=(.node l x false r,-1)) (by simp) (by simp [T.ls])
 simp only [T.seq,Bool.false_eq_true,if_false] at hCh
 obtain ⟨hC1,hC2⟩:=hCh.split
 have hC0:=(Ch.append.1 hCh).1
 refine Lc.make (ps1:=[(.node l x false r,-1)]) (ps':=[(l,-1),(.node .nil x false r,-1)]) h ?_ ?_ ?_ (by simp [T.ls]) (h.fst.cut hxn)
 ·intro p hp
  simp only [List.mem_cons,List.not_mem_nil,or_false] at hp
  rcases hp with rfl | rfl
  ·refine ⟨RL,hl,hC0.congr fun z hz=>?_,hq0,hq1⟩
   have:z≠x:=fun e=>dl z (Qb2.1 hz) x (by simp) e
   simp [this]
  ·refine ⟨⟨NX,trivial,RR⟩,by simp,?_,hq0,hq1⟩
   simp only [T.seq,Bool.false_eq_true,if_false,List.nil_append]
   refine ⟨by simp,hC2.congr fun z hz=>?_⟩
   have:z≠x:=fun e=>hxr (e ▸ Qb2.1 hz)
   simp [this]
 ·intro z hz
  simp only [List.flatMap_cons,List.flatMap_nil,List.append_nil,T.ls,List.mem_append,List.mem_cons,not_or] at hz
  exact e6 z hz.2.1 (fun e=>hz.1 (by rw [e];exact hzm))
 ·intro z hz
  simp only [List.flatMap_cons,List.flatMap_nil,List.append_nil,T.ls,List.mem_append,List.mem_cons,not_or] at hz
  simp [hz.2.1]
theorem Zlo (h:Lc n s v pa ((.node l x false r,q)::ps)) {z:Int} (hz:-9223372036854775808≤z∧z≤9223372036854775807):Lc n (pullS (s.Qbk x z) x) (upd v x z) pa ((.node l x false r,q)::ps):=by
 obtain ⟨⟨hX,hL,hR⟩,hk⟩:=h.head
 have hlenn:=h.perm.length_eq
 have hsm:=h.small
 simp only [List.flatMap_cons,T.ls,List.length_append,List.length_cons,List.length_range] at hlenn
 have htnd:=h.nd
 simp only [T.ls,List.nodup_append,List.nodup_cons] at htnd
 obtain ⟨ndl,⟨hxr,ndr⟩,dl⟩:=htnd
 have hvr:VR (upd v x z):=fun y=>by unfold upd;split;exact hz;exact h.vr y
 have e6:∀y,y≠x→Eqv s (pullS (s.Qbk x z) x) y:=fun y h1=>(Eqv.trans (b:=s.Qbk x z) ⟨rfl,rfl,rfl,rfl,rfl,by simp [upd,h1],rfl,rfl,rfl⟩ (Qay _ x y h1))
 have hvl:∀y∈l.ls,upd v x z y=v y:=fun y hy=>Qag _ _ (fun e=>dl y hy x (by simp) e)
 have hvr':∀y∈r.ls,upd v x z y=v y:=fun y hy=>Qag _ _ (fun e=>hxr (e ▸ hy))
 have NX:Nd (pullS (s.Qbk x z) x) (upd v x z) x q l false r:=by
  refine Qhv hvr hX.up hX.left hX.right hX.turned (by simp [Qab]) (fun y hy=>((hL.root hy).2.1.Qj7 hvl).congr ⟨rfl,rfl,?_,rfl,rfl,rfl⟩) (fun y hy=>((hR.root hy).2.1.Qj7 hvr').congr ⟨rfl,rfl,?_,rfl,rfl,rfl⟩) (fun e=>dl x (Qaq e.symm) x (by simp) rfl) (fun e=>hxr (Qaq e.symm)) ?_
  ·have:y≠x:=fun e=>dl y (Qaq hy) x (by simp) e
   simp [upd,this]
  ·have:y≠x:=fun e=>hxr (e ▸ Qaq hy)
   simp [upd,this]
  ·simp only [List.length_append,List.length_cons];omega
 refine ⟨hvr,?_,h.perm,h.small,h.fst⟩
 intro t' ht'
 rcases List.mem_cons.1 ht' with rfl | ht'
 ·exact ⟨⟨NX,(hL.Qj7 hvl).congr fun y hy=>e6 y (fun e=>dl y hy x (by simp) e),(hR.Qj7 hvr').congr fun y hy=>e6 y (fun e=>hxr (e ▸ hy))⟩,hk⟩
 ·have h1:=h.rep t' (by simp [ht'])
  have hne:∀y∈t'.1.ls,y≠x:=fun y hy e=>h.apart ht' hy (by rw [e];simp [T.ls])
  exact ⟨(h1.1.Qj7 fun y hy=>Qag _ _ (hne y hy)).congr fun y hy=>e6 y (hne y hy),h1.2⟩
end
end Cut
end Go.Proofs.YtfeekmmfdkfgmaaGreatDoor
