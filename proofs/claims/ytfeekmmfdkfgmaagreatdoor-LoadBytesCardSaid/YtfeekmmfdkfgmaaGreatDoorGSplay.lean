/-
Trees that are kept in records with links, and turned about: the plain mathematics.
Conditions: those that each theorem states.
-/
import Derived.Test.YtfeekmmfdkfgmaaGreatDoorSeqW
set_option linter.unusedVariables false
set_option linter.unusedSimpArgs false
namespace Go.Proofs.YtfeekmmfdkfgmaaGreatDoor
open Go
namespace Seq
inductive T where
 | nil
 | node (l:T) (x:Nat) (b:Bool) (r:T)
def T.ls:T→List Nat
 | .nil=>[]
 | .node l x _ r=>l.ls++x::r.ls
def T.seq:T→List Nat
 | .nil=>[]
 | .node l x b r=>if b then (l.seq++x::r.seq).reverse else l.seq++x::r.seq
def T.rt:T→Int
 | .nil=>-1
 | .node _ x _ _=>x
def T.flip:T→T
 | .nil=>.nil
 | .node l x b r=>.node l x (!b) r
theorem T.Zjg (t:T):t.flip.ls=t.ls:=by cases t<;>rfl
theorem T.Zb2 (t:T):t.flip.rt=t.rt:=by cases t<;>rfl
theorem T.Zey (t:T):t.flip.seq=t.seq.reverse:=by
 cases t with
 | nil=>rfl
 | node l x b r=>cases b<;>simp [T.flip,T.seq]
theorem T.Qb9 (t:T):t.seq.Perm t.ls:=by
 induction t with
 | nil=>exact List.Perm.refl _
 | node l x b r hl hr=>
  have h:(l.seq++x::r.seq).Perm (l.ls++x::r.ls):=hl.append (hr.cons x)
  cases b
  ·exact h
  ·exact (List.reverse_perm _).trans h
abbrev w64 (n:Int):Int:=IntKind.i64.wrap n
theorem Zfe (n:Int):w64 n=(n+9223372036854775808) % 18446744073709551616-9223372036854775808:=IntKind.wrap_i64 n
theorem Zff (n:Int):IntKind.i32.wrap n=(n+2147483648) % 4294967296-2147483648:=by
 simp [IntKind.wrap,IntKind.bits,IntKind.signed];omega
def IsMn (v:Nat→Int) (l:List Nat) (m:Int):Prop:=(∃y∈l,v y=m)∧∀y∈l,m≤v y
def IsMx (v:Nat→Int) (l:List Nat) (m:Int):Prop:=(∃y∈l,v y=m)∧∀y∈l,v y≤m
def vsum (v:Nat→Int) (l:List Nat):Int:=(l.map v).sum
theorem Q5y (v:Nat→Int) (a b:List Nat):vsum v (a++b)=vsum v a+vsum v b:=by simp [vsum]
theorem Q92 (v:Nat→Int) {a b:List Nat} (h:a.Perm b):vsum v a=vsum v b:=by
 unfold vsum
 induction h with
 | nil=>rfl
 | cons x _ ih=>simp [ih]
 | swap x y l=>simp;omega
 | trans _ _ h1 h2=>rw [h1,h2]
structure Agg (s:S) (v:Nat→Int) (x:Nat) (l:List Nat):Prop where
 size:s.size x=l.length
 sum:s.sum x=w64 (vsum v l)
 least:IsMn v l (s.least x)
 most:IsMx v l (s.most x)
theorem Agg.perm {s:S} {v:Nat→Int} {x:Nat} {l l':List Nat} (h:Agg s v x l) (p:l.Perm l'):Agg s v x l':=
 ⟨by rw [h.size,p.length_eq],by rw [h.sum,Q92 v p],
  ⟨let ⟨y,hy,e⟩:=h.least.1;⟨y,p.mem_iff.1 hy,e⟩,fun y hy=>h.least.2 y (p.mem_iff.2 hy)⟩,
  ⟨let ⟨y,hy,e⟩:=h.most.1;⟨y,p.mem_iff.1 hy,e⟩,fun y hy=>h.most.2 y (p.mem_iff.2 hy)⟩⟩
structure Eqv (s s':S) (y:Nat):Prop where
 up:s'.up y=s.up y
 left:s'.left y=s.left y
 right:s'.right y=s.right y
 turned:s'.turned y=s.turned y
 size:s'.size y=s.size y
 value:s'.value y=s.value y
 sum:s'.sum y=s.sum y
 least:s'.least y=s.least y
 most:s'.most y=s.most y
theorem Eqv.refl (s:S) (y:Nat):Eqv s s y:=⟨rfl,rfl,rfl,rfl,rfl,rfl,rfl,rfl,rfl⟩
theorem Eqv.trans {a b c:S} {y:Nat} (h:Eqv a b y) (k:Eqv b c y):Eqv a c y:=
 ⟨k.up.trans h.up,k.left.trans h.left,k.right.trans h.right,k.turned.trans h.turned,k.size.trans h.size,k.value.trans h.value,k.sum.trans h.sum,k.least.trans h.least,k.most.trans h.most⟩
structure EqA (s s':S) (y:Nat):Prop where
 turned:s'.turned y=s.turned y
 size:s'.size y=s.size y
 value:s'.value y=s.value y
 sum:s'.sum y=s.sum y
 least:s'.least y=s.least y
 most:s'.most y=s.most y
theorem Eqv.eqA {s s':S} {y:Nat} (h:Eqv s s' y):EqA s s' y:=⟨h.turned,h.size,h.value,h.sum,h.least,h.most⟩
theorem Agg.congr {s s':S} {v:Nat→Int} {x:Nat} {l:List Nat} (h:Agg s v x l) (e:EqA s s' x):Agg s' v x l:=
 ⟨by rw [e.size,h.size],by rw [e.sum,h.sum],by rw [e.least];exact h.least,by rw [e.most];exact h.most⟩
structure Nd (s:S) (v:Nat→Int) (x:Nat) (up:Int) (l:T) (b:Bool) (r:T):Prop where
 up:s.up x=up
 left:s.left x=l.rt
 right:s.right x=r.rt
 turned:s.turned x=b
 value:s.value x=v x
 agg:Agg s v x (l.ls++x::r.ls)
theorem Nd.congr {s s':S} {v:Nat→Int} {x:Nat} {up:Int} {l r:T} {b:Bool} (h:Nd s v x up l b r) (e:Eqv s s' x):Nd s' v x up l b r:=
 ⟨by rw [e.up,h.up],by rw [e.left,h.left],by rw [e.right,h.right],by rw [e.turned,h.turned],by rw [e.value,h.value],h.agg.congr e.eqA⟩
def Rep (s:S) (v:Nat→Int):Int→T→Prop
 | _,.nil=>True
 | p,.node l x b r=>Nd s v x p l b r∧Rep s v x l∧Rep s v x r
theorem Rep.congr {s s':S} {v:Nat→Int} {t:T}:∀{p:Int},(∀y∈t.ls,Eqv s s' y)→Rep s v p t→Rep s' v p t:=by
 induction t with
 | nil=>intro p _ _;trivial
 | node l x b r hl hr=>
  intro p he h
  exact ⟨h.1.congr (he x (by simp [T.ls])),hl (fun y hy=>he y (by simp [T.ls,hy])) h.2.1,hr (fun y hy=>he y (by simp [T.ls,hy])) h.2.2⟩
theorem Rep.Q1b {s s':S} {v:Nat→Int} {t:T} {p q:Int} (h:Rep s v p t) (he:∀y∈t.ls,(y:Int)≠t.rt→Eqv s s' y)
  (ha:∀y:Nat,(y:Int)=t.rt→EqA s s' y∧s'.left y=s.left y∧s'.right y=s.right y∧s'.up y=q) (hn:t.ls.Nodup):Rep s' v q t:=by
 cases t with
 | nil=>trivial
 | node l x b r=>
  obtain ⟨hN,hl,hr⟩:=h
  obtain ⟨e,e1,e2,e3⟩:=ha x rfl
  simp only [T.ls] at hn
  rw [List.nodup_append] at hn
  obtain ⟨hn1,hn2,hn3⟩:=hn
  rw [List.nodup_cons] at hn2
  refine ⟨⟨e3,by rw [e1,hN.left],by rw [e2,hN.right],by rw [e.turned,hN.turned],by rw [e.value,hN.value],hN.agg.congr e⟩,?_,?_⟩
  ·refine hl.congr fun y hy=>he y (by simp [T.ls,hy]) ?_
   have:=hn3 y hy x (by simp)
   simp only [T.rt];omega
  ·refine hr.congr fun y hy=>he y (by simp [T.ls,hy]) ?_
   have:y≠x:=fun e=>hn2.1 (e ▸ hy)
   simp only [T.rt];omega
theorem Rep.root {s:S} {v:Nat→Int} {t:T} {p:Int} (h:Rep s v p t) {y:Nat} (hy:(y:Int)=t.rt):s.up y=p∧Agg s v y t.ls∧s.value y=v y:=by
 cases t with
 | nil=>simp [T.rt] at hy
 | node l x b r=>
  simp only [T.rt] at hy
  have e:y=x:=by omega
  subst e
  exact ⟨h.1.up,h.1.agg,h.1.value⟩
structure Fr where
 d:Bool
 p:Nat
 b:Bool
 sib:T
def Fr.fill (f:Fr) (u:T):T:=if f.d then .node u f.p f.b f.sib else .node f.sib f.p f.b u
def plug:List Fr→T→T
 | [],u=>u
 | f::c,u=>plug c (f.fill u)
def par (top:Int):List Fr→Int
 | []=>top
 | f::_=>f.p
def NdF (s:S) (v:Nat→Int) (f:Fr) (up:Int) (u:T):Prop:=if f.d then Nd s v f.p up u f.b f.sib else Nd s v f.p up f.sib f.b u
def RepC (s:S) (v:Nat→Int) (top:Int):List Fr→T→Prop
 | [],_=>True
 | f::c,u=>NdF s v f (par top c) u∧Rep s v f.p f.sib∧RepC s v top c (f.fill u)
theorem Zd3 {s:S} {v:Nat→Int} {q:Int} {f:Fr} {u:T}:Rep s v q (f.fill u)↔NdF s v f q u∧Rep s v f.p f.sib∧Rep s v f.p u:=by
 unfold NdF Fr.fill
 cases f.d<;>simp only [if_true,Bool.false_eq_true,if_false,Rep]
 constructor
 ·exact fun ⟨a,b,c⟩=>⟨a,c,b⟩
 ·exact fun ⟨a,b,c⟩=>⟨a,c,b⟩
theorem Qda {s:S} {v:Nat→Int} {top:Int} (c:List Fr):∀u,Rep s v top (plug c u)↔Rep s v (par top c) u∧RepC s v top c u:=by
 induction c with
 | nil=>intro u;exact ⟨fun h=>⟨h,trivial⟩,fun h=>h.1⟩
 | cons f c ih=>
  intro u
  show Rep s v top (plug c (f.fill u))↔Rep s v f.p u∧(NdF s v f (par top c) u∧Rep s v f.p f.sib∧RepC s v top c (f.fill u))
  rw [ih,Zd3]
  constructor
  ·exact fun ⟨⟨a,b,c⟩,d⟩=>⟨c,a,b,d⟩
  ·exact fun ⟨c,a,b,d⟩=>⟨⟨a,b,c⟩,d⟩
def cls:List Fr→List Nat
 | []=>[]
 | f::c=>f.p::(f.sib.ls++cls c)
theorem Zjh (f:Fr) (u:T):(f.fill u).ls.Perm (u.ls++f.p::f.sib.ls):=by
 unfold Fr.fill
 cases f.d<;>simp only [if_true,Bool.false_eq_true,if_false,T.ls]
 ·refine List.perm_append_comm.trans ?_
  rw [List.cons_append]
  exact (List.perm_middle (l₁:=u.ls) (l₂:=f.sib.ls) (a:=f.p)).symm
 ·exact List.Perm.refl _
theorem Qcv (c:List Fr):∀u,(plug c u).ls.Perm (u.ls++cls c):=by
 induction c with
 | nil=>intro u;simp [plug,cls]
 | cons f c ih=>
  intro u
  refine (ih (f.fill u)).trans ?_
  refine ((Zjh f u).append_right _).trans ?_
  simp [cls]
theorem Qep (f:Fr) (u:T):(f.fill u).rt=f.p:=by unfold Fr.fill;cases f.d<;>rfl
theorem Qp7 (f:Fr) {u u':T} (h:u.ls.Perm u'.ls):(f.fill u).ls.Perm (f.fill u').ls:=by
 unfold Fr.fill
 cases f.d<;>simp only [if_true,Bool.false_eq_true,if_false,T.ls]
 ·exact (h.cons _).append_left _
 ·exact h.append_right _
theorem NdF.congr {s s':S} {v:Nat→Int} {f:Fr} {up:Int} {u u':T} (h:NdF s v f up u) (e:Eqv s s' f.p) (hr:u'.rt=u.rt) (hp:u.ls.Perm u'.ls):NdF s' v f up u':=by
 unfold NdF at *
 cases hd:f.d<;>simp only [hd,if_true,Bool.false_eq_true,if_false] at h ⊢
 ·have:=h.congr e
  exact ⟨this.up,this.left,by rw [this.right,hr],this.turned,this.value,this.agg.perm ((hp.cons _).append_left _)⟩
 ·have:=h.congr e
  exact ⟨this.up,by rw [this.left,hr],this.right,this.turned,this.value,this.agg.perm (hp.append_right _)⟩
theorem RepC.congr {s s':S} {v:Nat→Int} {top:Int} (c:List Fr):∀{u u':T},(∀y∈cls c,Eqv s s' y)→u'.rt=u.rt→u.ls.Perm u'.ls→RepC s v top c u→RepC s' v top c u':=by
 induction c with
 | nil=>intro u u' _ _ _ _;trivial
 | cons f c ih=>
  intro u u' he hr hp h
  refine ⟨h.1.congr (he _ (by simp [cls])) hr hp,h.2.1.congr fun y hy=>he y (by simp [cls,hy]),ih (fun y hy=>he y (by simp [cls,hy])) (by rw [Qep,Qep]) (Qp7 f hp) h.2.2⟩
structure EqL (s s':S):Prop where
 up:s'.up=s.up
 left:s'.left=s.left
 right:s'.right=s.right
 turned:s'.turned=s.turned
 value:s'.value=s.value
theorem Qzh (s:S) (x:Nat) (c:Int) (y:Nat) (h:y≠x):Eqv s (addC s x c) y:=by
 unfold addC
 constructor<;>split<;>simp [Qag _ _ h]
theorem Qyq (s:S) (x y:Nat) (h:y≠x):Eqv s (ownS s x) y:=by
 unfold ownS
 constructor<;>simp [Qag _ _ h]
theorem Qay (s:S) (x y:Nat) (h:y≠x):Eqv s (pullS s x) y:=by
 have hx:(x:Int).toNat=x:=by omega
 unfold pullS
 rw [hx]
 exact ((Qyq s x y h).trans (Qzh _ x _ y h)).trans (Qzh _ x _ y h)
theorem Q9d (s:S) (x:Int):EqL s (pullS s x):=by
 obtain ⟨a,b,c,d,e⟩:=Qlv s x
 exact ⟨a,b,c,d,e⟩
def VR (v:Nat→Int):Prop:=∀x,-9223372036854775808≤v x∧v x≤9223372036854775807
theorem Zj0 {s:S} {v:Nat→Int} {x y:Nat} {l k:List Nat} (h:Agg s v x l) (hy:Agg s v y k) (hn:l.length+k.length≤1073741824):Agg (addC s x y) v x (l++k):=by
 have hne:¬((y:Int)=-1):=by omega
 have hyn:(y:Int).toNat=y:=by omega
 rw [addC,if_neg hne,hyn]
 obtain ⟨a1,a2,a3,a4⟩:=h
 obtain ⟨b1,b2,b3,b4⟩:=hy
 constructor
 ·simp only [S.Q57,S.Q46,S.Q9b,S.Q56,Qab,a1,b1,Zff,List.length_append]
  omega
 ·simp only [S.Q88,S.Q51,S.Q97,Qab,a2,b2,Q5y,Zfe]
  omega
 ·simp only [S.Q5c,S.Q4d,Qab]
  constructor
  ·split
   ·obtain ⟨z,hz,e⟩:=b3.1;exact ⟨z,by simp [hz],e⟩
   ·obtain ⟨z,hz,e⟩:=a3.1;exact ⟨z,by simp [hz],e⟩
  ·intro z hz
   rcases List.mem_append.1 hz with hz | hz
   ·have:=a3.2 z hz;split<;>omega
   ·have:=b3.2 z hz;split<;>omega
 ·simp only [S.Q6i,Qab]
  constructor
  ·split
   ·obtain ⟨z,hz,e⟩:=b4.1;exact ⟨z,by simp [hz],e⟩
   ·obtain ⟨z,hz,e⟩:=a4.1;exact ⟨z,by simp [hz],e⟩
  ·intro z hz
   rcases List.mem_append.1 hz with hz | hz
   ·have:=a4.2 z hz;split<;>omega
   ·have:=b4.2 z hz;split<;>omega
theorem Q80 {s:S} {v:Nat→Int} {x:Nat} {c:Int} {l:List Nat} {t:T} (h:Agg s v x l) (hc:c=t.rt) (ht:∀y:Nat,(y:Int)=t.rt→Agg s v y t.ls)
  (hn:l.length+t.ls.length≤1073741824):Agg (addC s x c) v x (l++t.ls):=by
 subst hc
 cases t with
 | nil=>simpa [addC,T.rt,T.ls] using h
 | node tl y b tr=>exact Zj0 h (ht y rfl) hn
theorem Qhv {s:S} {v:Nat→Int} {x:Nat} {up:Int} {l r:T} {b:Bool} (hv:VR v) (h1:s.up x=up) (h2:s.left x=l.rt) (h3:s.right x=r.rt) (h4:s.turned x=b) (h5:s.value x=v x)
  (hl:∀y:Nat,(y:Int)=l.rt→Agg s v y l.ls) (hr:∀y:Nat,(y:Int)=r.rt→Agg s v y r.ls) (hlx:l.rt≠(x:Int)) (hrx:r.rt≠(x:Int))
  (hn:(l.ls++x::r.ls).length≤1073741824):Nd (pullS s x) v x up l b r:=by
 have hx:(x:Int).toNat=x:=by omega
 obtain ⟨e1,e2,e3,e4,e5⟩:=Q9d s x
 refine ⟨by rw [e1,h1],by rw [e2,h2],by rw [e3,h3],by rw [e4,h4],by rw [e5,h5],?_⟩
 have hvx:=hv x
 have h0:Agg (ownS s x) v x [x]:=by
  refine ⟨by simp [ownS,Qab],?_,⟨⟨x,by simp,by simp [ownS,Qab,h5]⟩,fun y hy=>by simp at hy;subst hy;simp [ownS,Qab,h5]⟩,⟨⟨x,by simp,by simp [ownS,Qab,h5]⟩,fun y hy=>by simp at hy;subst hy;simp [ownS,Qab,h5]⟩⟩
  simp [ownS,Qab,h5,vsum,Zfe];omega
 have hn':l.ls.length+r.ls.length+1≤1073741824:=by simp at hn;omega
 have hA:Agg (addC (ownS s x) x (s.left x)) v x ([x]++l.ls):=Q80 h0 h2 (fun y hy=>(hl y hy).congr (Qyq s x y (fun e=>hlx (by rw [←hy,e]))).eqA) (by simp;omega)
 have hB:Agg (addC (addC (ownS s x) x (s.left x)) x (s.right x)) v x (([x]++l.ls)++r.ls):=
  Q80 hA h3 (fun y hy=>(hr y hy).congr ((Qyq s x y (fun e=>hrx (by rw [←hy,e]))).trans (Qzh _ x _ y (fun e=>hrx (by rw [←hy,e])))).eqA) (by simp;omega)
 unfold pullS
 rw [hx]
 refine hB.perm ?_
 simp only [List.singleton_append,List.cons_append]
 exact List.perm_middle.symm
theorem Q1q (s:S) (c x:Int) (b:Bool) (y:Nat):(hangS s c x b).up y=if c≠-1∧y=c.toNat then x else s.up y:=by
 unfold hangS;cases b<;>simp only [if_true,Bool.false_eq_true,if_false]<;>by_cases h:c=-1<;>simp [h,upd]
theorem Qly (s:S) (c x:Int) (b:Bool) (y:Nat):(hangS s c x b).left y=if b=true∧y=x.toNat then c else s.left y:=by
 unfold hangS;cases b<;>simp only [if_true,Bool.false_eq_true,if_false]<;>split<;>simp [upd]
theorem Qp2 (s:S) (c x:Int) (b:Bool) (y:Nat):(hangS s c x b).right y=if b=false∧y=x.toNat then c else s.right y:=by
 unfold hangS;cases b<;>simp only [if_true,Bool.false_eq_true,if_false]<;>split<;>simp [upd]
theorem Qe9 (s:S) (c x:Int) (b:Bool) (y:Nat):EqA s (hangS s c x b) y:=by
 unfold hangS;cases b<;>simp only [if_true,Bool.false_eq_true,if_false]<;>split<;>constructor<;>simp
structure RotL (s s4:S) (x p:Nat) (g B:Int) (d:Bool):Prop where
 rest:∀y,EqA s s4 y
 up:∀y,s4.up y=if y=x then g else if y=p then (x:Int) else if B≠-1∧y=B.toNat then (p:Int) else s.up y
 left:∀y,s4.left y=if g≠-1∧y=g.toNat∧s.left g.toNat=p then (x:Int) else if d=true∧y=p then B else if d=false∧y=x then (p:Int) else s.left y
 right:∀y,s4.right y=if g≠-1∧y=g.toNat∧s.left g.toNat≠p then (x:Int) else if d=false∧y=p then B else if d=true∧y=x then (p:Int) else s.right y
theorem Q2y {s:S} {x p:Nat} {g B:Int} {d:Bool} (hp:s.up x=p) (hg:s.up p=g) (hd:(s.left p==(x:Int))=d) (hB:(if d then s.right x else s.left x)=B)
  (hxp:x≠p) (hgp:g≠p) (hgx:g≠x) (hg0:-1≤g) (hB0:-1≤B) (hBx:B≠x) (hBp:B≠p):∃s4,RotL s s4 x p g B d∧rotS s x=pullS (pullS s4 p) x:=by
 have hx:(x:Int).toNat=x:=by omega
 have hpn:(p:Int).toNat=p:=by omega
 have hx1:(x:Int)≠-1:=by omega
 have hp1:(p:Int)≠-1:=by omega
 refine ⟨_,?_,by simp only [rotS];rw [hx,hp,hpn,hg]⟩
 rw [hd]
 cases d
 ·simp only [Bool.false_eq_true,if_false] at hB ⊢
  rw [hB]
  have ha:(hangS s B p false).left g.toNat=s.left g.toNat:=by rw [Qly];simp
  rw [ha]
  by_cases hg1:g=-1
  ·subst hg1
   simp only [if_true]
   refine ⟨fun y=>?_,fun y=>?_,fun y=>?_,fun y=>?_⟩
   ·have h1:=Qe9 s B p false y
    have h2:=Qe9 (hangS s B p false) p x (!false) y
    exact ⟨by simpa using h2.turned.trans h1.turned,by simpa using h2.size.trans h1.size,by simpa using h2.value.trans h1.value,by simpa using h2.sum.trans h1.sum,by simpa using h2.least.trans h1.least,by simpa using h2.most.trans h1.most⟩
   ·simp only [S.Q3j,Q1q,upd,hpn]
    by_cases e1:y=x
    ·simp [e1,hx]
    ·by_cases e2:y=p<;>simp [e1,e2,hx,hp1]
   ·simp only [S.Qxo,Qly,hx,hpn]
    by_cases e1:y=x<;>simp [e1]
   ·simp only [S.Quv,Qp2,hx,hpn]
    by_cases e1:y=p<;>simp [e1]
  ·simp only [if_neg hg1]
   have hgt:(g != -1)=true:=by simpa using hg1
   rw [hgt,Bool.true_and]
   have hgx':g.toNat≠x:=by omega
   have hgp':g.toNat≠p:=by omega
   refine ⟨fun y=>?_,fun y=>?_,fun y=>?_,fun y=>?_⟩
   ·have h1:=Qe9 s B p false y
    have h2:=Qe9 (hangS s B p false) p x (!false) y
    have h3:=Qe9 ((hangS (hangS s B p false) p x (!false)).w_up x g) x g (s.left g.toNat==p) y
    exact ⟨by simpa using h3.turned.trans (h2.turned.trans h1.turned),by simpa using h3.size.trans (h2.size.trans h1.size),by simpa using h3.value.trans (h2.value.trans h1.value),by simpa using h3.sum.trans (h2.sum.trans h1.sum),by simpa using h3.least.trans (h2.least.trans h1.least),by simpa using h3.most.trans (h2.most.trans h1.most)⟩
   ·simp only [Q1q,S.Q3j,upd,hpn,hx]
    by_cases e1:y=x
    ·simp [e1,hx1]
    ·by_cases e2:y=p<;>simp [e1,e2,hp1,hxp,Ne.symm hxp]
   ·simp only [Qly,S.Qxo,hx,hpn]
    by_cases e1:y=g.toNat
    ·subst e1;by_cases e2:s.left g.toNat=p<;>simp [hg1,e2,hgx',hgp']
    ·by_cases e2:y=x<;>simp [e1,e2,hg1,Ne.symm hgx',Ne.symm hgp']
   ·simp only [Qp2,S.Quv,hx,hpn]
    by_cases e1:y=g.toNat
    ·subst e1;by_cases e2:s.left g.toNat=p<;>simp [hg1,e2,hgx',hgp']
    ·by_cases e2:y=p<;>simp [e1,e2,hg1,Ne.symm hgx',Ne.symm hgp']
 ·simp only [if_true] at hB ⊢
  rw [hB]
  have ha:(hangS s B p true).left g.toNat=s.left g.toNat∨g=-1:=by
   by_cases h:g=-1
   ·exact .inr h
   ·left;rw [Qly];simp;intro h';omega
  by_cases hg1:g=-1
  ·subst hg1
   simp only [if_true]
   refine ⟨fun y=>?_,fun y=>?_,fun y=>?_,fun y=>?_⟩
   ·have h1:=Qe9 s B p true y
    have h2:=Qe9 (hangS s B p true) p x (!true) y
    exact ⟨by simpa using h2.turned.trans h1.turned,by simpa using h2.size.trans h1.size,by simpa using h2.value.trans h1.value,by simpa using h2.sum.trans h1.sum,by simpa using h2.least.trans h1.least,by simpa using h2.most.trans h1.most⟩
   ·simp only [S.Q3j,Q1q,upd,hpn]
    by_cases e1:y=x
    ·simp [e1,hx]
    ·by_cases e2:y=p<;>simp [e1,e2,hx,hp1]
   ·simp only [S.Qxo,Qly,hx,hpn]
    by_cases e1:y=p<;>simp [e1]
   ·simp only [S.Quv,Qp2,hx,hpn]
    by_cases e1:y=x<;>simp [e1]
  ·simp only [if_neg hg1]
   have hgt:(g != -1)=true:=by simpa using hg1
   rw [hgt,Bool.true_and,ha.resolve_right hg1]
   have hgx':g.toNat≠x:=by omega
   have hgp':g.toNat≠p:=by omega
   refine ⟨fun y=>?_,fun y=>?_,fun y=>?_,fun y=>?_⟩
   ·have h1:=Qe9 s B p true y
    have h2:=Qe9 (hangS s B p true) p x (!true) y
    have h3:=Qe9 ((hangS (hangS s B p true) p x (!true)).w_up x g) x g (s.left g.toNat==p) y
    exact ⟨by simpa using h3.turned.trans (h2.turned.trans h1.turned),by simpa using h3.size.trans (h2.size.trans h1.size),by simpa using h3.value.trans (h2.value.trans h1.value),by simpa using h3.sum.trans (h2.sum.trans h1.sum),by simpa using h3.least.trans (h2.least.trans h1.least),by simpa using h3.most.trans (h2.most.trans h1.most)⟩
   ·simp only [Q1q,S.Q3j,upd,hpn,hx]
    by_cases e1:y=x
    ·simp [e1,hx1]
    ·by_cases e2:y=p<;>simp [e1,e2,hp1,hxp,Ne.symm hxp]
   ·simp only [Qly,S.Qxo,hx,hpn]
    by_cases e1:y=g.toNat
    ·subst e1;by_cases e2:s.left g.toNat=p<;>simp [hg1,e2,hgx',hgp']
    ·by_cases e2:y=p<;>simp [e1,e2,hg1,Ne.symm hgx',Ne.symm hgp']
   ·simp only [Qp2,S.Quv,hx,hpn]
    by_cases e1:y=g.toNat
    ·subst e1;by_cases e2:s.left g.toNat=p<;>simp [hg1,e2,hgx',hgp']
    ·by_cases e2:y=x<;>simp [e1,e2,hg1,Ne.symm hgx',Ne.symm hgp']
def rotT (f:Fr) (l:T) (x:Nat) (r:T):T:=
 if f.d then .node l x false (.node r f.p false f.sib) else .node (.node f.sib f.p false l) x false r
theorem Qyo {f:Fr} {l r:T} {x:Nat}:(rotT f l x r).ls=(f.fill (.node l x false r)).ls:=by
 unfold rotT Fr.fill;cases f.d<;>simp [T.ls]
theorem Q7o {f:Fr} {l r:T} {x:Nat} (hb:f.b=false):(rotT f l x r).seq=(f.fill (.node l x false r)).seq:=by
 unfold rotT Fr.fill;cases f.d<;>simp [T.seq,hb]
theorem Q3w (f:Fr) (l r:T) (x:Nat):(rotT f l x r).rt=x:=by unfold rotT;cases f.d<;>rfl
theorem Qaq {t:T} {y:Nat} (h:(y:Int)=t.rt):y∈t.ls:=by
 cases t with
 | nil=>simp [T.rt] at h
 | node l x b r => simp only [T.rt] at h; have e : y = x := by omega
                   subst e;simp [T.ls]
theorem Qcl (t:T):t.rt=-1∨∃y:Nat,t.rt=y∧y∈t.ls:=by
 cases t with
 | nil=>exact .inl rfl
 | node l x b r=>exact .inr ⟨x,rfl,by simp [T.ls]⟩
theorem Qdd (top:Int) (c:List Fr):par top c=top∨∃g:Nat,par top c=g∧g∈cls c:=by
 cases c with
 | nil=>exact .inl rfl
 | cons f c=>exact .inr ⟨f.p,rfl,by simp [cls]⟩
theorem NdF.child {s s':S} {v:Nat→Int} {f:Fr} {up:Int} {u u':T} {x p:Nat} (h:NdF s v f up u) (hrt:u.rt=p) (hrt':u'.rt=x) (hls:u.ls.Perm u'.ls) (he:EqA s s' f.p) (hup:s'.up f.p=s.up f.p)
  (hl:s'.left f.p=if s.left f.p=p then (x:Int) else s.left f.p) (hr:s'.right f.p=if s.left f.p≠p then (x:Int) else s.right f.p) (hsib:f.sib.rt≠p):NdF s' v f up u':=by
 unfold NdF at *
 cases hd:f.d<;>simp only [hd,if_true,Bool.false_eq_true,if_false] at h ⊢
 ·have h1:s.left f.p≠p:=by rw [h.left];exact hsib
  rw [if_neg h1] at hl
  rw [if_pos h1] at hr
  exact ⟨by rw [hup,h.up],by rw [hl,h.left],by rw [hr,hrt'],by rw [he.turned,h.turned],by rw [he.value,h.value],(h.agg.congr he).perm ((hls.cons _).append_left _)⟩
 ·have h1:s.left f.p=p:=by rw [h.left];exact hrt
  rw [if_pos h1] at hl
  rw [if_neg (by simpa using h1)] at hr
  exact ⟨by rw [hup,h.up],by rw [hl,hrt'],by rw [hr,h.right],by rw [he.turned,h.turned],by rw [he.value,h.value],(h.agg.congr he).perm (hls.append_right _)⟩
end Seq
end Go.Proofs.YtfeekmmfdkfgmaaGreatDoor
