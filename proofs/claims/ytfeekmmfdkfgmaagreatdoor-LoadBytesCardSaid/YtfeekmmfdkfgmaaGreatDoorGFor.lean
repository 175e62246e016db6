/-
The Qct of layer 4 as a list of trees; the inner calls over it.
Conditions: those that each theorem states.
-/
import Derived.Test.YtfeekmmfdkfgmaaGreatDoorGLift
set_option linter.unusedVariables false
set_option linter.unusedSimpArgs false
namespace Go.Proofs.YtfeekmmfdkfgmaaGreatDoor
open Go
def errV (c:Int):Value:=if c=0 then .nilIface else .iface 103 (.int .i64 c)
theorem Qbu (c:Int):isI (errV c):=by unfold errV isI;split;exact .inl rfl;exact .inr ⟨_,_,rfl⟩
theorem Qb4 (c:Int):nilI (errV c)=decide (c=0):=by unfold errV;split<;>simp_all [nilI]
theorem Zca {c:Int} (h:c≠0):errV c=.iface 103 (.int .i64 c):=by simp [errV,h]
theorem wrap32_in {x:Int} (h0:-2147483648≤x) (h1:x≤2147483647):IntKind.i32.wrap x=x:=by rw [Seq.Zff];omega
theorem wrap64_in {x:Int} (h0:-9223372036854775808≤x) (h1:x≤9223372036854775807):IntKind.i64.wrap x=x:=by rw [IntKind.wrap_i64];omega
namespace Seq
structure Fo (n:Nat) (s:S) (v:Nat→Int) (ts:List T):Prop where
 vr:VR v
 rep:∀t∈ts,Rep s v (-1) t∧t≠.nil
 perm:(ts.flatMap T.ls).Perm (List.range n)
 small:n≤8388608
section
variable {n:Nat} {s s':S} {v:Nat→Int} {t t':T} {ts ts':List T} {x:Nat}
theorem Fo.reorder (h:Fo n s v ts) (p:ts.Perm ts'):Fo n s v ts':=
 ⟨h.vr,fun t ht=>h.rep t (p.mem_iff.2 ht),(p.symm.flatMap_right _).trans h.perm,h.small⟩
theorem Fo.split (h:Fo n s v ts) (hx:x<n):∃t ts',ts.Perm (t::ts')∧x∈t.ls:=by
 have:x∈ts.flatMap T.ls:=h.perm.mem_iff.2 (List.mem_range.2 hx)
 obtain ⟨t,ht,hxt⟩:=List.mem_flatMap.1 this
 obtain ⟨a,c,rfl⟩:=List.append_of_mem ht
 exact ⟨t,a++c,List.perm_middle,hxt⟩
theorem Fo.nodup (h:Fo n s v ts):(ts.flatMap T.ls).Nodup:=h.perm.nodup_iff.2 List.nodup_range
theorem Fo.lt (h:Fo n s v ts) (ht:t∈ts) (hx:x∈t.ls):x<n:=List.mem_range.1 (h.perm.mem_iff.1 (List.mem_flatMap.2 ⟨t,ht,hx⟩))
theorem Fo.wf (h:Fo n s v ts):Wf n s:=by
 intro i hi
 have:i∈ts.flatMap T.ls:=h.perm.mem_iff.2 (List.mem_range.2 hi)
 obtain ⟨t,ht,hit⟩:=List.mem_flatMap.1 this
 exact (h.rep t ht).1.links (by omega) (by omega) (fun y hy=>h.lt ht hy) i hit
theorem Fo.tr (h:Fo n s v (t::ts)):Tr n s v t:=by
 have hn:=h.nodup
 rw [List.flatMap_cons,List.nodup_append] at hn
 exact ⟨h.vr,(h.rep t (by simp)).1,hn.1,fun y hy=>h.lt (by simp) hy,h.wf,h.small⟩
theorem Fo.apart (h:Fo n s v (t::ts)) (ht:t'∈ts) (hx:x∈t'.ls):x∉t.ls:=by
 have hn:=h.nodup
 rw [List.flatMap_cons,List.nodup_append] at hn
 exact fun hxt=>hn.2.2 x hxt x (List.mem_flatMap.2 ⟨t',ht,hx⟩) rfl
theorem Fo.gd (h:Fo n s v (t::ts)) (g:Gd s v t s' t'):Fo n s' v (t'::ts):=by
 refine ⟨h.vr,?_,?_,h.small⟩
 ·intro u hu
  rcases List.mem_cons.1 hu with rfl | hu
  ·refine ⟨g.rep,fun e=>?_⟩
   have h1:=(h.rep t (by simp)).2
   have h2:=g.perm.length_eq
   rw [e] at h2
   cases t with
   | nil=>exact h1 rfl
   | node=>simp [T.ls] at h2
  ·have h1:=h.rep u (by simp [hu])
   exact ⟨h1.1.congr fun y hy=>g.other y (h.apart hu hy),h1.2⟩
 ·rw [List.flatMap_cons]
  refine (g.perm.symm.append_right _).trans ?_
  have:=h.perm
  rwa [List.flatMap_cons] at this
theorem Q1a {t:T} (h:t.seq=[]):t=.nil:=by
 have:=t.Qb9.length_eq
 rw [h] at this
 cases t with
 | nil=>rfl
 | node=>simp [T.ls] at this
theorem Qb2 {t:T}:x∈t.seq↔x∈t.ls:=t.Qb9.mem_iff
theorem Qzg {w:World} {F L:Nat} (h:IsF w.heap F L n s) (k:Fo n s v (t::ts)) (hx:x∈t.ls) :
  Calls Pg 296 #[.pointer (some ⟨F,0,none⟩),.int .i32 x] w fun e w'=>e=.returned (.tuple #[])∧∃s' l r,St w w' F L n s'∧Fo n s' v (.node l x false r::ts)∧(T.node l x false r).seq=t.seq:=
 (Q5o h k.tr hx).mono fun e w' ⟨he,s',l,r,hst,hg⟩=>⟨he,s',l,r,hst,k.gd hg,hg.seq⟩
def Side (d:Bool) (c:List Fr):Prop:=∀f∈c,f.d=d∧f.b=false
theorem Q9c (c:List Fr) (h:Side true c):∀(u:T) (y:Nat) (q:List Nat),u.seq=y::q→∃q',(plug c u).seq=y::q':=by
 induction c with
 | nil=>intro u y q hu;exact ⟨q,hu⟩
 | cons f c ih=>
  intro u y q hu
  have hf:=h f (by simp)
  refine ih (fun f hf=>h f (by simp [hf])) (f.fill u) y (q++f.p::f.sib.seq) ?_
  unfold Fr.fill
  rw [hf.1]
  simp [T.seq,hf.2,hu]
theorem Zaa (c:List Fr) (h:Side false c):∀(u:T) (y:Nat) (q:List Nat),u.seq=q++[y]→∃q',(plug c u).seq=q'++[y]:=by
 induction c with
 | nil=>intro u y q hu;exact ⟨q,hu⟩
 | cons f c ih=>
  intro u y q hu
  have hf:=h f (by simp)
  refine ih (fun f hf=>h f (by simp [hf])) (f.fill u) y (f.sib.seq++f.p::q) ?_
  unfold Fr.fill
  rw [hf.1]
  simp [T.seq,hf.2,hu]
theorem Zm4 {w:World} {F L:Nat} {first:Bool} (h:IsF w.heap F L n s) (k:Fo n s v (t::ts)) (hx:x∈t.ls) :
  Calls Pg 295 #[.pointer (some ⟨F,0,none⟩),.int .i32 x,.bool first] w fun e w'=>∃y:Nat,e=.returned (.int .i32 y)∧∃s' l r,St w w' F L n s'∧Fo n s' v (.node l y false r::ts)∧
   (T.node l y false r).seq=t.seq∧(if first then l=.nil else r=.nil):=by
 have hxn:=k.lt (by simp) hx
 refine (Qu7 _ _ _).go ?_
 unfold Qpr nr
 refine (Qzg h k hx).mono ?_
 rintro e w3 ⟨rfl,s3,l3,r3,hst3,k3,hseq3⟩
 refine ⟨rfl,?_⟩
 let J:Nat→List Value→World→Prop:=fun j vs w'=>∃y:Nat,vs=[.int .i32 y]∧∃s' c l b r,Side first c∧j=(T.node l y b r).ls.length∧St w w' F L n s'∧Fo n s' v (plug c (.node l y b r)::ts)∧(plug c (.node l y b r)).seq=t.seq
 refine ⟨LI J,LM J,⟨_,x,rfl,s3,[],l3,false,r3,(fun f hf=>by cases hf),rfl,hst3,k3,hseq3⟩,?_⟩
 intro _ y w8 hI
 obtain ⟨y,hvs,s4,c,l,b,r,hside,hj,hst8,k8,hseq8⟩:=hI.at
 simp only [vj] at hvs
 subst hvs
 have hyn:y<n:=k8.tr.bd y (by rw [(Qcv c _).mem_iff];simp [T.ls])
 have hyy:(y:Int).toNat=y:=by omega
 obtain ⟨_,⟨a1,a2⟩,a3,a4⟩:=k8.wf y hyn
 refine (Qyd hst8.i (by omega) (by omega) (by rw [hyy];exact a1) (by rw [hyy];exact a2) (by rw [hyy];exact a3) (by rw [hyy];exact a4)).mono ?_
 rintro e w9 ⟨rfl,hst9'⟩
 refine ⟨rfl,?_⟩
 have hst9:=hst8.trans hst9'
 have hg:=Q4h k8.tr
 have k9:=k8.gd hg
 have hseq9:=hg.seq.trans hseq8
 obtain ⟨l',r',hsh⟩:=Qi1 l y b r
 have hperm:=Qqq l y b r
 rw [hsh] at k9 hseq9 hperm
 obtain ⟨⟨hN,hRl,hRr⟩,_⟩:=(Qda c _).1 k9.tr.rep
 have hll:(pushS s4 y).left y=l'.rt:=hN.left
 have hrr:(pushS s4 y).right y=r'.rt:=hN.right
 have hlen:=hperm.length_eq
 repeat (first | (with_reducible first | refine pt_i ?_ | refine gF ?_ | refine Qa1 (by omega) (by omega) ?_ | refine g0 ?_ | refine g1 ?_ | refine g2 ?_ | refine g3 ?_ | refine g4 ?_ | refine g5 ?_ | refine g6 ?_ | refine g7 ?_ | refine g8 ?_ | refine s0 fun _ hst=>?_ | refine s1 fun _ hst=>?_ | refine s2 fun _ hst=>?_ | refine s3 fun _ hst=>?_ | refine s4 fun _ hst=>?_ | refine s5 fun _ hst=>?_ | refine s6 fun _ hst=>?_ | refine s7 fun _ hst=>?_ | refine s8 fun _ hst=>?_) | simp only [projS,Qab])
 rw [hyy]
 cases first
 ·refine Qac (fun h=>by cases h) (fun _=>?_)
  rw [hrr]
  refine Qac (fun hc=>?_) (fun hc=>?_)<;>simp only [b1s] at hc
  ·have hr0:r'=.nil:=by
    cases r' with
    | nil=>rfl
    | node=>simp [T.rt] at hc
   subst hr0
   refine (Qzg hst9.i k9 (by rw [(Qcv c _).mem_iff];simp [T.ls])).mono ?_
   rintro e w21 ⟨rfl,s5,l5,r5,hst21,k21,hseq21⟩
   refine ⟨rfl,y,rfl,s5,l5,r5,hst9.trans hst21,k21,hseq21.trans hseq9,?_⟩
   obtain ⟨q',hq'⟩:=Zaa c hside (.node l' y false .nil) y l'.seq (by simp [T.seq])
   rw [hq'] at hseq21
   have hnd:(T.node l5 y false r5).seq.Nodup:=(T.Qb9 _).nodup_iff.2 k21.tr.nd
   simp only [Bool.false_eq_true,if_false]
   apply Q1a
   simp only [T.seq,Bool.false_eq_true,if_false] at hseq21 hnd
   rcases List.eq_nil_or_concat r5.seq with h0 | ⟨a,z,h0⟩
   ·exact h0
   ·rw [h0,List.concat_eq_append] at hseq21 hnd
    have e1:(l5.seq++y::a)++[z]=q'++[y]:=by simpa using hseq21
    have e2:=List.append_inj_right' e1 rfl
    injection e2 with e2
    subst e2
    rw [List.nodup_append,List.nodup_cons] at hnd
    exact absurd (by simp) hnd.2.1.1
  ·obtain ⟨l6,z,b6,r6,rfl⟩:∃l6 z b6 r6,r'=.node l6 z b6 r6:=by
    cases r' with
    | nil=>simp [T.rt] at hc
    | node a b c d=>exact ⟨a,b,c,d,rfl⟩
   refine LI.again (k:=(T.node l6 z b6 r6).ls.length) ⟨z,rfl,_,⟨false,y,false,l'⟩::c,l6,b6,r6,?_,rfl,hst9,k9,hseq9⟩ ?_
   ·intro f hf
    rcases List.mem_cons.1 hf with rfl | hf
    ·exact ⟨rfl,rfl⟩
    ·exact hside f hf
   ·rw [hj,hlen];simp only [T.ls,List.length_append,List.length_cons];omega
 ·refine Qac (fun _=>?_) (fun h=>by cases h)
  repeat (first | (with_reducible first | refine pt_i ?_ | refine gF ?_ | refine Qa1 (by omega) (by omega) ?_ | refine g0 ?_ | refine g1 ?_ | refine g2 ?_ | refine g3 ?_ | refine g4 ?_ | refine g5 ?_ | refine g6 ?_ | refine g7 ?_ | refine g8 ?_ | refine s0 fun _ hst=>?_ | refine s1 fun _ hst=>?_ | refine s2 fun _ hst=>?_ | refine s3 fun _ hst=>?_ | refine s4 fun _ hst=>?_ | refine s5 fun _ hst=>?_ | refine s6 fun _ hst=>?_ | refine s7 fun _ hst=>?_ | refine s8 fun _ hst=>?_) | simp only [projS,Qab])
  rw [hyy]
  have hll':(pushS s4 y).left y=l'.rt:=hll
  rw [hll']
  refine Qac (fun hc=>?_) (fun hc=>?_)<;>simp only [b1s] at hc
  ·have hl0:l'=.nil:=by
    cases l' with
    | nil=>rfl
    | node=>simp [T.rt] at hc
   subst hl0
   refine (Qzg hst9.i k9 (by rw [(Qcv c _).mem_iff];simp [T.ls])).mono ?_
   rintro e w21 ⟨rfl,s5,l5,r5,hst21,k21,hseq21⟩
   refine ⟨rfl,y,rfl,s5,l5,r5,hst9.trans hst21,k21,hseq21.trans hseq9,?_⟩
   obtain ⟨q',hq'⟩:=Q9c c hside (.node .nil y false r') y r'.seq (by simp [T.seq])
   rw [hq'] at hseq21
   have hnd:(T.node l5 y false r5).seq.Nodup:=(T.Qb9 _).nodup_iff.2 k21.tr.nd
   simp only [if_true]
   apply Q1a
   simp only [T.seq,Bool.false_eq_true,if_false] at hseq21 hnd
   cases h0:l5.seq with
   | nil=>rfl
   | cons z a=>
    rw [h0] at hseq21 hnd
    injection hseq21 with e1 e2
    subst e1
    simp at hnd
  ·obtain ⟨l6,z,b6,r6,rfl⟩:∃l6 z b6 r6,l'=.node l6 z b6 r6:=by
    cases l' with
    | nil=>simp [T.rt] at hc
    | node a b c d=>exact ⟨a,b,c,d,rfl⟩
   refine LI.again (k:=(T.node l6 z b6 r6).ls.length) ⟨z,rfl,_,⟨true,y,false,r'⟩::c,l6,b6,r6,?_,rfl,hst9,k9,hseq9⟩ ?_
   ·intro f hf
    rcases List.mem_cons.1 hf with rfl | hf
    ·exact ⟨rfl,rfl⟩
    ·exact hside f hf
   ·rw [hj,hlen];simp only [T.ls,List.length_append,List.length_cons];omega
end
end Seq
end Go.Proofs.YtfeekmmfdkfgmaaGreatDoor
namespace Go.Proofs.YtfeekmmfdkfgmaaGreatDoor
open Go
namespace Seq
def AF (h:Array Obj) (F L n:Nat) (v:Nat→Int) (q:List (List Nat)):Prop:=∃s ts,IsF h F L n s∧Fo n s v ts∧q.Perm (ts.map T.seq)
def AS (w₀ w:World) (F L n:Nat) (v:Nat→Int) (q:List (List Nat)):Prop:=∃s ts,St w₀ w F L n s∧Fo n s v ts∧q.Perm (ts.map T.seq)
section
variable {w₀ w w':World} {F L n:Nat} {v:Nat→Int} {q q':List (List Nat)} {A B:List Nat}
theorem AS.af (h:AS w₀ w F L n v q):AF w.heap F L n v q:=let ⟨s,ts,a,b,c⟩:=h;⟨s,ts,a.i,b,c⟩
theorem AS.chg (h:AS w₀ w F L n v q):Chg (·=L) w₀ w:=let ⟨_,_,a,_⟩:=h;a.c
theorem AF.start (h:AF w.heap F L n v q):AS w w F L n v q:=let ⟨s,ts,a,b,c⟩:=h;⟨s,ts,St.start a,b,c⟩
theorem AS.trans (h:AS w₀ w F L n v q) {v':Nat→Int} (k:AS w w' F L n v' q'):AS w₀ w' F L n v' q':=by
 obtain ⟨s,ts,a,b,c⟩:=h
 obtain ⟨s',ts',a',b',c'⟩:=k
 exact ⟨s',ts',a.trans a',b',c'⟩
theorem AS.st {s:S} (h:AS w₀ w F L n v q) (k:St w w' F L n s):St w₀ w' F L n s:=let ⟨_,_,a,_,_⟩:=h;a.trans k
theorem AS.drew (h:AS w₀ w F L n v q):AS w₀ w.drew F L n v q:=let ⟨s,ts,a,b,c⟩:=h;⟨s,ts,a.drew,b,c⟩
theorem AS.alloc (h:AS w₀ w F L n v q) (o:Obj):AS w₀ (w.alloc o) F L n v q:=let ⟨s,ts,a,b,c⟩:=h;⟨s,ts,a.alloc o,b,c⟩
theorem AS.perm (h:AS w₀ w F L n v q) (p:q.Perm q'):AS w₀ w F L n v q':=let ⟨s,ts,a,b,c⟩:=h;⟨s,ts,a,b,p.symm.trans c⟩
theorem AF.perm {h:Array Obj} (k:AF h F L n v q) (p:q.Perm q'):AF h F L n v q':=let ⟨s,ts,a,b,c⟩:=k;⟨s,ts,a,b,p.symm.trans c⟩
theorem AF.alloc (h:AF w.heap F L n v q) (o:Obj):AF (w.alloc o).heap F L n v q:=let ⟨s,ts,a,b,c⟩:=h;⟨s,ts,a.alloc o,b,c⟩
theorem AF.lt {h:Array Obj} (k:AF h F L n v q):F<h.size∧L<h.size:=let ⟨s,ts,a,b,c⟩:=k;⟨a.f.lt,a.l.lt⟩
theorem AF.keep (h:AF w.heap F L n v q) {S:Nat→Prop} (c:Chg S w w') (hF:¬S F) (hL:¬S L):AF w'.heap F L n v q:=let ⟨s,ts,a,b,d⟩:=h;⟨s,ts,a.chg c hF hL,b,d⟩
theorem AF.head {h:Array Obj} (k:AF h F L n v (A::q)):∃s t ts,IsF h F L n s∧Fo n s v (t::ts)∧t.seq=A∧q.Perm (ts.map T.seq):=by
 obtain ⟨s,ts,a,b,c⟩:=k
 have hm:A∈ts.map T.seq:=c.mem_iff.1 (by simp)
 obtain ⟨t,ht,rfl⟩:=List.mem_map.1 hm
 obtain ⟨x,y,rfl⟩:=List.append_of_mem ht
 have p:(x++t::y).Perm (t::(x++y)):=List.perm_middle
 refine ⟨s,t,x++y,a,b.reorder p,rfl,?_⟩
 have:=c.trans (p.map T.seq)
 exact (List.perm_cons _).1 this
theorem AF.find {h:Array Obj} (k:AF h F L n v q) {x:Nat} (hx:x<n):∃A q',q.Perm (A::q')∧x∈A:=by
 obtain ⟨s,ts,a,b,c⟩:=k
 obtain ⟨t,ts',p,hxt⟩:=b.split hx
 exact ⟨t.seq,ts'.map T.seq,c.trans (p.map T.seq),Qb2.2 hxt⟩
theorem AF.nodup {h:Array Obj} (k:AF h F L n v q):q.flatten.Nodup∧(∀A∈q,∀x∈A,x<n)∧(∀A∈q,A≠[])∧VR v∧n≤8388608∧(∀x,x<n→∃A∈q,x∈A):=by
 obtain ⟨s,ts,a,b,c⟩:=k
 have p1:q.flatten.Perm (ts.map T.seq).flatten:=c.flatten
 have p2:((ts.map T.seq).flatten).Perm (ts.flatMap T.ls):=by
  rw [←List.flatMap_def]
  clear b c p1
  induction ts with
  | nil=>exact List.Perm.refl _
  | cons t ts ih=>rw [List.flatMap_cons,List.flatMap_cons];exact t.Qb9.append ih
 have hmem:∀x,x∈q.flatten↔x<n:=fun x=>by rw [(p1.trans p2).mem_iff,b.perm.mem_iff,List.mem_range]
 refine ⟨(p1.trans p2).nodup_iff.2 b.nodup,fun A hA x hx=>(hmem x).1 (List.mem_flatten.2 ⟨A,hA,hx⟩),?_,b.vr,b.small,fun x hx=>?_⟩
 ·intro A hA e
  obtain ⟨t,ht,rfl⟩:=List.mem_map.1 (c.mem_iff.1 hA)
  exact (b.rep t ht).2 (Q1a e)
 ·obtain ⟨A,hA,hxA⟩:=List.mem_flatten.1 ((hmem x).2 hx);exact ⟨A,hA,hxA⟩
end
def inAll (n:Nat) (xs:List Int):Bool:=xs.all fun x=>decide (0≤x)&&decide (x<n)
theorem Q16 {w:World} {F L n:Nat} {s:S} {g c:Nat} {xs:List Int} (h:IsF w.heap F L n s) (r:Row w.heap g 3 (xs.map fun x=>.int .i64 x)) (hl:xs.length≤1000000) :
  Calls Pg 286 #[.pointer (some ⟨F,0,none⟩),.slice (some ⟨g,0,none⟩) xs.length c] w fun e w'=>e=.returned (errV (if inAll n xs then 0 else 12))∧w'=w:=by
 refine (Qiv _ _ _ _ _ (fun v' w'=>v'=errV (if inAll n xs then 0 else 12)∧w'=w) ?_).mono rti
 unfold Qg0 nr
 have hst:=St.start h
 refine Qac (fun h=>by cases h) (fun _=>?_)
 let J:Nat→List Value→World→Prop:=fun j vs w'=>∃a b,vs=[.int .i64 (a.length:Nat)]∧xs=a++b∧j=b.length∧inAll n a=true∧w'=w
 refine ⟨LI J,LM J,⟨xs.length,[],xs,rfl,rfl,rfl,rfl,rfl⟩,?_⟩
 intro _ i w5 hI
 obtain ⟨a,b,hvs,hab,hj,hin,rfl⟩:=hI.at
 simp only [vj] at hvs
 subst hvs
 have hlab:xs.length=a.length+b.length:=by rw [hab];simp
 refine Qac (fun hc=>?_) (fun hc=>?_)<;>simp only [b1s] at hc
 ·cases b with
  | nil=>simp at hlab;omega
  | cons x b=>
   refine Qat (by omega) ?_
   refine Qaf (n:=x) r (by rw [hab];simp) ?_
   have hbad:¬(0≤x∧x<n)→errV (if inAll n xs then 0 else 12)=.iface 103 (.int .i64 12):=by
    intro hb
    have hd:(decide (0≤x)&&decide (x<(n:Int)))=false:=by
     rw [Bool.and_eq_false_iff,decide_eq_false_iff_not,decide_eq_false_iff_not];omega
    have:inAll n xs=false:=by unfold inAll;rw [hab,List.all_append,List.all_cons,hd,Bool.false_and,Bool.and_false]
    rw [this];rfl
   refine Qac (fun h1=>?_) (fun h1=>?_)<;>simp only [b1s] at h1
   ·exact ⟨(hbad (by omega)).symm,by first | rfl | trivial⟩
   ·repeat (first | (with_reducible first | refine pt_i ?_ | refine gF ?_ | refine Qa1 (by omega) (by omega) ?_ | refine g0 ?_ | refine g1 ?_ | refine g2 ?_ | refine g3 ?_ | refine g4 ?_ | refine g5 ?_ | refine g6 ?_ | refine g7 ?_ | refine g8 ?_ | refine s0 fun _ hst=>?_ | refine s1 fun _ hst=>?_ | refine s2 fun _ hst=>?_ | refine s3 fun _ hst=>?_ | refine s4 fun _ hst=>?_ | refine s5 fun _ hst=>?_ | refine s6 fun _ hst=>?_ | refine s7 fun _ hst=>?_ | refine s8 fun _ hst=>?_) | simp only [projS,Qab])
    refine Qac (fun h2=>?_) (fun h2=>?_)<;>simp only [b1s] at h2
    ·exact ⟨(hbad (by omega)).symm,by first | rfl | trivial⟩
    ·have e:IntKind.i64.wrap ((a.length:Int)+1)=((a++[x]).length:Nat):=by rw [wrap64_in (by omega) (by omega)];simp
     rw [e]
     refine LI.again (k:=b.length) ⟨a++[x],b,rfl,by rw [hab];simp,rfl,?_,rfl⟩ (by rw [hj];simp)
     simp only [inAll,List.all_append,List.all_cons,List.all_nil,Bool.and_true,Bool.and_eq_true,decide_eq_true_eq] at hin ⊢
     exact ⟨hin,by omega,by omega⟩
 ·have hb:b=[]:=by cases b with
   | nil=>rfl
   | cons=>simp at hlab;omega
  subst hb
  have:inAll n xs=true:=by rw [hab];simpa using hin
  rw [this]
  exact ⟨rfl,rfl⟩
section
variable {w:World} {F L n:Nat} {v:Nat→Int} {q:List (List Nat)} {A B:List Nat} {a b x:Nat}
theorem Qw2 (h:AF w.heap F L n v (A::q)) (hx:x∈A) :
  Calls Pg 296 #[.pointer (some ⟨F,0,none⟩),.int .i32 x] w fun e w'=>e=.returned (.tuple #[])∧∃s l r ts,St w w' F L n s∧Fo n s v (.node l x false r::ts)∧(T.node l x false r).seq=A∧q.Perm (ts.map T.seq):=by
 obtain ⟨s,t,ts,hi,k,rfl,hp⟩:=h.head
 refine (Qzg hi k (Qb2.1 hx)).mono ?_
 rintro e w' ⟨he,s',l,r,hst,k',hs⟩
 exact ⟨he,s',l,r,ts,hst,k',hs,hp⟩
theorem Q5n (h:AF w.heap F L n v (A::B::q)) (ha:a∈A) (hb:b∈B) :
  Calls Pg 287 #[.pointer (some ⟨F,0,none⟩),.int .i32 a,.int .i32 b] w fun e w'=>e=.returned (.bool false)∧AS w w' F L n v (A::B::q):=by
 refine (Qju _ _ _).go ?_
 unfold Qhm nr
 obtain ⟨hnd,hlt,_,_,_,_⟩:=h.nodup
 have han:=hlt A (by simp) a ha
 have hne:a≠b:=by
  rintro rfl
  simp only [List.flatten_cons,List.nodup_append] at hnd
  exact hnd.2.2 a ha a (by simp [hb]) rfl
 refine Qac (fun hc=>?_) (fun hc=>?_)<;>simp only [b1s] at hc
 ·omega
 refine (Qw2 h ha).mono ?_
 rintro e w3 ⟨rfl,s3,l3,r3,ts,hst3,k3,hs3,hp⟩
 refine ⟨rfl,?_⟩
 have hA3:AF w3.heap F L n v (B::A::q):=⟨s3,_,hst3.i,k3,by
  rw [List.map_cons,hs3];exact (List.Perm.swap _ _ _).trans (hp.cons _)⟩
 have hBm:B∈ts.map T.seq:=hp.mem_iff.1 (by simp)
 obtain ⟨tb,htb,hBe⟩:=List.mem_map.1 hBm
 obtain ⟨ta,tc,rfl⟩:=List.append_of_mem htb
 have k3':Fo n s3 v (tb::.node l3 a false r3::(ta++tc)):=k3.reorder (((List.perm_middle (l₁:=ta) (l₂:=tc) (a:=tb)).cons _).trans (List.Perm.swap _ _ _))
 refine (Q5o hst3.i k3'.tr (Qb2.1 (by rw [hBe];exact hb))).mono ?_
 rintro e w5 ⟨rfl,s5,l5,r5,hst5,hg⟩
 refine ⟨rfl,?_⟩
 have k5:=k3'.gd hg
 have haa:(a:Int).toNat=a:=by omega
 repeat (first | (with_reducible first | refine pt_i ?_ | refine gF ?_ | refine Qa1 (by omega) (by omega) ?_ | refine g0 ?_ | refine g1 ?_ | refine g2 ?_ | refine g3 ?_ | refine g4 ?_ | refine g5 ?_ | refine g6 ?_ | refine g7 ?_ | refine g8 ?_ | refine s0 fun _ hst=>?_ | refine s1 fun _ hst=>?_ | refine s2 fun _ hst=>?_ | refine s3 fun _ hst=>?_ | refine s4 fun _ hst=>?_ | refine s5 fun _ hst=>?_ | refine s6 fun _ hst=>?_ | refine s7 fun _ hst=>?_ | refine s8 fun _ hst=>?_) | simp only [projS,Qab])
 rw [haa]
 have hup:s5.up a=-1:=(k5.rep (.node l3 a false r3) (by simp)).1.1.up
 rw [hup]
 refine ⟨rfl,s5,_,hst3.trans hst5,k5,?_⟩
 rw [List.map_cons,List.map_cons,hg.seq,hBe,hs3]
 refine (List.Perm.swap _ _ _).trans ?_
 have p2:(B::q).Perm (B::(ta++tc).map T.seq):=by
  refine hp.trans ?_
  rw [List.map_append,List.map_cons,hBe,List.map_append]
  exact List.perm_middle
 exact ((List.perm_cons _).1 p2 |>.cons A).cons B
end
section
variable {n:Nat} {s:S} {v:Nat→Int} {l r t u:T} {ts:List T} {x y b:Nat}
theorem Fo.make {s':S} {ts':List T} (h:Fo n s v (t::ts)) (hr:∀t'∈ts',Rep s' v (-1) t'∧t'≠.nil) (ho:∀z,z∉t.ls→Eqv s s' z) (hp:(ts'.flatMap T.ls).Perm t.ls):Fo n s' v (ts'++ts):=by
 refine ⟨h.vr,?_,?_,h.small⟩
 ·intro u hu
  rcases List.mem_append.1 hu with hu | hu
  ·exact hr u hu
  ·have h1:=h.rep u (by simp [hu])
   exact ⟨h1.1.congr fun z hz=>ho z (h.apart hu hz),h1.2⟩
 ·rw [List.flatMap_append]
  refine (hp.append_right _).trans ?_
  have:=h.perm
  rwa [List.flatMap_cons] at this
theorem Fo.two (h:Fo n s v (t::u::ts)):∀z∈u.ls,z∉t.ls:=fun z hz=>h.apart (by simp) hz
theorem Zje (h:Fo n s v (.node l y false .nil::u::ts)) (hu:u.rt=b):Fo n (pullS (hangS s b y false) y) v (.node l y false u::ts):=by
 have hby:(b:Int)=u.rt:=hu.symm
 have hbm:=Qaq hby
 have hap:=h.two
 have hyl:y∈(T.node l y false .nil).ls:=by simp [T.ls]
 have hby':b≠y:=fun e=>hap b hbm (e ▸ hyl)
 have hbn:(b:Int).toNat=b:=by omega
 have hyn:(y:Int).toNat=y:=by omega
 have hb1:(b:Int)≠-1:=by omega
 obtain ⟨⟨hY,hl,_⟩,_⟩:=h.rep _ (List.mem_cons_self ..)
 have hU:=(h.rep u (by simp)).1
 have k2:Fo n s v (u::.node l y false .nil::ts):=h.reorder (List.Perm.swap _ _ _)
 have hund:=k2.tr.nd
 have htnd:=h.tr.nd
 simp only [T.ls,List.nodup_append,List.nodup_cons] at htnd
 obtain ⟨ndl,_,dl⟩:=htnd
 have q:∀z,EqA s (hangS s b y false) z:=Qe9 s b y false
 have qu:∀z,(hangS s b y false).up z=if z=b then (y:Int) else s.up z:=fun z=>by rw [Q1q,hbn];simp [hb1]
 have ql:∀z,(hangS s b y false).left z=s.left z:=fun z=>by rw [Qly];simp
 have qr:∀z,(hangS s b y false).right z=if z=y then (b:Int) else s.right z:=fun z=>by rw [Qp2,hyn];simp
 have e4:∀z,z≠y→z≠b→Eqv s (hangS s b y false) z:=fun z h1 h2=>
  ⟨by rw [qu,if_neg h2],ql z,by rw [qr,if_neg h1],(q z).turned,(q z).size,(q z).value,(q z).sum,(q z).least,(q z).most⟩
 have e6:∀z,z≠y→z≠b→Eqv s (pullS (hangS s b y false) y) z:=fun z h1 h2=>(e4 z h1 h2).trans (Qay _ y z h1)
 have hlb:∀z∈l.ls,z≠y∧z≠b:=fun z hz=>⟨fun e=>dl z hz y (by simp) e,fun e=>hap b hbm (by rw [←e];simp [T.ls,hz])⟩
 have RL:Rep (pullS (hangS s b y false) y) v y l:=hl.congr fun z hz=>e6 z (hlb z hz).1 (hlb z hz).2
 have RU:Rep (pullS (hangS s b y false) y) v y u:=by
  refine hU.Q1b (fun z hz hne=>e6 z (fun e=>hap z hz (by rw [e];exact hyl)) (by omega)) (fun z hz=>?_) hund
  have hzb:z=b:=by omega
  subst hzb
  have o:=Qay (hangS s z y false) y z hby'
  exact ⟨⟨o.turned.trans (q z).turned,o.size.trans (q z).size,o.value.trans (q z).value,o.sum.trans (q z).sum,o.least.trans (q z).least,o.most.trans (q z).most⟩,o.left.trans (ql z),by rw [o.right,qr,if_neg hby'],by rw [o.up,qu,if_pos rfl]⟩
 have hlen:(l.ls++y::u.ls).length≤1073741824:=by
  have h1:=h.perm.length_eq
  have h2:=h.small
  simp [T.ls] at h1
  simp;omega
 have NY:Nd (pullS (hangS s b y false) y) v y (-1) l false u:=by
  refine Qhv h.vr (by rw [qu,if_neg (Ne.symm hby'),hY.up]) (by rw [ql,hY.left]) (by rw [qr,if_pos rfl,hu]) ((q y).turned.trans hY.turned) ((q y).value.trans hY.value)
   (fun z hz=>(hl.root hz).2.1.congr (q z)) (fun z hz=>(hU.root hz).2.1.congr (q z)) (fun e=>(hlb y (Qaq e.symm)).1 rfl) (by omega) hlen
 have hF:Fo n (pullS (hangS s b y false) y) v (.node l y false u::ts):=by
  refine ⟨h.vr,?_,?_,h.small⟩
  ·intro t' ht'
   rcases List.mem_cons.1 ht' with rfl | ht2
   ·exact ⟨⟨NY,RL,RU⟩,by simp⟩
   ·have h1:=h.rep t' (by simp [ht2])
    refine ⟨h1.1.congr fun z hz=>e6 z ?_ ?_,h1.2⟩
    ·rintro rfl;exact h.apart (List.mem_cons_of_mem _ ht2) hz hyl
    ·rintro rfl;exact k2.apart (List.mem_cons_of_mem _ ht2) hz hbm
  ·have:=h.perm
   simp only [List.flatMap_cons,T.ls,List.append_assoc,List.cons_append,List.nil_append] at this ⊢
   exact this
 exact hF
theorem Zl1 (h:Fo n s v (.node l x false r::ts)) (hl:l≠.nil):Fo n (pullS ((s.w_up l.rt.toNat (-1)).Qa5 x (-1)) x) v (l::.node .nil x false r::ts):=by
 obtain ⟨⟨hX,hL,hR⟩,_⟩:=h.rep _ (List.mem_cons_self ..)
 obtain ⟨z0,hz0⟩:∃z:Nat,(z:Int)=l.rt:=by
  cases l with
  | nil=>exact absurd rfl hl
  | node a y b c=>exact ⟨y,rfl⟩
 have hzm:=Qaq hz0
 have htnd:=h.tr.nd
 simp only [T.ls,List.nodup_append,List.nodup_cons] at htnd
 obtain ⟨ndl,⟨hxr,ndr⟩,dl⟩:=htnd
 have hzx:z0≠x:=fun e=>dl z0 hzm x (by simp) e
 have hzn:l.rt.toNat=z0:=by omega
 rw [hzn]
 have eu:∀z,((s.w_up z0 (-1)).Qa5 x (-1)).up z=if z=z0 then -1 else s.up z:=fun z=>by simp [upd]
 have el:∀z,((s.w_up z0 (-1)).Qa5 x (-1)).left z=if z=x then -1 else s.left z:=fun z=>by simp [upd]
 have e4:∀z,z≠x→z≠z0→Eqv s ((s.w_up z0 (-1)).Qa5 x (-1)) z:=fun z h1 h2=>⟨by rw [eu,if_neg h2],by rw [el,if_neg h1],rfl,rfl,rfl,rfl,rfl,rfl,rfl⟩
 have e6:∀z,z≠x→z≠z0→Eqv s (pullS ((s.w_up z0 (-1)).Qa5 x (-1)) x) z:=fun z h1 h2=>(e4 z h1 h2).trans (Qay _ x z h1)
 have RL:Rep (pullS ((s.w_up z0 (-1)).Qa5 x (-1)) x) v (-1) l:=by
  refine hL.Q1b (fun z hz hne=>e6 z (fun e=>dl z hz x (by simp) e) (by omega)) (fun z hz=>?_) ndl
  have hzz:z=z0:=by omega
  subst hzz
  have o:=Qay ((s.w_up z (-1)).Qa5 x (-1)) x z hzx
  exact ⟨⟨o.turned,o.size,o.value,o.sum,o.least,o.most⟩,by rw [o.left,el,if_neg hzx],o.right,by rw [o.up,eu,if_pos rfl]⟩
 have RR:Rep (pullS ((s.w_up z0 (-1)).Qa5 x (-1)) x) v x r:=hR.congr fun z hz=>e6 z (fun e=>hxr (e ▸ hz)) (fun e=>dl z0 hzm z0 (by simp [←e,hz]) rfl)
 have hlen:(T.nil.ls++x::r.ls).length≤1073741824:=by
  have h1:=h.perm.length_eq
  have h2:=h.small
  simp [T.ls] at h1
  simp [T.ls];omega
 have NX:Nd (pullS ((s.w_up z0 (-1)).Qa5 x (-1)) x) v x (-1) .nil false r:=by
  refine Qhv h.vr (by rw [eu,if_neg (Ne.symm hzx),hX.up]) (by rw [el,if_pos rfl];rfl) hX.right hX.turned hX.value (fun z hz=>by simp [T.rt] at hz) (fun z hz=>(hR.root hz).2.1.congr ⟨rfl,rfl,rfl,rfl,rfl,rfl⟩) (by simp [T.rt]) (fun e=>hxr (Qaq e.symm)) hlen
 refine h.make (ts':=[l,.node .nil x false r]) ?_ ?_ ?_
 ·intro t' ht'
  simp only [List.mem_cons,List.not_mem_nil,or_false] at ht'
  rcases ht' with rfl | rfl
  ·exact ⟨RL,hl⟩
  ·exact ⟨⟨NX,trivial,RR⟩,by simp⟩
 ·intro z hz
  simp only [T.ls,List.mem_append,List.mem_cons,not_or] at hz
  exact e6 z hz.2.1 (fun e=>hz.1 (by rw [e];exact hzm))
 ·simp [T.ls]
theorem IsMn.Qj7 {v v':Nat→Int} {l:List Nat} {m:Int} (h:IsMn v l m) (e:∀y∈l,v' y=v y):IsMn v' l m:=
 ⟨let ⟨y,hy,k⟩:=h.1;⟨y,hy,by rw [e y hy,k]⟩,fun y hy=>by rw [e y hy];exact h.2 y hy⟩
theorem IsMx.Qj7 {v v':Nat→Int} {l:List Nat} {m:Int} (h:IsMx v l m) (e:∀y∈l,v' y=v y):IsMx v' l m:=
 ⟨let ⟨y,hy,k⟩:=h.1;⟨y,hy,by rw [e y hy,k]⟩,fun y hy=>by rw [e y hy];exact h.2 y hy⟩
theorem Q84 {v v':Nat→Int} {l:List Nat} (e:∀y∈l,v' y=v y):vsum v' l=vsum v l:=by
 unfold vsum;rw [List.map_congr_left e]
theorem Agg.Qj7 {s:S} {v v':Nat→Int} {x:Nat} {l:List Nat} (h:Agg s v x l) (e:∀y∈l,v' y=v y):Agg s v' x l:=
 ⟨h.size,by rw [h.sum,Q84 e],h.least.Qj7 e,h.most.Qj7 e⟩
theorem Rep.Qj7 {s:S} {v v':Nat→Int} {t:T}:∀{p:Int},Rep s v p t→(∀y∈t.ls,v' y=v y)→Rep s v' p t:=by
 induction t with
 | nil=>intro p _ _;trivial
 | node l x b r hl hr=>
  intro p h e
  refine ⟨⟨h.1.up,h.1.left,h.1.right,h.1.turned,by rw [h.1.value,e x (by simp [T.ls])],h.1.agg.Qj7 e⟩,hl h.2.1 fun y hy=>e y (by simp [T.ls,hy]),hr h.2.2 fun y hy=>e y (by simp [T.ls,hy])⟩
end
section
variable {w:World} {F L n:Nat} {v:Nat→Int} {q:List (List Nat)} {A B:List Nat} {a b x:Nat}
theorem Q8c {n:Nat} {x:Int}:inAll n [x]=true↔0≤x∧x<n:=by simp [inAll]
theorem Q8b {n:Nat} {x y:Int}:inAll n [x,y]=true↔(0≤x∧x<n)∧(0≤y∧y<n):=by simp [inAll]
def ck1 (n:Nat) (x:Int):Int:=if 0≤x∧x<n then 0 else 12
def ck2 (n:Nat) (x y:Int):Int:=if (0≤x∧x<n)∧(0≤y∧y<n) then 0 else 12
theorem Qrc {x:Int} (h:AF w.heap F L n v q):Calls Pg 286 #[.pointer (some ⟨F,0,none⟩),.slice (some ⟨w.heap.size,0,none⟩) 1 1] (w.alloc (.cells #[.int .i64 x] 3)) fun e w'=>
  e=.returned (errV (ck1 n x))∧w'=w.alloc (.cells #[.int .i64 x] 3):=by
 obtain ⟨s,ts,hi,_,_⟩:=h
 have:=Q16 (c:=1) (xs:=[x]) (hi.alloc (.cells #[.int .i64 x] 3)) (Row.new w _ _) (by simp)
 refine this.mono fun e w' h=>?_
 rw [h.1]
 refine ⟨?_,h.2⟩
 unfold ck1
 by_cases hc:0≤x∧x<n
 ·rw [if_pos hc,Q8c.2 hc];rfl
 ·rw [if_neg hc]
  have:inAll n [x]=false:=by rw [←Bool.not_eq_true];exact fun e=>hc (Q8c.1 e)
  rw [this];rfl
theorem Qoo {x y:Int} (h:AF w.heap F L n v q):Calls Pg 286 #[.pointer (some ⟨F,0,none⟩),.slice (some ⟨w.heap.size,0,none⟩) 2 2] (w.alloc (.cells #[.int .i64 x,.int .i64 y] 3)) fun e w'=>
  e=.returned (errV (ck2 n x y))∧w'=w.alloc (.cells #[.int .i64 x,.int .i64 y] 3):=by
 obtain ⟨s,ts,hi,_,_⟩:=h
 have:=Q16 (c:=2) (xs:=[x,y]) (hi.alloc (.cells #[.int .i64 x,.int .i64 y] 3)) (Row.new w _ _) (by simp)
 refine this.mono fun e w' h=>?_
 rw [h.1]
 refine ⟨?_,h.2⟩
 unfold ck2
 by_cases hc:(0≤x∧x<n)∧(0≤y∧y<n)
 ·rw [if_pos hc,Q8b.2 hc];rfl
 ·rw [if_neg hc]
  have:inAll n [x,y]=false:=by rw [←Bool.not_eq_true];exact fun e=>hc (Q8b.1 e)
  rw [this];rfl
theorem Q8r (h:x<n):ck1 n x=0:=by unfold ck1;rw [if_pos];omega
theorem Qtb (h:a<n) (h':b<n):ck2 n a b=0:=by unfold ck2;rw [if_pos];omega
theorem Qaj {c:Int} {X Y:Prop} (h:c≠0→X) (k:c=0→Y):isI (errV c)∧bif (!(nilI (errV c))) then X else Y:=by
 refine ⟨Qbu c,?_⟩
 rw [Qb4]
 by_cases hc:c=0
 ·simp only [hc,decide_true,Bool.not_true,cond_false];exact k hc
 ·simp only [hc,decide_false,Bool.not_false,cond_true];exact h hc
theorem AF.Qsb (h:AF w.heap F L n v q) (o:Obj):AS w (w.alloc o) F L n v q:=h.start.alloc o
theorem Qsd {l a b c d:List Nat} {x:Nat} (h:l.Nodup) (h1:l=a++x::b) (h2:l=c++x::d):a=c∧b=d:=by
 subst h1
 induction a generalizing c with
 | nil=>
  cases c with
  | nil=>injection h2 with _ h2;exact ⟨rfl,h2⟩
  | cons z c=>
   injection h2 with e1 e2
   subst e1
   rw [e2] at h
   simp at h
 | cons y a ih=>
  cases c with
  | nil=>
   injection h2 with e1 e2
   subst e1
   simp at h
  | cons z c=>
   injection h2 with e1 e2
   rw [List.cons_append,List.nodup_cons] at h
   obtain ⟨e3,e4⟩:=ih h.2 e2
   exact ⟨by rw [e1,e3],e4⟩
theorem Q18 {x:Nat} {pre post:List Nat} (h:AF w.heap F L n v ((pre++x::post)::q)) (hpre:pre≠[]) :
  Calls Pg 288 #[.pointer (some ⟨F,0,none⟩),.int .i64 x] w fun e w'=>e=.returned (.tuple #[.bool true,errV 0])∧AS w w' F L n v (pre::(x::post)::q):=by
 obtain ⟨hnd,hlt,_,_,hn,_⟩:=h.nodup
 have hxn:=hlt (pre++x::post) (by simp) x (by simp)
 refine (Qd0 _ _).go ?_
 unfold Qd4 nr
 refine Qal fun hrow=>?_
 refine (Qrc h).mono ?_
 rintro e w5 ⟨rfl,rfl⟩
 refine ⟨_,rfl,Qaj (fun e=>by rw [Q8r hxn] at e;exact absurd rfl e) (fun _=>?_)⟩
 rw [wrap32_in (by omega) (by omega)]
 refine (Qw2 (h.alloc _) (by simp)).mono ?_
 rintro e w7 ⟨rfl,s,l,r,ts,hst,k,hs,hp⟩
 refine ⟨rfl,?_⟩
 have hxx:(x:Int).toNat=x:=by omega
 have hst:=(h.Qsb _).st hst
 have hnd1:(pre++x::post).Nodup:=by simp only [List.flatten_cons,List.nodup_append] at hnd;simp only [List.nodup_append];exact hnd.1
 obtain ⟨e1,e2⟩:=Qsd hnd1 hs.symm rfl
 have hl:l≠.nil:=by
  rintro rfl
  exact hpre e1.symm
 repeat (first | (with_reducible first | refine pt_i ?_ | refine gF ?_ | refine Qa1 (by omega) (by omega) ?_ | refine g0 ?_ | refine g1 ?_ | refine g2 ?_ | refine g3 ?_ | refine g4 ?_ | refine g5 ?_ | refine g6 ?_ | refine g7 ?_ | refine g8 ?_ | refine s0 fun _ hst=>?_ | refine s1 fun _ hst=>?_ | refine s2 fun _ hst=>?_ | refine s3 fun _ hst=>?_ | refine s4 fun _ hst=>?_ | refine s5 fun _ hst=>?_ | refine s6 fun _ hst=>?_ | refine s7 fun _ hst=>?_ | refine s8 fun _ hst=>?_) | simp only [projS,Qab])
 rw [hxx]
 have hleft:s.left x=l.rt:=k.tr.rep.1.left
 have hl0:l.rt≠-1∧0≤l.rt∧l.rt<n:=by
  rcases Qcl l with e | ⟨z,e,hz⟩
  ·cases l with
   | nil=>exact absurd rfl hl
   | node=>simp [T.rt] at e
  ·have:=k.tr.bd z (by simp [T.ls,hz]);omega
 rw [hleft]
 refine Qac (fun hc=>?_) (fun _=>?_)
 ·simp at hc;exact absurd hc hl0.1
 have h1:=hl0.2.1
 have h2:=hl0.2.2
 repeat (first | (with_reducible first | refine pt_i ?_ | refine gF ?_ | refine Qa1 (by omega) (by omega) ?_ | refine g0 ?_ | refine g1 ?_ | refine g2 ?_ | refine g3 ?_ | refine g4 ?_ | refine g5 ?_ | refine g6 ?_ | refine g7 ?_ | refine g8 ?_ | refine s0 fun _ hst=>?_ | refine s1 fun _ hst=>?_ | refine s2 fun _ hst=>?_ | refine s3 fun _ hst=>?_ | refine s4 fun _ hst=>?_ | refine s5 fun _ hst=>?_ | refine s6 fun _ hst=>?_ | refine s7 fun _ hst=>?_ | refine s8 fun _ hst=>?_) | simp only [projS,Qab])
 have hkc:=Zl1 k hl
 have hwf:Wf n ((s.w_up l.rt.toNat (-1)).Qa5 x (-1)):=by
  have:=hkc.wf
  obtain ⟨p1,p2,p3,_⟩:=Qlv ((s.w_up l.rt.toNat (-1)).Qa5 x (-1)) x
  intro i hi
  have:=this i hi
  rwa [p1,p2,p3] at this
 rw [hxx] at hst
 refine (Qky hst.i (by omega) (by omega) hwf).mono ?_
 rintro e w8 ⟨rfl,hst8⟩
 refine ⟨rfl,rfl,_,_,hst.trans hst8,hkc,?_⟩
 rw [List.map_cons,List.map_cons,e1]
 have:(T.node .nil x false r).seq=x::post:=by simp [T.seq,e2]
 rw [this]
 exact (hp.cons _).cons _
theorem Zcv (h:AF w.heap F L n v (A::B::q)) (ha:a∈A) (hb:b∈B) :
  Calls Pg 265 #[.pointer (some ⟨F,0,none⟩),.int .i64 a,.int .i64 b] w fun e w'=>e=.returned (errV 0)∧AS w w' F L n v ((A++B)::q):=by
 obtain ⟨hnd,hlt,_,_,hn,_⟩:=h.nodup
 have han:=hlt A (by simp) a ha
 have hbn:=hlt B (by simp) b hb
 refine (Qds _ _ _).go ?_
 unfold Qdh nr
 refine Qal fun hrow=>?_
 refine (Qoo h).mono ?_
 rintro e w5 ⟨rfl,rfl⟩
 refine ⟨_,rfl,Qaj (fun e=>by rw [Qtb han hbn] at e;exact absurd rfl e) (fun _=>?_)⟩
 rw [wrap32_in (by omega) (by omega),wrap32_in (by omega) (by omega)]
 refine (Q5n (h.alloc _) ha hb).mono ?_
 rintro e w9 ⟨rfl,has⟩
 refine ⟨_,rfl,?_⟩
 refine Qac (fun h=>by cases h) (fun _=>?_)
 have has:=(h.Qsb _).trans has
 obtain ⟨s9,t9,ts9,hi9,k9,hs9,hp9⟩:=has.af.head
 refine (Zm4 (first:=false) hi9 k9 (Qb2.1 (by rw [hs9];exact ha))).mono ?_
 rintro e w12 ⟨y,rfl,s12,l12,r12,hst12,k12,hs12,hr12⟩
 refine ⟨_,rfl,?_⟩
 simp only [Bool.false_eq_true,if_false] at hr12
 subst hr12
 have hst12:=has.st hst12
 have hyn:y<n:=k12.tr.bd y (by simp [T.ls])
 have hBm:B∈ts9.map T.seq:=hp9.mem_iff.1 (by simp)
 obtain ⟨tb,htb,hBe⟩:=List.mem_map.1 hBm
 obtain ⟨ta,tc,rfl⟩:=List.append_of_mem htb
 have k12':Fo n s12 v (tb::.node l12 y false .nil::(ta++tc)):=k12.reorder (((List.perm_middle (l₁:=ta) (l₂:=tc) (a:=tb)).cons _).trans (List.Perm.swap _ _ _))
 refine (Q5o hst12.i k12'.tr (Qb2.1 (by rw [hBe];exact hb))).mono ?_
 rintro e w14 ⟨rfl,s14,l14,r14,hst14,hg⟩
 refine ⟨rfl,?_⟩
 have hst14:=hst12.trans hst14
 have k14:Fo n s14 v (.node l12 y false .nil::.node l14 b false r14::(ta++tc)):=(k12'.gd hg).reorder (List.Perm.swap _ _ _)
 refine (Qye hst14.i (by omega) (by omega) (by omega) (by omega)).mono ?_
 rintro e w16 ⟨rfl,hst16⟩
 refine ⟨rfl,?_⟩
 have hkj:=Zje k14 (show (T.node l14 b false r14).rt=b from rfl)
 refine (Qky hst16.i (by omega) (by omega) (Qfq k14.wf (by omega) (by omega) (by omega) (by omega))).mono ?_
 rintro e w18 ⟨rfl,hst18⟩
 refine ⟨rfl,rfl,_,_,(hst14.trans hst16).trans hst18,hkj,?_⟩
 rw [List.map_cons]
 have e1:(T.node l12 y false (.node l14 b false r14)).seq=A++B:=by
  have h1:(T.node l14 b false r14).seq=B:=by rw [hg.seq,hBe]
  have h2:l12.seq++[y]=A:=by rw [←hs9,←hs12];simp [T.seq]
  rw [←h1,←h2]
  simp [T.seq]
 rw [e1]
 refine List.Perm.cons _ ?_
 have p2:(B::q).Perm (B::(ta++tc).map T.seq):=by
  refine hp9.trans ?_
  rw [List.map_append,List.map_cons,hBe,List.map_append]
  exact List.perm_middle
 exact (List.perm_cons _).1 p2
end
end Seq
end Go.Proofs.YtfeekmmfdkfgmaaGreatDoor
