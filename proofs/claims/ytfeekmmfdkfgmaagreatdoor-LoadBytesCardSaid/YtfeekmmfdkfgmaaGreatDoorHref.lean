import Derived.Test.YtfeekmmfdkfgmaaGreatDoorHplane
import Derived.Test.YtfeekmmfdkfgmaaGreatDoorHflat
import Derived.Test.YtfeekmmfdkfgmaaGreatDoorHof
import Derived.Test.YtfeekmmfdkfgmaaGreatDoorBytes
import Derived.Test.YtfeekmmfdkfgmaaGreatDoorHmodel
import Derived.Test.YtfeekmmfdkfgmaaGreatDoorGLawC
import Derived.Test.YtfeekmmfdkfgmaaGreatDoorHsh
/-
What the references count of each component: half its darts; which lists go round, told by walks.
Conditions: those that each theorem states.
-/
set_option linter.unusedVariables false
set_option linter.unusedSimpArgs false
namespace Go.Proofs.YtfeekmmfdkfgmaaGreatDoor
open Go Go.RowKit
set_option linter.unnecessarySimpa false
namespace Core
set_option linter.ambiguousOpen false
open Seq Cut Web
section
variable {V N l r x y:Nat} {tl:Nat→List Nat} {X:Nat→List Nat} {vs:List Nat} {lm:Nat→Nat}
theorem Zix {α:Type} (p:α→Bool) (l:List α):l.length=(l.filter p).length+(l.filter fun x=>!p x).length:=by
 induction l with
 | nil=>rfl
 | cons a l ih=>
  cases h:p a
  ·rw [List.filter_cons_of_neg (by simp [h]),List.filter_cons_of_pos (by simp [h])];simp;omega
  ·rw [List.filter_cons_of_pos (by simp [h]),List.filter_cons_of_neg (by simp [h])];simp;omega
def evn (d:Nat):Bool:=d % 2==0
theorem Zg2 (d:Nat):evn (tw d)=!evn d:=by
 unfold evn tw
 rcases Nat.mod_two_eq_zero_or_one d with k | k
 ·rw [if_pos k,k,show (d+1) % 2=1 by omega];rfl
 ·rw [if_neg (by omega),k,show (d-1) % 2=0 by omega];rfl
theorem half {D:List Nat} (hn:D.Nodup) (ht:∀d,d∈D→tw d∈D):D.length=2*(D.filter evn).length:=by
 have p:((D.filter evn).map tw).Perm (D.filter fun d=>!evn d):=by
  refine Qlf ?_ (hn.filter _) fun d=>?_
  ·refine List.nodup_iff_pairwise_ne.2 (List.pairwise_map.2 ((hn.filter _).imp fun {a b} h k=>h ?_))
   rw [←Q02 a,←Q02 b,k]
  ·rw [List.mem_map,List.mem_filter]
   constructor
   ·rintro ⟨c,hc,rfl⟩
    rw [List.mem_filter] at hc
    exact ⟨ht c hc.1,by rw [Zg2,hc.2];rfl⟩
   ·rintro ⟨h1,h2⟩
    exact ⟨tw d,List.mem_filter.2 ⟨ht d h1,by rw [Zg2];exact h2⟩,Q02 d⟩
 have:=p.length_eq
 rw [List.length_map] at this
 rw [Zix evn D];omega
def nH (tl:Nat→List Nat) (vs:List Nat) (lm:Nat→Nat) (r:Nat):Int:=(((vs.filter fun v=>lm v==r).map fun v=>((tl v).filter evn).length).sum:Nat)
theorem Zik (hM:MP N tl) (hVN:V≤N) (hv:VS V tl vs) (hl:LM' V N tl lm):nE tl vs lm r=2*nH tl vs lm r:=by
 unfold nE nH
 have e1:=List.length_flatMap (l:=vs.filter fun v=>lm v==r) (f:=tl)
 have e2:=List.length_flatMap (l:=vs.filter fun v=>lm v==r) (f:=fun v=>(tl v).filter evn)
 rw [←List.filter_flatMap] at e2
 rw [←e1,←e2,half (D:=(vs.filter fun v=>lm v==r).flatMap tl) ?_ ?_]
 ·omega
 ·rw [List.Nodup,List.pairwise_flatMap]
  refine ⟨fun v hm=>hM.nodup (Nat.lt_of_lt_of_le (hv.lt v (List.mem_filter.1 hm).1) hVN),?_⟩
  refine List.Pairwise.imp_of_mem (fun {a b} ha hb hab x hx y hy k=>?_) (hv.nd.filter _)
  subst k
  exact hab (hM.uniq (Nat.lt_of_lt_of_le (hv.lt a (List.mem_filter.1 ha).1) hVN) (Nat.lt_of_lt_of_le (hv.lt b (List.mem_filter.1 hb).1) hVN) hx hy)
 ·intro d hd
  obtain ⟨v,h1,h2⟩:=List.mem_flatMap.1 hd
  rw [List.mem_filter,beq_iff_eq] at h1
  have hvV:=hv.lt v h1.1
  have hvN:v<N:=Nat.lt_of_lt_of_le hvV hVN
  have hdl:=Qa2.2 ⟨v,hvN,h2⟩
  have htw:=hM.tw d hdl
  have ho:og tl N d=v:=hM.ogE hvN h2
  have h3:=Qis htw
  have hu:=hl.og htw
  refine List.mem_flatMap.2 ⟨og tl N (tw d),List.mem_filter.2 ⟨hv.all _ hu (fun k=>by rw [k] at h3;cases h3.1),?_⟩,h3.1⟩
  rw [beq_iff_eq,←h1.2]
  refine (hl.eq _ v hu hvV).2 ?_
  have:=GC.edge (hM.laid hdl)
  rcases Nat.mod_two_eq_zero_or_one d with k | k
  ·have e:tw d=2*(d/2)+1:=by unfold tw;rw [if_pos k];omega
   have e':2*(d/2)=d:=by omega
   rw [e,←ho]
   rw [e'] at this
   rw [show 2*(d/2)+1=d+1 by omega]
   exact this.symm
  ·have e:tw d=2*(d/2):=by unfold tw;rw [if_neg (by omega)];omega
   have e':2*(d/2)+1=d:=by omega
   rw [e,←ho]
   rw [e'] at this
   exact this
theorem Q5d (hM:MP N tl) (hVN:V≤N) (hv:VS V tl vs) (hl:LM' V N tl lm) (hi:∀x,x<V→lm (lm x)=lm x) (hX:Fcs tl N l X) (hd:∀j,j<l→∃d,d∈X j∧(X j).head?=some d) :
  (∀v,v∈vs→lm v=v→nV vs lm v-nH tl vs lm v+(nI tl vs lm v+nF tl N l X lm v)=2)↔∀x,x∈dl tl N→vN tl N (og tl N x)-eN tl N (og tl N x)+fN tl N (og tl N x)=2:=by
 rw [←Q8e hM hVN hv hl hX hd]
 have hh:∀r,nE tl vs lm r/2=nH tl vs lm r:=fun r=>by rw [Zik hM hVN hv hl];omega
 constructor
 ·intro h v hvm
  have hvV:=hv.lt v hvm
  have hin:lm v∈vs:=by
   rcases Zbv hM (hl.gc v hvV) with k | ⟨_,k⟩
   ·rw [←k];exact hvm
   ·exact hv.all _ (hl.lt v hvV) k
  rw [hh]
  exact h (lm v) hin (hi v hvV)
 ·intro h v hvm e
  have:=h v hvm
  rw [e,hh] at this
  exact this
end
section
variable {LD:Nat→Prop} {fr nx:Nat→Nat} {N v d x y k:Nat} {c:List Nat} {tl out:Nat→List Nat}
def NxI (LD:Nat→Prop) (nx:Nat→Nat):Prop:=∀x y,LD x→LD y→nx x=nx y→x=y
theorem Rot.inj (h:Rot LD fr nx tl) (hf:∀d,LD d→LD (nx d)∧fr (nx d)=fr d):NxI LD nx:=fun x y hx hy e=>by
 have mx:=(h.mem (fr x) x).2 ⟨hx,rfl⟩
 have e2:fr y=fr x:=by rw [←(hf y hy).2,←e,(hf x hx).2]
 have my:=(h.mem (fr x) y).2 ⟨hy,e2⟩
 exact Zas (h.nd _) mx my (by rw [h.nx _ x mx,h.nx _ y my,e])
theorem CW.back (h:CW LD fr nx v d c) (hi:NxI LD nx) {t:Nat} (ht:c.getLast?=some t) (hx:nx t∈c):nx t=d:=by
 obtain ⟨j,hj⟩:=List.getElem?_of_mem hx
 have hl:=(List.getElem?_eq_some_iff.1 hj).1
 cases j with
 | zero=>
  have:=h.h
  rw [List.head?_eq_getElem?,hj] at this
  exact Option.some.inj this
 | succ j=>
  obtain ⟨u,hu⟩:∃u,c[j]?=some u:=⟨_,List.getElem?_eq_getElem (by omega)⟩
  have e:=h.s j u _ hu hj
  have:=hi u t (h.m u (List.mem_of_getElem? hu)).1 (h.m t (List.mem_of_getLast? ht)).1 e.symm
  subst this
  rw [List.getLast?_eq_getElem?,←hu] at ht
  have:=(List.getElem?_inj (by omega) h.n).1 ht
  omega
def OC (LD:Nat→Prop) (fr nx:Nat→Nat) (out:Nat→List Nat):Prop:=∀v,out v≠[]→∃d t,CW LD fr nx v d (out v)∧(out v).getLast?=some t∧nx t=d
theorem OC.ow (h:OC LD fr nx out) (ha:∀x,x<k→LD x→x∈out (fr x)):OW LD fr nx k out:=⟨h,ha⟩
theorem OC.take (h:OC LD fr nx out) (cw:CW LD fr nx v d c) {t:Nat} (ht:c.getLast?=some t) (hd:nx t=d):OC LD fr nx (upd out v c):=fun u hu=>by
 by_cases e:u=v
 ·subst e;rw [Qab];exact ⟨d,t,cw,ht,hd⟩
 ·rw [Qag _ _ e] at hu ⊢;exact h u hu
theorem OC.twice (h:OC LD fr nx out) (hk:LD k) (he:out (fr k)≠[]) (hn:k∉out (fr k)):¬∃tl,Rot LD fr nx tl:=by
 rintro ⟨tl,r⟩
 obtain ⟨d,t,cw,ht,hd⟩:=h _ he
 have md:=(r.mem (fr k) d).2 (cw.m d (List.mem_of_mem_head? cw.h))
 have mk:=(r.mem (fr k) k).2 ⟨hk,rfl⟩
 have key:∀{y},RT (Cy (tl (fr k))) d y→y∈out (fr k):=fun {y} j=>by
  induction j with
  | refl=>exact List.mem_of_mem_head? cw.h
  | @step u w j1 j ih=>
   have e:=Qv3 (r.nd _) j
   rw [r.nx _ _ j.mem.1] at e
   have:=cw.round ht hd ih
   rw [←e,←this]
   exact Qyr cw.n ih
 exact hn (key (Q6v md mk))
theorem CW.full (h:CW LD fr nx v d c) {S:List Nat} (hS:S.Nodup) (hm:∀x,x∈S↔LD x∧fr x=v) (hl:c.length=S.length):∀x,x∈S→x∈c:=by
 intro x hx
 refine Classical.byContradiction fun k=>?_
 have h1:(x::c).Nodup:=List.nodup_cons.2 ⟨k,h.n⟩
 have h2:=Qyv id (l1:=x::c) (l2:=S) h1 (fun y hy=>by
  rcases List.mem_cons.1 hy with rfl | hy
  ·exact hx
  ·exact (hm y).2 (h.m y hy)) fun _ _ _ _ e=>e
 rw [List.length_cons] at h2
 omega
theorem CW.less (h:CW LD fr nx v d c) {S:List Nat} (hS:S.Nodup) (hm:∀x,x∈S↔LD x∧fr x=v) (hl:c.length<S.length):∃x,LD x∧fr x=v∧x∉c:=by
 refine Classical.byContradiction fun k=>?_
 have h2:=Qyv id (l1:=S) (l2:=c) hS (fun y hy=>Classical.byContradiction fun j=>k ⟨y,((hm y).1 hy).1,((hm y).1 hy).2,j⟩) fun _ _ _ _ e=>e
 omega
end
structure LG (n N:Nat) (tl:Nat→List Nat) (G:Nat→Nat):Prop where
 eq:∀x y,x<n→y<n→(G x=G y↔GC tl N x y)
 le:∀x,x<n→G x≤x∧G (G x)=G x
section
variable {w w':World} {bad:Nat→Prop} {b sb vb:Option Addr} {l c sc vc N n m v d e j u x y r:Nat} {tl:Nat→List Nat} {G G':Nat→Nat} {vs:List Nat} {X:Nat→List Nat}
theorem LG.uniq (h:LG n N tl G) (h':LG n N tl G') (hx:x<n):G x=G' x:=by
 obtain ⟨a1,a2⟩:=h.le x hx
 obtain ⟨b1,b2⟩:=h'.le x hx
 have k1:GC tl N x (G x):=(h.eq _ _ hx (by omega)).1 a2.symm
 have k2:GC tl N x (G' x):=(h'.eq _ _ hx (by omega)).1 b2.symm
 have e1:=(h'.eq _ _ hx (show G x<n by omega)).2 k1
 have e2:=(h.eq _ _ hx (show G' x<n by omega)).2 k2
 have l1:=(h'.le (G x) (by omega)).1
 have l2:=(h.le (G' x) (by omega)).1
 omega
theorem LG.lm (h:LG n N tl G) (hb:∀v,n≤v→tl v=[]):LM' n N tl G:=
 ⟨fun x hx=>by have:=(h.le x hx).1;omega,fun x hx=>(h.eq _ _ hx (by have:=(h.le x hx).1;omega)).1 (h.le x hx).2.symm,h.eq,hb⟩
theorem Zf8:nV (vs++[v]) G r=nV vs G r+if G v=r then 1 else 0:=by
 rw [Q6h]
 by_cases e:G v=r
 ·subst e;rw [Qab,if_pos rfl]
 ·rw [Qag _ _ (fun k=>e k.symm),if_neg e];omega
theorem Zf9:nH tl (vs++[v]) G r=nH tl vs G r+if G v=r then (((tl v).filter evn).length:Int) else 0:=by
 unfold nH
 rw [List.filter_append,List.map_append,List.sum_append]
 by_cases e:G v=r
 ·subst e;simp
 ·have:(G v==r)=false:=beq_false_of_ne e
  simp [this,e]
theorem Zav:nI tl (vs++[v]) G r=nI tl vs G r+if G v=r∧tl v=[] then 1 else 0:=by
 by_cases ht:tl v=[]
 ·rw [Q76 ht]
  by_cases e:G v=r
  ·subst e;rw [Qab,if_pos ⟨rfl,ht⟩]
  ·rw [Qag _ _ (fun k=>e k.symm),if_neg (fun k=>e k.1)];omega
 ·rw [Q75 ht,if_neg (fun k=>ht k.2)];omega
theorem Zga:nF tl N (j+1) X G r=nF tl N j X G r+if G (og tl N ((X j).headD 0))=r then 1 else 0:=by
 rw [Zaw]
 by_cases e:G (og tl N ((X j).headD 0))=r
 ·rw [if_pos e,←e,Qab]
 ·rw [Qag _ _ (fun k=>e k.symm),if_neg e];omega
theorem Zle (h:∀v,v∈vs→(tl v).length≤2097152):0≤nH tl vs G r∧nH tl vs G r≤2097152*vs.length:=by
 unfold nH
 have key:∀l:List Nat,(∀v,v∈l→(tl v).length≤2097152)→(l.map fun v=>((tl v).filter evn).length).sum≤2097152*l.length:=by
  intro l
  induction l with
  | nil=>intro _;simp
  | cons a l ih=>
   intro h
   have h1:=ih fun v hv=>h v (List.mem_cons_of_mem _ hv)
   have h2:=h a (by simp)
   have h3:=List.length_filter_le evn (tl a)
   rw [List.map_cons,List.sum_cons,List.length_cons];omega
 have h1:=key (vs.filter fun v=>G v==r) fun v hv=>h v (List.mem_filter.1 hv).1
 have h2:=List.length_filter_le (fun v=>G v==r) vs
 omega
theorem Zal (h:TF w bad b n tl) (hM:MP N tl) (z:Sz N n m tl) (hG:LG n N tl G) (hv:VA w vb vs.length 1 (ivs vs)) (hvn:∀v∈vs,v<n) (hvl:vs.length≤1048576) :
  Calls Pg 72 #[.agg #[.int .i64 (m:Nat),.slice b n c],.slice vb vs.length vc,.int .i64 (r:Nat)] w fun res w'=>Chg Qaa w w'∧∃l X,Fcs tl N l X∧(∀j,j<l→∃d,d∈X j∧(X j).head?=some d)∧l≤2*N∧
   ∃c3:Int,res=.returned (.agg #[.int .i64 (nV vs G r),.int .i64 (nH tl vs G r),.int .i64 (nI tl vs G r+nF tl N l X G r),.int .i64 c3]):=by
 refine (Qr2 _ _ _ _ _ _ _ _).go ?_
 unfold Qln nr
 have zn:=z.vn
 have zm:=z.em
 have zN:=z.nN
 refine Qak fun A4 w5 hA4 c5 r5=>Qak fun A6 w7 hA6 c7 r7=>Qdw (c7.row (fun h=>h) r5) ((Q36 (h.nob (c5.trans c7)) hM z).mono ?_)
 rintro r' w11 ⟨_,G1,rfl,c11,⟨gb,gc,rfl,gv,go,gcap⟩,hG1,hG2⟩
 have lg1:LG n N tl G1:=⟨hG1,hG2⟩
 have eG:(List.range n).map G1=(List.range n).map G:=List.map_congr_left fun x hx=>lg1.uniq hG (List.mem_range.1 hx)
 rw [eG] at gv ⊢
 have gl:((List.range n).map G).length=n:=by simp
 have gg:∀{i},i<n→((List.range n).map G)[i]?=some (G i):=fun {i} hi=>by rw [List.getElem?_map,List.getElem?_range hi];rfl
 have s5:=c5.size
 have s7:=c7.size
 have s11:=c11.size
 have l5:=r5.lt
 have l7:=r7.lt
 have r5':=(c7.trans c11).row (fun h=>h) r5
 have r7':=c11.row (fun h=>h) r7
 refine ⟨_,_,_,rfl,Qak fun A13 w14 hA13 c14 r14=>?_⟩
 have s14:=c14.size
 have c014:Chg Qaa w w14:=((c5.trans c7).trans c11).trans c14
 have cw:∀{w'},Chg (fun k=>k=A13) w14 w'→Chg Qaa w w':=fun {w'} k=>c014.trans' k fun i e=>.inr (by omega)
 have cg:∀{w'},Chg (fun k=>k=A13) w14 w'→Chg Qaa w11 w':=fun {w'} k=>c14.trans' k fun i e=>.inr (by omega)
 have hdeg:∀v,v∈vs→(tl v).length≤2097152:=fun v hv=>by
  have:=hvn v hv
  have:=Qzl hM.toND (v:=v) (by omega)
  omega
 let J:Nat→List Value→World→Prop:=fun jj us w'=>∃(i:Nat) (c3:Int),us=[.int .i64 i]∧i≤vs.length∧Row w'.heap A13 154 [.int .i64 (nV (vs.take i) G r),.int .i64 (nH tl (vs.take i) G r),.int .i64 (nI tl (vs.take i) G r),.int .i64 c3]∧Chg (fun k=>k=A13) w14 w'∧jj=vs.length-i
 refine ⟨LI J,LM J,⟨_,0,0,rfl,Nat.zero_le _,r14,Chg.refl _ _,rfl⟩,?_⟩
 intro _ i w18 hJ
 obtain ⟨i,c3,hvs,hi,r18,ck,hj⟩:=hJ.at
 simp only [vj] at hvs
 subst hvs
 refine Qac (fun hlt=>?_) (fun hlt=>?_)<;>simp only [b1s] at hlt
 ·have hil:i<vs.length:=by omega
  obtain ⟨v,hvi⟩:∃v,vs[i]?=some v:=⟨_,List.getElem?_eq_getElem hil⟩
  have hvm:=List.mem_of_getElem? hvi
  have hvV:=hvn v hvm
  have et:vs.take (i+1)=vs.take i++[v]:=by rw [List.take_add_one,hvi];rfl
  have b1:=Zau (vs:=vs.take i) (lm:=G) (r:=r)
  have b2:=Zle (tl:=tl) (vs:=vs.take i) (G:=G) (r:=r) fun v hv=>hdeg v (List.mem_of_mem_take hv)
  have b3:=Q9g (tl:=tl) (vs:=vs.take i) (lm:=G) (r:=r)
  have bl:(vs.take i).length≤1048576:=by have:=List.length_take_le i vs;omega
  have fin:∀(c3':Int) (w2:World),Row w2.heap A13 154 [.int .i64 (nV (vs.take (i+1)) G r),.int .i64 (nH tl (vs.take (i+1)) G r),.int .i64 (nI tl (vs.take (i+1)) G r),.int .i64 c3']→Chg (fun k=>k=A13) w14 w2→(LI J) [.int .i64 (IntKind.wrap .i64 ((i:Int)+1))] w2∧(LM J) [.int .i64 (IntKind.wrap .i64 ((i:Int)+1))] w2<(LM J) [.int .i64 (i:Nat)] w18:=by
   intro c3' w2 r2 k2
   rw [wrap64_in (x:=(i:Int)+1) (by omega) (by omega),show ((i:Int)+1)=((i+1:Nat):Int) by omega]
   exact LI.again (k:=vs.length-(i+1)) ⟨i+1,c3',rfl,by omega,r2,k2,rfl⟩ (by rw [hj];omega)
  refine ⟨fun us w'=>us=[]∧w'=w18∧G v=r,Qac (fun _=>rdI (hv.nob (cw ck)) hvi (rdI (gv.nob (cg ck)) (gg hvV) (Qac (fun k=>?_) (fun k=>⟨rfl,rfl,by simp only [b1s] at k;omega⟩)))) (fun k=>by simp only [b1s] at k;omega),?_⟩
  ·simp only [b1s] at k
   refine fin c3 _ ?_ ck
   have hne:G v≠r:=by omega
   rw [et,Zf8,Zf9,Zav,if_neg hne,if_neg hne,if_neg (fun k=>hne k.1)]
   simpa using r18
  rintro _ w24 ⟨_,rfl,hgr⟩
  refine Qcb (i:=0) (by omega) (Qaf (n:=nV (vs.take i) G r) r18 rfl (Qcb (i:=0) (by omega) (Qao r18 (by simp) rfl fun w28 c28 r28=>?_)))
  rw [wrap64_in (x:=nV (vs.take i) G r+1) (by omega) (by omega)] at r28
  have ck28:=ck.trans c28
  refine ⟨fun us w'=>us=[]∧Chg (fun k=>k=A13) w14 w'∧∃c3',Row w'.heap A13 154 [.int .i64 (nV (vs.take i) G r+1),.int .i64 (nH tl (vs.take i) G r),.int .i64 (nI tl (vs.take i) G r),.int .i64 c3'],?_,?_⟩
  ·have r28d:Row w28.drew.heap A13 154 _:=r28
   refine rdI (w:=w28.drew) (hv.nob (cw ck28.drew)) hvi (rdI (w:=w28.drew) (gv.nob (cg ck28.drew)) (gg hvV) (rdI (w:=w28.drew) (hv.nob (cw ck28.drew)) hvi (Qac (fun k=>?_) (fun k=>⟨rfl,ck28.drew,c3,r28⟩))))
   refine Qcb (i:=3) (by omega) (Qaf (n:=c3) r28d rfl (Qcb (i:=3) (by omega) (Qao r28d (by simp) rfl fun w39 c39 r39=>⟨rfl,ck28.drew.trans c39,_,r39⟩)))
  rintro _ w40 ⟨_,ck40,c3',r40⟩
  refine ⟨fun us w'=>us=[]∧Chg (fun k=>k=A13) w14 w'∧Row w'.heap A13 154 [.int .i64 (nV (vs.take i) G r+1),.int .i64 (nH tl (vs.take i) G r),.int .i64 (nI tl (vs.take (i+1)) G r),.int .i64 c3'],?_,?_⟩
  ·have r40d:Row w40.drew.heap A13 154 _:=r40
   have k40:=cw ck40.drew
   have r5d:Row w40.drew.heap A4 _ _:=ck40.drew.row (by omega) (c14.row (fun h=>h) r5')
   rw [Qad]
   refine Qai r5d rfl (rdI (w:=w40.drew) (hv.nob k40) hvi ((h.nob k40).rd hvV fun eb ec k1 k2 k3=>Qac (fun k=>?_) (fun k=>⟨rfl,ck40.drew,?_⟩)))<;>simp only [b1s] at k
   ·have ht:tl v=[]:=List.length_eq_zero_iff.1 (by omega)
    refine Qcb (i:=2) (by omega) (Qaf (n:=nI tl (vs.take i) G r) r40d rfl (Qcb (i:=2) (by omega) (Qao r40d (by simp) rfl fun w50 c50 r50=>⟨rfl,ck40.drew.trans c50,?_⟩)))
    rw [wrap64_in (x:=nI tl (vs.take i) G r+1) (by omega) (by omega)] at r50
    rw [et,Zav,if_pos ⟨hgr,ht⟩]
    exact r50
   ·have ht:tl v≠[]:=fun e=>k (by rw [e];rfl)
    rw [et,Zav,if_neg (fun k=>ht k.2)]
    simpa using (show Row w40.drew.heap A13 154 _ from r40)
  rintro _ w51 ⟨_,ck51,r51⟩
  have hlv:=hdeg v hvm
  let J2:Nat→List Value→World→Prop:=fun jj us w'=>∃k:Nat,us=[.int .i64 k]∧k≤(tl v).length∧Row w'.heap A13 154 [.int .i64 (nV (vs.take i) G r+1),.int .i64 (nH tl (vs.take i) G r+(((tl v).take k).filter evn).length),.int .i64 (nI tl (vs.take (i+1)) G r),.int .i64 c3']∧Chg (fun k=>k=A13) w14 w'∧jj=(tl v).length-k
  refine ⟨LI J2,LM J2,⟨_,0,rfl,Nat.zero_le _,by simpa using r51,ck51,rfl⟩,?_⟩
  intro _ k w55 hJ2
  obtain ⟨k,hus,hk,r55,ck55,hj2⟩:=hJ2.at
  simp only [vj] at hus
  subst hus
  have k55:=cw ck55.drew
  have r5d:Row w55.drew.heap A4 _ _:=ck55.drew.row (by omega) (c14.row (fun h=>h) r5')
  rw [Qad]
  refine Qai r5d rfl (rdI (w:=w55.drew) (hv.nob k55) hvi ((h.nob k55).rd hvV fun eb ec k1 k2 k3=>Qac (fun hk2=>?_) (fun hk2=>?_)))<;>simp only [b1s] at hk2
  ·have hkl:k<(tl v).length:=by omega
   obtain ⟨d,hd⟩:∃d,(tl v)[k]?=some d:=⟨_,List.getElem?_eq_getElem hkl⟩
   have ck552:=ck55.drew.drew
   have k552:=cw ck552
   have r5d2:Row w55.drew.drew.heap A4 _ _:=r5d
   have r55d:Row w55.drew.drew.heap A13 154 _:=r55
   have ek:(tl v).take (k+1)=(tl v).take k++[d]:=by rw [List.take_add_one,hd];rfl
   have bk1:=List.length_filter_le evn ((tl v).take k)
   have bk2:=List.length_take_le k (tl v)
   rw [wrap64_in (x:=(k:Int)+1) (by omega) (by omega),show ((k:Int)+1)=((k+1:Nat):Int) by omega]
   refine Qai r5d2 rfl (rdI (w:=w55.drew.drew) (hv.nob k552) hvi ((h.nob k552).rd hvV fun eb ec k1 k2 k3=>rdI (w:=w55.drew.drew) k1 hd ⟨by decide,?_⟩))
   rw [show Int.tmod (d:Int) 2=((d % 2:Nat):Int) by rw [Int.tmod_eq_emod_of_nonneg (by omega)];omega]
   refine Qac (fun he=>?_) (fun he=>?_)<;>simp only [b1s] at he
   ·have hev:evn d=true:=by unfold evn;rw [beq_iff_eq];omega
    refine Qcb (i:=1) (by omega) (Qaf (n:=nH tl (vs.take i) G r+(((tl v).take k).filter evn).length) r55d rfl (Qcb (i:=1) (by omega) (Qao r55d (by simp) rfl fun w71 c71 r71=>?_)))
    rw [wrap64_in (x:=nH tl (vs.take i) G r+(((tl v).take k).filter evn).length+1) (by omega) (by omega)] at r71
    refine LI.again (k:=(tl v).length-(k+1)) ⟨k+1,rfl,by omega,?_,ck552.trans c71,rfl⟩ (by rw [hj2];omega)
    rw [ek,List.filter_append,List.filter_cons_of_pos hev,List.length_append]
    simp only [List.filter_nil,List.length_cons,List.length_nil]
    have e1:nH tl (vs.take i) G r+((((tl v).take k).filter evn).length+(0+1):Nat)=nH tl (vs.take i) G r+(((tl v).take k).filter evn).length+1:=by omega
    rw [e1]
    exact r71
   ·have hev:¬evn d=true:=by unfold evn;rw [beq_iff_eq];omega
    refine LI.again (k:=(tl v).length-(k+1)) ⟨k+1,rfl,by omega,?_,ck552,rfl⟩ (by rw [hj2];omega)
    rw [ek,List.filter_append,List.filter_cons_of_neg hev]
    simpa using r55d
  ·have hkl:k=(tl v).length:=by omega
   refine fin c3' w55.drew ?_ ck55.drew
   rw [et,Zf8,Zf9,if_pos hgr,if_pos hgr,←et]
   rw [hkl,List.take_length] at r55
   exact r55
 ·have hil:i=vs.length:=by omega
  rw [hil,List.take_length] at r18
  have r5k:=ck.row (by omega) (c14.row (fun h=>h) r5')
  have r7k:=ck.row (by omega) (c14.row (fun h=>h) r7')
  refine Qdw r5k ((Zk4 (h.nob (cw ck)) hM (fun d hd=>Zf6 hM hd) z).mono ?_)
  rintro r' w75 ⟨xb,xl,xc,X,rfl,c75,xt,xle,hX⟩
  have hhd:∀j,j<xl→∃d,d∈X j∧(X j).head?=some d:=fun j hj=>by
   obtain ⟨d,o⟩:=hX.o j hj
   exact ⟨d,List.mem_of_mem_head? o.h,o.h⟩
  have ck75:Chg (fun k=>k=A13) w14 w75:=ck.trans c75.weak
  have r75:=c75.row (fun h=>h) r18
  have b1:=Q9g (tl:=tl) (vs:=vs) (lm:=G) (r:=r)
  have sz75:=ck75.size
  let J3:Nat→List Value→World→Prop:=fun jj us w'=>∃j:Nat,us=[.int .i64 j]∧j≤xl∧Row w'.heap A13 154 [.int .i64 (nV vs G r),.int .i64 (nH tl vs G r),.int .i64 (nI tl vs G r+nF tl N j X G r),.int .i64 c3]∧Chg (fun k=>k=A13) w14 w'∧Chg (fun k=>k=A13) w75 w'∧jj=xl-j
  refine ⟨_,_,_,rfl,LI J3,LM J3,⟨_,0,rfl,Nat.zero_le _,by simpa [nF] using r75,ck75,Chg.refl _ _,rfl⟩,?_⟩
  intro _ j w80 hJ3
  obtain ⟨j,hus,hjl,r80,ck80,cx80,hj3⟩:=hJ3.at
  simp only [vj] at hus
  subst hus
  have b4:=Zeg (tl:=tl) (N:=N) (j:=j) (X:=X) (lm:=G) (r:=r)
  refine Qac (fun hlt=>?_) (fun hlt=>?_)<;>simp only [b1s] at hlt
  ·have hjx:j<xl:=by omega
   obtain ⟨d,hdm,hdh⟩:=hhd j hjx
   obtain ⟨d',o⟩:=hX.o j hjx
   have hdd:=o.m d hdm
   have hhD:(X j).headD 0=d:=by rw [List.headD_eq_head?_getD,hdh];rfl
   have hdl:=hM.lt d hdd
   have r5d:Row w80.drew.heap A4 _ _:=ck80.drew.row (by omega) (c14.row (fun h=>h) r5')
   have lA13:=r14.lt
   have sck:=ck.size
   have xt80:=xt.keep cx80.drew fun i e=>by show i<_;omega
   refine Qdw r5d (xt80.rd hjx fun eb ec k1 k2 k3=>?_)
   have h0:(X j)[0]?=some d:=by rw [←List.head?_eq_getElem?];exact hdh
   have hX0:0<(X j).length:=(List.getElem?_eq_some_iff.1 h0).1
   refine rdI (w:=w80.drew) (j:=0) k1 h0 ((Qxi (h.nob (cw ck80.drew)) hM.toND z).mono ?_)
   rintro r' w89 ⟨y,k',rfl,c89,fd⟩
   obtain ⟨k',rfl,rfl,_⟩:=fd.on hM.toND hdd
   have ck89:Chg (fun k=>k=A13) w14 w89:=ck80.drew.trans c89.weak
   have cx89:Chg (fun k=>k=A13) w75 w89:=cx80.drew.trans c89.weak
   have r89:=c89.row (fun h=>h) (show Row w80.drew.heap A13 _ _ from r80)
   have hon:=z.ogn hdd
   rw [wrap64_in (x:=(j:Int)+1) (by omega) (by omega),show ((j:Int)+1)=((j+1:Nat):Int) by omega]
   refine ⟨_,_,rfl,Qac (fun k=>by simp only [b1s] at k;omega) (fun _=>rdI (gv.nob (cg ck89)) (gg hon) (Qac (fun k=>?_) (fun k=>?_)))⟩<;>simp only [b1s] at k
   ·refine Qcb (i:=2) (by omega) (Qaf (n:=nI tl vs G r+nF tl N j X G r) r89 rfl (Qcb (i:=2) (by omega) (Qao r89 (by simp) rfl fun w100 c100 r100=>?_)))
    rw [wrap64_in (x:=nI tl vs G r+nF tl N j X G r+1) (by omega) (by omega)] at r100
    refine LI.again (k:=xl-(j+1)) ⟨j+1,rfl,by omega,?_,ck89.trans c100,cx89.trans c100,rfl⟩ (by rw [hj3];omega)
    rw [Zga,hhD,if_pos (by omega)]
    have e1:nI tl vs G r+(nF tl N j X G r+1)=nI tl vs G r+nF tl N j X G r+1:=by omega
    rw [e1];exact r100
   ·refine LI.again (k:=xl-(j+1)) ⟨j+1,rfl,by omega,?_,ck89,cx89,rfl⟩ (by rw [hj3];omega)
    rw [Zga,hhD,if_neg (by omega)]
    simpa using r89
  ·have hjx:j=xl:=by omega
   rw [hjx] at r80
   have r7k:=ck80.row (by omega) (c14.row (fun h=>h) r7')
   simp only [Qad]
   refine Qaf (n:=nV vs G r) r80 rfl (Qaf (n:=nH tl vs G r) r80 rfl (Qaf (n:=nI tl vs G r+nF tl N xl X G r) r80 rfl (Qaf (n:=c3) r80 rfl ?_)))
   refine Qao r7k (by simp) rfl fun w105 c105 r105=>Qao r105 (by simp) rfl fun w106 c106 r106=>Qao r106 (by simp) rfl fun w107 c107 r107=>Qao r107 (by simp) rfl fun w108 c108 r108=>?_
   refine Qaf (n:=nV vs G r) r108 rfl (Qaf (n:=nH tl vs G r) r108 rfl (Qaf (n:=nI tl vs G r+nF tl N xl X G r) r108 rfl (Qaf (n:=c3) r108 rfl ⟨?_,xl,X,hX,hhd,xle,c3,rfl⟩)))
   exact (cw ck80).trans' (((c105.trans c106).trans c107).trans c108) fun k e=>.inr (by omega)
theorem rdIc {A:List Nat} (h:VA w b A.length 1 (ivs A)) (hd:A[j]?=some d) {K:Addr→Int→Prop} (k:∀a,(∀{w'},Chg Qaa w w'→w'.cell? a=some (.int .i64 (d:Nat)))→K a d):ixS b A.length (j:Int) 1 fun a=>ldI .i64 a w (K a):=by
 have hj:j<A.length:=(List.getElem?_eq_some_iff.1 hd).1
 refine h.ix hj fun g o e cs r _ hc=>?_
 have h0:cs[o]?=some (.int .i64 (d:Nat)):=by
  have:=hc 0 (by omega)
  rwa [Nat.mul_one,Nat.add_zero,Nat.add_zero,Zbl hd] at this
 exact Qaf (n:=(d:Int)) r h0 (k _ fun {w'} c=>by rw [(c.row (fun h=>h) r).cell];exact h0)
theorem Zii (hM:MP N tl) (hl:LM' n N tl G) {l l':Nat} {X X':Nat→List Nat} (hX:Fcs tl N l X) (hd:∀j,j<l→∃d,d∈X j∧(X j).head?=some d) (hX':Fcs tl N l' X') (hd':∀j,j<l'→∃d,d∈X' j∧(X' j).head?=some d):nF tl N l X G r=nF tl N l' X' G r:=by
 by_cases h:∃x,x∈dl tl N∧G (og tl N x)=r
 ·obtain ⟨x,hx,rfl⟩:=h
  have h1:nF tl N l X G (G (og tl N x))=fN tl N (og tl N x):=Zcp hM hl hx hX hd
  have h2:nF tl N l' X' G (G (og tl N x))=fN tl N (og tl N x):=Zcp hM hl hx hX' hd'
  rw [h1,h2]
 ·have key:∀{l:Nat} {X:Nat→List Nat},Fcs tl N l X→(∀j,j<l→∃d,d∈X j∧(X j).head?=some d)→nF tl N l X G r=0:=fun {l X} hX hd=>by
   unfold nF
   rw [List.filter_eq_nil_iff.2]
   ·rfl
   intro j hj k
   rw [List.mem_range] at hj
   rw [beq_iff_eq] at k
   obtain ⟨d,h1,h2⟩:=hd j hj
   obtain ⟨d',o⟩:=hX.o j hj
   have e:(X j).headD 0=d:=by rw [List.headD_eq_head?_getD,h2];rfl
   rw [e] at k
   exact h ⟨d,o.m d h1,k⟩
  rw [key hX hd,key hX' hd']
theorem Zk3 (h:TF w bad b n tl) (hM:MP N tl) (z:Sz N n m tl) (hb:∀v,n≤v→tl v=[]) (hv:VA w vb vs.length 1 (ivs vs)) (hs:VS n tl vs) :
  Calls Pg 25 #[.agg #[.int .i64 (m:Nat),.slice b n c],.slice vb vs.length vc] w fun r w'=>Chg Qaa w w'∧∃y,r=.returned (.bool y)∧(y=true↔Flt tl N):=by
 refine (Qtp _ _ _ _ _ _ _ _ (fun v' w'=>Chg Qaa w w'∧∃y,v'=.bool y∧(y=true↔Flt tl N)) ?_).mono (by rintro e w' ⟨v,rfl,k,y,rfl,k1⟩;exact ⟨k,y,rfl,k1⟩)
 unfold Qm5 nr
 have zn:=z.vn
 have zm:=z.em
 have zN:=z.nN
 have hvl:vs.length≤n:=Qbh hs.nd fun x hx=>hs.lt x hx
 refine Qak fun A w4 hA c4 r4=>Qdw r4 ((Q36 (h.nob c4) hM z).mono ?_)
 rintro r' w8 ⟨_,G,rfl,c8,⟨gb,gc,rfl,gv,go,gcap⟩,hG1,hG2⟩
 have lg:LG n N tl G:=⟨hG1,hG2⟩
 have hlm:=lg.lm hb
 have gl:((List.range n).map G).length=n:=by simp
 have gg:∀{i},i<n→((List.range n).map G)[i]?=some (G i):=fun {i} hi=>by rw [List.getElem?_map,List.getElem?_range hi];rfl
 have r8:=c8.row (fun h=>h) r4
 have c08:=c4.trans c8
 have hdeg:∀v,v∈vs→(tl v).length≤2097152:=fun v hv=>by
  have:=hs.lt v hv
  have:=Qzl hM.toND (v:=v) (by omega)
  omega
 let EQ:Nat→Prop:=fun v=>∃l X,Fcs tl N l X∧(∀j,j<l→∃d,d∈X j∧(X j).head?=some d)∧nV vs G v-nH tl vs G v+(nI tl vs G v+nF tl N l X G v)=2
 have yes:(∀v,v∈vs→G v=v→EQ v)→Flt tl N:=fun hall x hx=>by
  have ho:=Qis hx
  have hon:=z.ogn hx
  have hle:=(hG2 _ hon).1
  have hin:G (og tl N x)∈vs:=by
   rcases Zbv hM (hlm.gc _ hon) with k | ⟨_,k⟩
   ·rw [←k];exact hs.all _ hon fun e=>by rw [e] at ho;cases ho.1
   ·exact hs.all _ (by omega) k
  obtain ⟨l,X,hX,hd,_⟩:=hall _ hin (hG2 _ hon).2
  refine (Q5d hM zn hs hlm (fun x hx=>(hG2 x hx).2) hX hd).1 (fun v hv e=>?_) x hx
  obtain ⟨l',X',hX',hd',k⟩:=hall v hv e
  rw [Zii hM hlm hX hd hX' hd'];exact k
 have no:∀{v l X},v∈vs→G v=v→Fcs tl N l X→(∀j,j<l→∃d,d∈X j∧(X j).head?=some d)→nV vs G v-nH tl vs G v+(nI tl vs G v+nF tl N l X G v)≠2→¬Flt tl N:=fun {v l X} hv e hX hd hne hf=>
  hne ((Q5d hM zn hs hlm (fun x hx=>(hG2 x hx).2) hX hd).2 hf v hv e)
 let J:Nat→List Value→World→Prop:=fun jj us w'=>∃i:Nat,us=[.int .i64 i]∧i≤vs.length∧(∀v,v∈vs.take i→G v=v→EQ v)∧Chg Qaa w8 w'∧jj=vs.length-i
 refine ⟨_,_,_,rfl,LI J,LM J,⟨_,0,rfl,Nat.zero_le _,by simp,Chg.refl _ _,rfl⟩,?_⟩
 intro _ i w13 hJ
 obtain ⟨i,hus,hi,hok,ck,hj⟩:=hJ.at
 simp only [vj] at hus
 subst hus
 refine Qac (fun hlt=>?_) (fun hlt=>?_)<;>simp only [b1s] at hlt
 rotate_left
 ·exact ⟨c08.trans ck,true,rfl,fun _=>yes fun v hv=>hok v (by rw [List.take_of_length_le (by omega)];exact hv),fun _=>rfl⟩
 have hil:i<vs.length:=by omega
 obtain ⟨v,hvi⟩:∃v,vs[i]?=some v:=⟨_,List.getElem?_eq_getElem hil⟩
 have hvm:=List.mem_of_getElem? hvi
 have hvV:=hs.lt v hvm
 have et:vs.take (i+1)=vs.take i++[v]:=by rw [List.take_add_one,hvi];rfl
 rw [wrap64_in (x:=(i:Int)+1) (by omega) (by omega),show ((i:Int)+1)=((i+1:Nat):Int) by omega]
 have ckd:=ck.drew
 have next:∀{w2},Chg Qaa w8 w2→(G v=v→EQ v)→(LI J) [.int .i64 ((i+1:Nat):Int)] w2∧(LM J) [.int .i64 ((i+1:Nat):Int)] w2<(LM J) [.int .i64 (i:Nat)] w13:=fun {w2} k2 hv=>by
  refine LI.again (k:=vs.length-(i+1)) ⟨i+1,rfl,by omega,fun u hu e=>?_,k2,rfl⟩ (by rw [hj];omega)
  rw [et,List.mem_append,List.mem_singleton] at hu
  rcases hu with hu | rfl
  ·exact hok u hu e
  ·exact hv e
 have hv':∀{w2},Chg Qaa w8 w2→VA w2 vb vs.length 1 (ivs vs):=fun {w2} k=>hv.nob (c08.trans k)
 refine rdI (w:=w13.drew) (hv' ckd) hvi (rdI (w:=w13.drew) (gv.nob ckd) (gg hvV) (rdI (w:=w13.drew) (hv' ckd) hvi (Qac (fun k=>?_) (fun k=>?_))))<;>simp only [b1s] at k
 ·exact next ckd fun e=>absurd e (by omega)
 have hgv:G v=v:=by omega
 have ck2:=ckd.drew
 have hvr:=hv' ck2
 have r13:Row w13.drew.drew.heap A _ _:=ck2.row (fun h=>h) r8
 have h13:=h.nob (c08.trans ck2)
 generalize w13.drew.drew=w15 at *
 have b1:=Zau (vs:=vs) (lm:=G) (r:=v)
 have b2:=Zle (tl:=tl) (vs:=vs) (G:=G) (r:=v) hdeg
 have b3:=Q9g (tl:=tl) (vs:=vs) (lm:=G) (r:=v)
 have tail:∀{w35:World} {Q:Nat} {l:Nat} {X:Nat→List Nat} {c3:Int},Chg Qaa w8 w35→Fcs tl N l X→(∀j,j<l→∃d,d∈X j∧(X j).head?=some d)→l≤2*N→Row w35.heap Q 154 [.int .i64 (nV vs G v),.int .i64 (nH tl vs G v),.int .i64 (nI tl vs G v+nF tl N l X G v),.int .i64 c3]→
   ixA ⟨Q,0,none⟩ 4 (0:Int) 1 fun a36=>ldI .i64 a36 w35 fun n37=>ixA ⟨Q,0,none⟩ 4 (1:Int) 1 fun a38=>ldI .i64 a38 w35 fun n39=>ixA ⟨Q,0,none⟩ 4 (2:Int) 1 fun a40=>ldI .i64 a40 w35 fun n41=>
   bif ((IntKind.wrap .i64 ((IntKind.wrap .i64 (n37-n39))+n41)) != 2) then ((fun v' w'=>Chg Qaa w w'∧∃y,v'=Value.bool y∧(y=true↔Flt tl N)) (.bool false) w35) else ((LI J) [.int .i64 ((i+1:Nat):Int)] w35∧(LM J) [.int .i64 ((i+1:Nat):Int)] w35<(LM J) [.int .i64 (i:Nat)] w13):=by
  intro w35 Q l X c3 k35 hX hd hl r35
  have b4:=Zeg (tl:=tl) (N:=N) (j:=l) (X:=X) (lm:=G) (r:=v)
  refine Qcb (by omega) (Qaf (n:=nV vs G v) r35 rfl (Qcb (by omega) (Qaf (n:=nH tl vs G v) r35 rfl (Qcb (by omega) (Qaf (n:=nI tl vs G v+nF tl N l X G v) r35 rfl ?_)))))
  rw [wrap64_in (x:=nV vs G v-nH tl vs G v) (by omega) (by omega),wrap64_in (by omega) (by omega)]
  refine Qac (fun k=>?_) (fun k=>?_)<;>simp only [b1s] at k
  ·exact ⟨c08.trans k35,false,rfl,fun h=>by (cases h),fun hf=>absurd hf (no hvm hgv hX hd k)⟩
  ·exact next k35 fun _=>⟨l,X,hX,hd,k⟩
 have al:∀{u:World} {Q:Nat} {x0 x1 x2 x3:Int} {K:World→Prop},Row u.heap Q 154 [.int .i64 0,.int .i64 0,.int .i64 0,.int .i64 0]→(∀u',Chg (·=Q) u u'→Row u'.heap Q 154 [.int .i64 x0,.int .i64 x1,.int .i64 x2,.int .i64 x3]→K u')→
   sto ⟨Q,0,none⟩ (.int .i64 x0) u fun u1=>sto ⟨Q,0+1,none⟩ (.int .i64 x1) u1 fun u2=>sto ⟨Q,0+2,none⟩ (.int .i64 x2) u2 fun u3=>sto ⟨Q,0+3,none⟩ (.int .i64 x3) u3 K:=by
  intro u Q x0 x1 x2 x3 K r k
  exact Qao r (by simp) rfl fun w1 k1 r1=>Qao r1 (by simp) rfl fun w2 k2 r2=>Qao r2 (by simp) rfl fun w3 k3 r3=>Qao r3 (by simp) rfl fun w4 k4 r4=>k w4 (((k1.trans k2).trans k3).trans k4) r4
 refine Qdw r13 ?_
 refine rdIc hvr hvi fun a ha=>⟨?_,?_⟩
 ·refine (Zal h13 hM z lg hvr (fun v hv=>hs.lt v hv) (by omega)).mono ?_
  rintro r' w28 ⟨c28,l,X,hX,hd,hl,c3,rfl⟩
  refine ⟨_,_,_,_,rfl,Qak fun Q w31 hQ c31 r31=>?_⟩
  have s31:=c31.size
  have s28:=c28.size
  have s2:=ck2.size
  simp only [Qad]
  refine al r31 fun w35 c35 r35=>tail ((ck2.trans (c28.trans c31)).trans' c35 fun k e=>.inr (by omega)) hX hd hl r35
 ·refine Qak fun Q w43 hQ c43 r43=>⟨(ha c43),Qxq (c43.row (fun h=>h) r13) ?_⟩
  refine (Zal (h13.nob c43) hM z lg (hvr.nob c43) (fun v hv=>hs.lt v hv) (by omega)).mono ?_
  rintro r' w48 ⟨c48,l,X,hX,hd,hl,c3,rfl⟩
  have s43:=c43.size
  have s2:=ck2.size
  simp only [Qad]
  refine ⟨_,_,_,_,rfl,al (c48.row (fun h=>h) r43) fun w53 c53 r53=>tail ((ck2.trans (c43.trans c48)).trans' c53 fun k e=>.inr (by omega)) hX hd hl r53⟩
end
section
variable {w w':World} {bad:Nat→Prop} {b rb:Option Addr} {c rc N n m k v d j:Nat} {tl:Nat→List Nat}
theorem TF.rdc (h:TF w bad b N tl) (hv:v<N) {K:Addr→Option Addr→Nat→Nat→Prop} (k:∀a eb ec,VA w eb (tl v).length 1 (ivs (tl v))→Okb bad (tl v).length eb→(tl v).length≤ec→(∀{u},Chg Qaa w u→u.cell? a=some (.slice eb (tl v).length ec))→K a eb (tl v).length ec):ixS b N (v:Int) 1 fun a=>ldS a w (K a):=by
 obtain ⟨V,h1,h2,h3⟩:=h
 obtain ⟨eb,ec,e1,e2,e3,e4⟩:=h3 v hv
 refine h1.ix hv fun g o e cs r _ hc=>?_
 have h0:cs[o]?=some (.slice eb (tl v).length ec):=by
  have:=hc 0 (by omega)
  rwa [Nat.mul_one,Nat.add_zero,Nat.add_zero,Ze9 hv,e1] at this
 exact Qai r h0 (k _ eb ec e2 e3 e4 fun {u} c=>by rw [(c.row (fun h=>h) r).cell];exact h0)
theorem Q3l:(tlk tl j k v).Sublist (tl v):=by
 unfold tlk
 split
 ·exact List.Sublist.refl _
 ·split
  ·rename_i e;subst e;exact List.take_sublist _ _
  ·exact List.nil_sublist _
theorem Q4j {f g:Nat→List Nat} (h:∀v,(f v).Sublist (g v)):∀A:List Nat,(A.flatMap f).Sublist (A.flatMap g)
 | []=>List.Sublist.refl _
 | a::A=>by rw [List.flatMap_cons,List.flatMap_cons];exact (h a).append (Q4j h A)
theorem Zkm (nd:ND N tl):ND N (tlk tl j k):=
 ⟨nd.nd.sublist (Q4j (fun v=>Q3l) _),fun d hd=>nd.lt d ((Q4j (fun v=>Q3l) _).subset hd)⟩
theorem Zkl (z:Sz N n m tl):Sz N n m (tlk tl j k):=
 ⟨z.vn,z.em,fun v h1 h2=>by have:=Q3l (tl:=tl) (j:=j) (k:=k) (v:=v);rw [z.b v h1 h2] at this;exact List.sublist_nil.1 this,fun d hd=>z.e d ((Q4j (fun v=>Q3l) _).subset hd),z.nN⟩
theorem Zdn (hd:(tl j)[k]?=some d):upd (tlk tl j k) j ((tl j).take k++[d])=tlk tl j (k+1):=by
 funext v
 by_cases e:v=j
 ·subst e;rw [Qab,Q04,List.take_add_one,hd];rfl
 ·rw [Qag _ _ e];unfold tlk;rw [if_neg e,if_neg e]
set_option maxRecDepth 4000 in
theorem Zeb (hR:TF w bad rb k tl) (hM:MP N tl) (z:Sz N n m tl) (hk:k≤n) (hb:∀v,k≤v→tl v=[]) :
  Calls Pg 23 #[.int .i64 (n:Nat),.int .i64 (m:Nat),.slice rb k rc] w fun r w'=>∃b c,r=.returned (.tuple #[.agg #[.int .i64 (m:Nat),.slice b n c],.bool true])∧Chg Qaa w w'∧TF w' (fun g=>g<w.heap.size) b n tl:=by
 refine (Qtu _ _ _ _ _).go ?_
 unfold Qna nr
 have zn:=z.vn
 have zm:=z.em
 have zN:=z.nN
 refine Qak fun A3 w4 hA3 c4 r4=>Qac (fun h=>by simp only [b1s] at h;omega) (fun _=>?_)
 have s4:=c4.size
 have l4:=r4.lt
 refine (Zk2 (m:=(m:Int)) (bad:=fun g=>g<w4.heap.size) (by omega) fun g hg=>hg).mono ?_
 rintro r w10 ⟨b0,c0,rfl,c10,t0⟩
 have s10:=c10.size
 refine ⟨_,_,_,_,rfl,Qak fun A12 w13 hA12 c13 r13=>Qd3 r13 rfl (by intro v hv;simp at hv;rcases hv with rfl | rfl<;>rfl) fun w14 c14 r14=>?_⟩
 have s13:=c13.size
 have s14:=c14.size
 have l13:=r13.lt
 have c014:Chg Qaa w w14:=((c4.trans c10).trans c13).trans' c14 fun k e=>.inr (by omega)
 have r4':Row w14.heap A3 65 [.int .i64 0,.slice none 0 0]:=c14.row (by omega) ((c10.trans c13).row (fun h=>h) r4)
 have t14:TF w14 (fun g=>g<w4.heap.size∨g=A12) b0 n (tlk tl 0 0):=by
  rw [Zhr]
  refine (((t0.old (n:=w14.heap.size)).nob c13).keep c14 fun i e=>.inr ⟨by omega,by omega⟩).weak fun i e=>e.elim .inl fun e=>.inr ⟨by omega,by omega⟩
 have cw:∀{w'},Chg (fun g=>g=A12) w14 w'→Chg Qaa w w':=fun {w'} k=>c014.trans' k fun i e=>.inr (by omega)
 have hndj:∀{j},j<k→(tl j).Nodup:=fun {j} hj=>hM.nodup (by omega)
 let J:Nat→List Value→World→Prop:=fun jj us w'=>∃(i:Nat) (b':Option Addr) (c':Nat),us=[.int .i64 i]∧i≤k∧Row w'.heap A12 65 [.int .i64 (m:Nat),.slice b' n c']∧TF w' (fun g=>g<w4.heap.size∨g=A12) b' n (tlk tl i 0)∧Chg (fun g=>g=A12) w14 w'∧jj=k-i
 refine ⟨LI J,LM J,⟨_,0,b0,c0,rfl,Nat.zero_le _,r14,t14,Chg.refl _ _,rfl⟩,?_⟩
 intro _ i w18 hJ
 obtain ⟨i,b',c',hus,hi,r18,t18,ck,hj⟩:=hJ.at
 simp only [vj] at hus
 subst hus
 refine Qac (fun hlt=>?_) (fun hlt=>?_)<;>simp only [b1s] at hlt
 ·have hik:i<k:=by omega
  have hiN:i<N:=by omega
  have hlen:=Qzl hM.toND hiN
  let J2:Nat→List Value→World→Prop:=fun jj us w'=>∃(q:Nat) (b':Option Addr) (c':Nat),us=[.int .i64 q]∧q≤(tl i).length∧Row w'.heap A12 65 [.int .i64 (m:Nat),.slice b' n c']∧TF w' (fun g=>g<w4.heap.size∨g=A12) b' n (tlk tl i q)∧Chg (fun g=>g=A12) w14 w'∧jj=(tl i).length-q
  refine ⟨LI J2,LM J2,⟨_,0,b',c',rfl,Nat.zero_le _,r18,t18,ck,rfl⟩,?_⟩
  intro _ q w22 hJ2
  obtain ⟨q,b2,c2,hus,hq,r22,t22,ck2,hj2⟩:=hJ2.at
  simp only [vj] at hus
  subst hus
  refine (hR.nob (cw ck2)).rd hik fun eb ec k1 k2 k3=>Qac (fun hlt2=>?_) (fun hlt2=>?_)<;>simp only [b1s] at hlt2
  ·have hql:q<(tl i).length:=by omega
   obtain ⟨d,hd⟩:∃d,(tl i)[q]?=some d:=⟨_,List.getElem?_eq_getElem hql⟩
   have hdm:d∈tl i:=List.mem_of_getElem? hd
   have hddl:=Qa2.2 ⟨i,hiN,hdm⟩
   have hdlt:=z.e d hddl
   refine (hR.nob (cw ck2)).rd hik fun eb ec k1 k2 k3=>rdI k1 hd (Qdw r22 ((Qxi t22 (Zkm hM.toND) (Zkl z)).mono ?_))
   rintro r w33 ⟨y,y2,rfl,c33,fd⟩
   have hoff:∀x∈dl (tlk tl i q) N,(x:Int)≠(d:Nat):=fun x hx e=>by
    have hxd:x=d:=by omega
    subst hxd
    rcases (Q1g hM.toND hiN).1 hx with ⟨v,hv,h⟩ | h
    ·have:=hM.uniq (by omega) hiN h hdm;omega
    ·obtain ⟨q',hq'⟩:=List.getElem?_of_mem h
     have hl':=(List.getElem?_eq_some_iff.1 hq').1
     rw [List.length_take] at hl'
     rw [List.getElem?_take,if_pos (by omega)] at hq'
     have:=(List.getElem?_inj (by omega) (hndj hik)).1 (hq'.trans hd.symm)
     omega
   obtain ⟨rfl,rfl⟩:=fd.off hoff
   have ck33:=ck2.trans c33.weak
   have r33:=c33.row (fun h=>h) r22
   have t33:=t22.nob c33
   rw [wrap64_in (x:=(2:Int)*(m:Nat)) (by omega) (by omega),wrap64_in (x:=(q:Int)+1) (by omega) (by omega),show ((q:Int)+1)=((q+1:Nat):Int) by omega]
   refine ⟨_,_,rfl,fun us w'=>us=[.bool false]∧w'=w33,Qac (fun h=>by simp only [b1s] at h;omega) (fun _=>Qac (fun h=>by simp only [b1s] at h;omega) (fun _=>⟨rfl,rfl⟩)),?_⟩
   rintro _ bb w37 ⟨hbb,e37⟩
   rw [e37]
   simp only [List.cons.injEq,Value.bool.injEq,and_true] at hbb
   subst hbb
   refine Qac (fun h=>by cases h) (fun _=>?_)
   have ckd:=ck33.drew
   have rd:Row w33.drew.heap A12 65 _:=r33
   have td:TF w33.drew (fun g=>g<w4.heap.size∨g=A12) b2 n (tlk tl i q):=t33
   generalize w33.drew=w40 at *
   have s40:=ckd.size
   have hin:i<n:=by omega
   have eat:tlk tl i q i=(tl i).take q:=Q04
   have lq:((tl i).take q).length=q:=by rw [List.length_take];omega
   have tail:∀{u:World} {V:Value},Chg Qaa w40 u→LA u (fun g=>g<w40.heap.size) V ((tl i).take q++[d])→Calls Pg 69 #[.agg #[.int .i64 (m:Nat),.slice b2 n c2],.int .i64 (i:Nat),V] u fun e55 w54=>∃n52 s53b s53l s53c,e55=.returned (.agg #[.int .i64 n52,.slice s53b s53l s53c])∧
     sts ⟨A12,0,none⟩ 0 [.int .i64 n52,.slice s53b s53l s53c] w54 fun w56=>(LI J2) [.int .i64 ((q+1:Nat):Int)] w56∧(LM J2) [.int .i64 ((q+1:Nat):Int)] w56<(LM J2) [.int .i64 (q:Nat)] w22:=by
    intro u V cu hV
    have su:=cu.size
    refine (Zaj (td.nob cu) hin (by omega) (hV.weak fun g hg=>by show g<_;rcases hg with hg | hg<;>omega) (fun g hg=>by rcases hg with hg | hg<;>omega)).mono ?_
    rintro r w54 ⟨b5,c5,rfl,c54,t54⟩
    have s54:=c54.size
    refine ⟨_,_,_,_,rfl,Qd3 (c54.row (fun h=>h) (cu.row (fun h=>h) rd)) rfl (by intro v hv;simp at hv;rcases hv with rfl | rfl<;>rfl) fun w56 c56 r56=>?_⟩
    rw [Zdn hd] at t54
    exact LI.again (k:=(tl i).length-(q+1)) ⟨q+1,b5,c5,rfl,by omega,r56,t54.keep c56 fun g e=>.inr e,(ckd.trans (cu.trans c54).weak).trans c56,rfl⟩ (by rw [hj2];omega)
   rw [Qad]
   refine Qdw rd (Qai rd rfl ?_)
   refine td.rdc hin fun a eb ec v1 v2 v3 hc=>?_
   rw [eat] at v1 v2 v3 hc ⊢
   rw [lq] at v1 v2 v3 hc ⊢
   refine ⟨?_,?_⟩
   ·obtain ⟨b6,c6,w47,g47,o47,c47⟩:=Qdm (sc:=ec) Qdv (ty:=58) v1 Qwj (by omega) (by omega)
    have s47:=c47.size
    refine ⟨b6,_,c6,w47,g47,Qxq (c47.row (fun h=>h) rd) (Qak fun B w49 hB c49 r49=>Qxq ((c47.trans c49).row (fun h=>h) rd) ?_)⟩
    have s49:=c49.size
    obtain ⟨b7,c7,w51,g51,o51,c51,_⟩:=Qaw (ty:=58) Qdv (o47.keep c49 fun _ _ h=>h) r49 rfl (by intro u hu;simp at hu;subst hu;rfl) (by omega) (by omega) (by omega)
    have cu:Chg Qaa w40 w51:=(c47.trans c49).trans' c51 fun g e=>.inr (o47.Qar e).1
    refine ⟨b7,_,c7,w51,g51,Qxq (cu.row (fun h=>h) rd) (tail cu ?_)⟩
    have e1:ivs ((tl i).take q)++[.int .i64 (d:Int)]=ivs ((tl i).take q++[d]):=by simp [ivs]
    have e2:q+1=((tl i).take q++[d]).length:=by rw [List.length_append,lq];rfl
    rw [e1,e2] at o51
    exact ⟨b7,c7,by rw [←e2],VA.Qa6 o51,fun g _ hg hb'=>by have:=(o51.Qar hg).1;(have hb':g<w40.heap.size:=hb');omega,o51.cap.1⟩
   ·refine Qak fun B w58 hB c58 r58=>⟨hc c58,by rw [(c58.row (fun h=>h) rd).cell];rfl,Qxq (c58.row (fun h=>h) rd) ?_⟩
    have s58:=c58.size
    obtain ⟨b6,c6,w47,g47,o47,c47⟩:=Qdm (sc:=ec) Qdv (ty:=58) (v1.nob c58) Qwj (by omega) (by omega)
    have s47:=c47.size
    refine ⟨b6,_,c6,w47,g47,Qxq ((c58.trans c47).row (fun h=>h) rd) ?_⟩
    obtain ⟨b7,c7,w51,g51,o51,c51,_⟩:=Qaw (ty:=58) Qdv o47 (c47.row (fun h=>h) r58) rfl (by intro u hu;simp at hu;subst hu;rfl) (by omega) (by omega) (by omega)
    have cu:Chg Qaa w40 w51:=(c58.trans c47).trans' c51 fun g e=>.inr (by have:=(o47.Qar e).1;omega)
    refine ⟨b7,_,c7,w51,g51,Qxq (cu.row (fun h=>h) rd) (tail cu ?_)⟩
    have e1:ivs ((tl i).take q)++[.int .i64 (d:Int)]=ivs ((tl i).take q++[d]):=by simp [ivs]
    have e2:q+1=((tl i).take q++[d]).length:=by rw [List.length_append,lq];rfl
    rw [e1,e2] at o51
    exact ⟨b7,c7,by rw [←e2],VA.Qa6 o51,fun g _ hg hb'=>by have:=(o51.Qar hg).1;(have hb':g<w40.heap.size:=hb');omega,o51.cap.1⟩
  ·have hql:q=(tl i).length:=by omega
   rw [Q3m hql] at t22
   rw [wrap64_in (x:=(i:Int)+1) (by omega) (by omega),show ((i:Int)+1)=((i+1:Nat):Int) by omega]
   exact LI.again (k:=k-(i+1)) ⟨i+1,b2,c2,rfl,by omega,r22,t22,ck2,rfl⟩ (by rw [hj];omega)
 ·have hik:i=k:=by omega
  rw [hik,Q50 hb] at t18
  refine Qdw r18 ((Q37 t18 hM.toND z).mono ?_)
  rintro r w71 ⟨_,rfl,c71,db,dc,rfl,dv,do_,dcap⟩
  have ck71:=ck.trans c71.weak
  have t71:=t18.nob c71
  have r71:=c71.row (fun h=>h) r18
  have hDm:∀{x},x∈(List.range (2*m)).filter (fun d=>decide (d∈dl tl N))→x∈dl tl N:=fun {x} h=>by
   rw [List.mem_filter,decide_eq_true_iff] at h;exact h.2
  have hDn:((List.range (2*m)).filter (fun d=>decide (d∈dl tl N))).length≤2*m:=by
   have:=List.length_filter_le (fun d=>decide (d∈dl tl N)) (List.range (2*m))
   rwa [List.length_range] at this
  generalize (List.range (2*m)).filter (fun d=>decide (d∈dl tl N))=DL at *
  let J3:Nat→List Value→World→Prop:=fun jj us w'=>∃q:Nat,us=[.int .i64 q]∧q≤DL.length∧Chg Qaa w71 w'∧jj=DL.length-q
  refine ⟨_,_,_,rfl,LI J3,LM J3,⟨_,0,rfl,Nat.zero_le _,Chg.refl _ _,rfl⟩,?_⟩
  intro _ q w76 hJ3
  obtain ⟨q,hus,hq,cq,hj3⟩:=hJ3.at
  simp only [vj] at hus
  subst hus
  have r76:=cq.row (fun h=>h) r71
  have t76:=t71.nob cq
  have ck76:=ck71.trans cq.weak
  refine Qac (fun hlt3=>?_) (fun hlt3=>?_)<;>simp only [b1s] at hlt3
  ·have hql:q<DL.length:=by omega
   obtain ⟨d,hd⟩:∃d,DL[q]?=some d:=⟨_,List.getElem?_eq_getElem hql⟩
   have hdd:=hDm (List.mem_of_getElem? hd)
   have htw:=hM.tw d hdd
   have hlt:=hM.lt d hdd
   refine rdI (dv.nob cq) hd (rdI (dv.nob cq) hd ⟨by decide,?_⟩)
   rw [show Int.tmod (d:Int) 2=((d % 2:Nat):Int) by rw [Int.tmod_eq_emod_of_nonneg (by omega)];omega,wrap64_in (x:=(q:Int)+1) (by omega) (by omega),show ((q:Int)+1)=((q+1:Nat):Int) by omega]
   refine Qac (fun he=>rdI (dv.nob cq) hd (Qdw r76 ?_)) (fun he=>Qdw r76 ?_)<;>simp only [b1s] at he
   ·have e1:IntKind.wrap .i64 ((d:Int)-1)=((tw d:Nat):Int):=by rw [wrap64_in (by omega) (by omega)];unfold tw;rw [if_neg (by omega)];omega
    rw [e1]
    refine (Qxi t76 hM.toND z).mono ?_
    rintro r w87 ⟨y,y2,rfl,c87,fd⟩
    obtain ⟨y2,rfl,rfl,_⟩:=fd.on hM.toND htw
    exact ⟨_,_,rfl,Qac (fun h=>by simp only [b1s] at h;omega) (fun _=>LI.again (k:=DL.length-(q+1)) ⟨q+1,rfl,by omega,cq.trans c87,rfl⟩ (by rw [hj3];omega))⟩
   ·have e1:IntKind.wrap .i64 ((d:Int)+1)=((tw d:Nat):Int):=by rw [wrap64_in (by omega) (by omega)];unfold tw;rw [if_pos (by omega)];omega
    rw [e1]
    refine (Qxi t76 hM.toND z).mono ?_
    rintro r w87 ⟨y,y2,rfl,c87,fd⟩
    obtain ⟨y2,rfl,rfl,_⟩:=fd.on hM.toND htw
    exact ⟨_,_,rfl,Qac (fun h=>by simp only [b1s] at h;omega) (fun _=>LI.again (k:=DL.length-(q+1)) ⟨q+1,rfl,by omega,cq.trans c87,rfl⟩ (by rw [hj3];omega))⟩
  ·have r4k:=(c71.trans cq).row (fun h=>h) (ck.row (by omega) r4')
   have l4':=r4'.lt
   refine Qdw r76 (Qd3 r4k rfl (by intro v hv;simp at hv;rcases hv with rfl | rfl<;>rfl) fun w103 c103 r103=>Qdw r103 ⟨b',c',rfl,?_,?_⟩)
   ·exact (cw ck76).trans' c103 fun g e=>.inr (by omega)
   ·exact (t76.keep c103 fun g e=>.inl (by omega)).weak fun g hg=>.inl (Nat.lt_of_lt_of_le hg s4)
end
end Core
end Go.Proofs.YtfeekmmfdkfgmaaGreatDoor
namespace Go.Proofs.YtfeekmmfdkfgmaaGreatDoor
open Go Go.RowKit
set_option linter.unnecessarySimpa false
namespace Core
def rdN (k:Nat) (xs:List Nat):Option (Nat × List Nat):=if xs.length<k then none else some (nb (xs.take k),xs.drop k)
theorem Zk7:∀{l:List Nat} {k:Nat},l.length=k→Bt l→pbs (nb l) k=l:=by
 have key:∀(l:List Nat) (k v:Nat),l.length=k→Bt l→pbs (l.foldl (fun v c=>v*256+c) v) k=l:=by
  intro l
  induction l with
  | nil=>intro k v h _;subst h;rfl
  | cons a l ih=>
   intro k v h hb
   obtain ⟨k,rfl⟩:∃m,k=m+1:=⟨l.length,by rw [←h];rfl⟩
   have hl:l.length=k:=by simpa using h
   have hb':Bt l:=fun x hx=>hb x (List.mem_cons_of_mem _ hx)
   rw [pbs,List.foldl_cons,ih k _ hl hb']
   congr 1
   have h1:=Q1f (l:=l) (k:=k) (by omega) hb'
   have ha:=hb a (by simp)
   have e:∀(l:List Nat) (v:Nat),l.foldl (fun v c=>v*256+c) v=v*256 ^ l.length+nb l:=by
    intro l
    induction l with
    | nil=>intro v;simp [nb]
    | cons b l ih=>
     intro v
     have h1:=ih (v*256+b)
     have h2:=ih b
     have h3:nb (b::l)=l.foldl (fun v c=>v*256+c) b:=by unfold nb;rw [List.foldl_cons,Nat.zero_mul,Nat.zero_add]
     rw [List.foldl_cons,h1,h3,h2,List.length_cons,Nat.pow_succ,Nat.add_mul,Nat.mul_assoc,Nat.mul_comm 256 (256 ^ l.length),Nat.add_assoc]
   rw [e,hl]
   have hp:0<256 ^ k:=Nat.pow_pos (by decide)
   rw [Nat.add_comm,Nat.add_mul_div_right _ _ hp,Nat.div_eq_of_lt h1]
   omega
 intro l k h hb
 exact key l k 0 h hb
theorem Qgs {k v:Nat} {xs r:List Nat} (hb:Bt xs) (h:rdN k xs=some (v,r)):xs=pbs v k++r∧v<256 ^ k:=by
 unfold rdN at h
 split at h
 ·cases h
 ·cases h
  have hl:(xs.take k).length=k:=by rw [List.length_take];omega
  rw [Zk7 hl (hb.take k),List.take_append_drop]
  exact ⟨rfl,Q1f (by omega) (hb.take k)⟩
theorem Bt.Qpz {a b:List Nat} (h:Bt (a++b)):Bt a∧Bt b:=⟨fun x hx=>h x (List.mem_append_left _ hx),fun x hx=>h x (List.mem_append_right _ hx)⟩
def rdP:Nat→List Nat→Option (List (Nat × Nat) × List Nat)
 | 0,xs=>some ([],xs)
 | n+1,xs=>(rdN 4 xs).bind fun a=>(rdN 1 a.2).bind fun s=>(rdP n s.2).bind fun l=>some ((a.1,s.1)::l.1,l.2)
def npy (p:Nat × Nat):List Nat:=pbs p.1 4++pbs p.2 1
theorem Q33:∀{n:Nat} {xs r:List Nat} {l:List (Nat × Nat)},Bt xs→rdP n xs=some (l,r)→l.length=n∧xs=l.flatMap npy++r∧∀p∈l,p.1<4294967296∧p.2<256
 | 0,xs,r,l,hb,h=>by cases h;exact ⟨rfl,rfl,fun p hp=>by cases hp⟩
 | n+1,xs,r,l,hb,h=>by
  unfold rdP at h
  obtain ⟨⟨a,ys⟩,h1,h⟩:=Option.bind_eq_some_iff.1 h
  obtain ⟨⟨s,zs⟩,h2,h⟩:=Option.bind_eq_some_iff.1 h
  obtain ⟨⟨l',r'⟩,h3,h⟩:=Option.bind_eq_some_iff.1 h
  cases h
  obtain ⟨e1,b1⟩:=Qgs hb h1
  have hy:Bt ys:=(Bt.Qpz (e1 ▸ hb)).2
  obtain ⟨e2,b2⟩:=Qgs hy h2
  have hz:Bt zs:=(Bt.Qpz (e2 ▸ hy)).2
  obtain ⟨k1,k2,k3⟩:=Q33 hz h3
  refine ⟨by simp [k1],?_,fun p hp=>?_⟩
  ·rw [e1,e2,k2];simp [npy]
  ·rcases List.mem_cons.1 hp with rfl | hp
   ·exact ⟨b1,b2⟩
   ·exact k3 p hp
structure ER where
 a:Nat
 s:Nat
 f0:Nat
 n0:Nat
 f1:Nat
 n1:Nat
 w:Nat
def ER.ok (x:ER):Prop:=x.a<4294967296∧x.s<256∧x.f0<4294967296∧x.n0<4294967296∧x.f1<4294967296∧x.n1<4294967296∧x.w<4294967296∧(x.s≠1→x.f0=0∧x.n0=0∧x.f1=0∧x.n1=0∧x.w=0)
def ER.by_ (x:ER):List Nat:=pbs x.a 4++pbs x.s 1++if x.s=1 then pbs x.f0 4++pbs x.n0 4++pbs x.f1 4++pbs x.n1 4++pbs x.w 4 else []
def rdE (xs:List Nat):Option (ER × List Nat):=(rdN 4 xs).bind fun a=>(rdN 1 a.2).bind fun s=>
 if s.1=1 then (rdN 4 s.2).bind fun f0=>(rdN 4 f0.2).bind fun n0=>(rdN 4 n0.2).bind fun f1=>(rdN 4 f1.2).bind fun n1=>(rdN 4 n1.2).bind fun w=>some (⟨a.1,s.1,f0.1,n0.1,f1.1,n1.1,w.1⟩,w.2)
 else some (⟨a.1,s.1,0,0,0,0,0⟩,s.2)
def rdEs:Nat→List Nat→Option (List ER × List Nat)
 | 0,xs=>some ([],xs)
 | n+1,xs=>(rdE xs).bind fun e=>(rdEs n e.2).bind fun l=>some (e.1::l.1,l.2)
theorem Zd4 {xs r:List Nat} {x:ER} (hb:Bt xs) (h:rdE xs=some (x,r)):xs=x.by_++r∧x.ok:=by
 unfold rdE at h
 obtain ⟨⟨a,x1⟩,h1,h⟩:=Option.bind_eq_some_iff.1 h
 obtain ⟨⟨s,x2⟩,h2,h⟩:=Option.bind_eq_some_iff.1 h
 obtain ⟨e1,b1⟩:=Qgs hb h1
 have hb1:Bt x1:=(Bt.Qpz (e1 ▸ hb)).2
 obtain ⟨e2,b2⟩:=Qgs hb1 h2
 have hb2:Bt x2:=(Bt.Qpz (e2 ▸ hb1)).2
 dsimp only at h
 by_cases hs:s=1
 ·rw [if_pos hs] at h
  obtain ⟨⟨f0,x3⟩,h3,h⟩:=Option.bind_eq_some_iff.1 h
  obtain ⟨⟨n0,x4⟩,h4,h⟩:=Option.bind_eq_some_iff.1 h
  obtain ⟨⟨f1,x5⟩,h5,h⟩:=Option.bind_eq_some_iff.1 h
  obtain ⟨⟨n1,x6⟩,h6,h⟩:=Option.bind_eq_some_iff.1 h
  obtain ⟨⟨ww,x7⟩,h7,h⟩:=Option.bind_eq_some_iff.1 h
  cases h
  obtain ⟨e3,b3⟩:=Qgs hb2 h3
  have hb3:Bt x3:=(Bt.Qpz (e3 ▸ hb2)).2
  obtain ⟨e4,b4⟩:=Qgs hb3 h4
  have hb4:Bt x4:=(Bt.Qpz (e4 ▸ hb3)).2
  obtain ⟨e5,b5⟩:=Qgs hb4 h5
  have hb5:Bt x5:=(Bt.Qpz (e5 ▸ hb4)).2
  obtain ⟨e6,b6⟩:=Qgs hb5 h6
  have hb6:Bt x6:=(Bt.Qpz (e6 ▸ hb5)).2
  obtain ⟨e7,b7⟩:=Qgs hb6 h7
  refine ⟨?_,b1,b2,b3,b4,b5,b6,b7,fun k=>absurd hs k⟩
  unfold ER.by_
  rw [if_pos hs,e1,e2,e3,e4,e5,e6,e7]
  simp only [List.append_assoc]
 ·rw [if_neg hs] at h
  cases h
  refine ⟨?_,b1,b2,Nat.succ_pos _,Nat.succ_pos _,Nat.succ_pos _,Nat.succ_pos _,Nat.succ_pos _,fun _=>⟨rfl,rfl,rfl,rfl,rfl⟩⟩
  unfold ER.by_
  rw [if_neg hs,e1,e2]
  simp only [List.append_assoc,List.append_nil]
theorem Q1c:∀{n:Nat} {xs r:List Nat} {l:List ER},Bt xs→rdEs n xs=some (l,r)→l.length=n∧xs=l.flatMap ER.by_++r∧∀x∈l,x.ok
 | 0,xs,r,l,hb,h=>by cases h;exact ⟨rfl,rfl,fun p hp=>by cases hp⟩
 | n+1,xs,r,l,hb,h=>by
  unfold rdEs at h
  obtain ⟨⟨e,ys⟩,h1,h⟩:=Option.bind_eq_some_iff.1 h
  obtain ⟨⟨l',r'⟩,h3,h⟩:=Option.bind_eq_some_iff.1 h
  cases h
  obtain ⟨e1,b1⟩:=Zd4 hb h1
  have hy:Bt ys:=(Bt.Qpz (e1 ▸ hb)).2
  obtain ⟨k1,k2,k3⟩:=Q1c hy h3
  refine ⟨by simp [k1],?_,fun p hp=>?_⟩
  ·rw [e1,k2];simp
  ·rcases List.mem_cons.1 hp with rfl | hp
   ·exact b1
   ·exact k3 p hp
structure RM where
 N:Nat
 P:List (Nat × Nat)
 E:List ER
def RM.ok (m:RM):Prop:=m.N<4294967296∧m.P.length<4294967296∧m.E.length<4294967296∧(∀p∈m.P,p.1<4294967296∧p.2<256)∧∀x∈m.E,x.ok
def RM.by_ (m:RM):List Nat:=pbs m.N 4++pbs m.P.length 4++m.P.flatMap npy++pbs m.E.length 4++m.E.flatMap ER.by_
def rdM (xs:List Nat):Option RM:=(rdN 4 xs).bind fun n=>(rdN 4 n.2).bind fun k=>(rdP k.1 k.2).bind fun P=>(rdN 4 P.2).bind fun j=>(rdEs j.1 j.2).bind fun E=>if E.2=[] then some ⟨n.1,P.1,E.1⟩ else none
theorem Q35 {xs:List Nat} {m:RM} (hb:Bt xs) (h:rdM xs=some m):xs=m.by_∧m.ok:=by
 unfold rdM at h
 obtain ⟨⟨n,x1⟩,h1,h⟩:=Option.bind_eq_some_iff.1 h
 obtain ⟨⟨k,x2⟩,h2,h⟩:=Option.bind_eq_some_iff.1 h
 obtain ⟨⟨P,x3⟩,h3,h⟩:=Option.bind_eq_some_iff.1 h
 obtain ⟨⟨j,x4⟩,h4,h⟩:=Option.bind_eq_some_iff.1 h
 obtain ⟨⟨E,x5⟩,h5,h⟩:=Option.bind_eq_some_iff.1 h
 obtain ⟨e1,b1⟩:=Qgs hb h1
 have hb1:Bt x1:=(Bt.Qpz (e1 ▸ hb)).2
 obtain ⟨e2,b2⟩:=Qgs hb1 h2
 have hb2:Bt x2:=(Bt.Qpz (e2 ▸ hb1)).2
 obtain ⟨l3,e3,b3⟩:=Q33 hb2 h3
 have hb3:Bt x3:=(Bt.Qpz (e3 ▸ hb2)).2
 obtain ⟨e4,b4⟩:=Qgs hb3 h4
 have hb4:Bt x4:=(Bt.Qpz (e4 ▸ hb3)).2
 obtain ⟨l5,e5,b5⟩:=Q1c hb4 h5
 dsimp only at h e2 e4 l3 l5
 split at h
 ·rename_i h0
  cases h
  subst h0 l3 l5
  refine ⟨?_,b1,b2,b4,b3,b5⟩
  unfold RM.by_
  rw [e1,e2,e3,e4,e5]
  simp only [List.append_assoc,List.append_nil]
 ·cases h
end Core
end Go.Proofs.YtfeekmmfdkfgmaaGreatDoor
namespace Go.Proofs.YtfeekmmfdkfgmaaGreatDoor
open Go Go.RowKit
set_option linter.unnecessarySimpa false
namespace Core
set_option linter.ambiguousOpen false
open Seq Cut Web
structure OA (w:World) (base A n:Nat) (out:Nat→List Nat) (vb:Option Addr):Prop where
 ex:∃(B:Nat→Option Addr) (C:Nat→Nat),Row w.heap A 58 (recs (fun i=>[.slice (B i) (out i).length (C i)]) n)∧(∀i,i<n→Own w base 3 1 (B i) (out i).length (C i) (ivs (out i)))∧(∀i j g,i<n→j<n→bk (B i)=some g→bk (B j)=some g→i=j)∧∀i g,i<n→bk (B i)=some g→bk vb≠some g
 lt:A<base
 sz:base≤w.heap.size
 vb:∀g,bk vb=some g→base≤g∧g<w.heap.size
section
variable {w w':World} {base A n v:Nat} {out:Nat→List Nat} {x:Nat} {S:Nat→Prop} {vb vb':Option Addr}
theorem OA.nob (h:OA w base A n out vb) (k:Chg Qaa w w'):OA w' base A n out vb:=by
 obtain ⟨B,C,r,o,d,e⟩:=h.ex
 have:=k.size
 have:=h.sz
 exact ⟨⟨B,C,k.row (fun h=>h) r,fun i hi=>(o i hi).keep k fun g hg hs=>hs,d,e⟩,h.lt,by omega,fun g hg=>by have:=h.vb g hg;omega⟩
theorem OA.vert (h:OA w base A n out vb) (k:Chg (fun k=>bk vb=some k) w w') (hb:bk vb'=bk vb∨bk vb'=some w.heap.size) (hv:∀g,bk vb'=some g→g<w'.heap.size):OA w' base A n out vb':=by
 obtain ⟨B,C,r,o,d,e⟩:=h.ex
 have:=k.size
 have:=h.sz
 have:=h.lt
 refine ⟨⟨B,C,k.row (fun j=>by have:=h.vb _ j;omega) r,fun i hi=>(o i hi).keep k fun g hg hs=>e i g hi hg hs,d,fun i g hi hg hs=>?_⟩,h.lt,by omega,fun g hg=>⟨?_,hv g hg⟩⟩
 ·rcases hb with hb | hb
  ·exact e i g hi hg (hb ▸ hs)
  ·have:=((o i hi).Qar hg).2
   rw [hb] at hs;cases hs;omega
 ·rcases hb with hb | hb
  ·exact (h.vb g (hb ▸ hg)).1
  ·rw [hb] at hg;cases hg;omega
theorem OA.push (h:OA w base A n out vb) (hv:v<n) (hl:(out v).length≤1000000000) {K:World→Prop} (k:∀w',OA w' base A n (upd out v (out v++[x])) vb→Chg (fun k=>k=A∨(base≤k∧bk vb≠some k)) w w'→K w') :
  ixS (some ⟨A,0,none⟩) n (v:Int) 1 fun a38=>ldS a38 w fun b l c=>alo #[.int .i64 (x:Nat)] 3 w fun a40 w41=>∃s42b s42l s42c w43,(Builtin.append_ #[58,58] 58 #[.slice b l c,.slice (some a40) 1 1]).run Pg w41=.ok (.slice s42b s42l s42c) w43∧ixS (some ⟨A,0,none⟩) n (v:Int) 1 fun a44=>sto a44 (.slice s42b s42l s42c) w43 K:=by
 obtain ⟨B,C,r,o,d,e⟩:=h.ex
 have hlt:=h.lt
 have hsz:=h.sz
 refine Qat hv (Qai (x:=B v) (l:=(out v).length) (c:=C v) r ?_ (Qak fun a w41 ha c41 r41=>?_))
 ·rw [show 0+v*1=v*1+0 by omega,Qdb (sz:=1) (fun i=>[Value.slice (B i) (out i).length (C i)]) Qvf hv (by omega)]
  rfl
 have s41:=c41.size
 obtain ⟨b',c',w43,hrun,o43,c43,hb⟩:=Qaw (ty:=58) Qdv ((o v hv).keep c41 fun _ _ h=>h) r41 rfl (by intro u hu;simp at hu;subst hu;rfl) (by omega) (by omega) (by omega)
 refine ⟨b',_,c',w43,hrun,Qat hv ?_⟩
 have r43:=c43.row (fun e=>by have:=((o v hv).Qar e).1;omega) (c41.row (fun h=>h) r)
 refine Qao r43 ?_ rfl fun w45 c45 r45=>k w45 ⟨⟨upd B v b',upd C v c',?_,?_,?_,?_⟩,hlt,?_,?_⟩ ?_
 ·rw [Qah (sz:=1) (fun i=>[Value.slice (B i) (out i).length (C i)]) Qvf];omega
 ·rw [show 0+v*1=v*1+0 by omega,Qca (sz:=1) (fun i=>[Value.slice (B i) (out i).length (C i)]) Qvf (g:=fun i=>[Value.slice (upd B v b' i) (upd out v (out v++[x]) i).length (upd C v c' i)]) hv (by omega) (fun j hj=>by simp only [Qag _ _ hj]) (by simp only [Qab];simp)] at r45
  exact r45
 ·intro i hi
  by_cases e:i=v
  ·subst e
   rw [Qab,Qab,Qab,List.length_append]
   have:=o43.keep c45 fun g hg e=>by have:=(o43.Qar hg).1;omega
   simpa [ivs] using this
  ·rw [Qag _ _ e,Qag _ _ e,Qag _ _ e]
   refine (((o i hi).keep c41 fun _ _ h=>h).keep c43 fun g hg h2=>e (d i v g hi hv hg h2)).keep c45 fun g hg e=>by have:=((o i hi).Qar hg).1;omega
 ·have key:∀j g,j<n→j≠v→bk (B j)=some g→bk b'=some g→False:=by
   intro j g hj hne h1 h2
   rcases hb with h3 | h3
   ·exact hne (d j v g hj hv h1 (h3 ▸ h2))
   ·rw [h3] at h2;cases h2
    have:=((o j hj).Qar h1).2;omega
  intro i j g hi hj h1 h2
  by_cases e1:i=v<;>by_cases e2:j=v
  ·omega
  ·subst e1;rw [Qab] at h1;rw [Qag _ _ e2] at h2;exact (key j g hj e2 h2 h1).elim
  ·subst e2;rw [Qab] at h2;rw [Qag _ _ e1] at h1;exact (key i g hi e1 h1 h2).elim
  ·rw [Qag _ _ e1] at h1;rw [Qag _ _ e2] at h2;exact d i j g hi hj h1 h2
 ·intro i g hi h1 h2
  by_cases e1:i=v
  ·subst e1
   rw [Qab] at h1
   rcases hb with h3 | h3
   ·exact e i g hi (h3 ▸ h1) h2
   ·rw [h3] at h1;cases h1
    have:=(h.vb _ h2).2;omega
  ·rw [Qag _ _ e1] at h1;exact e i g hi h1 h2
 ·have:=c43.size;have:=c45.size;omega
 ·intro g hg
  have:=h.vb g hg;have:=c43.size;have:=c45.size;omega
 ·exact ((c41.mono fun _ _ h=>h.elim).trans (c43.mono fun k _ j=>.inr ⟨((o v hv).Qar j).1,e v k hv j⟩)).trans (c45.mono fun k _ e=>.inl e)
theorem OA.tf {s:Nat} (h:OA w base A n out vb) (hs:s≤A):TF w (fun k=>k<s) (some ⟨A,0,none⟩) n out:=by
 obtain ⟨B,C,r,o,d,_⟩:=h.ex
 have hlt:=h.lt
 refine ⟨fun i=>.slice (B i) (out i).length (C i),VA.Qgm r (Qah (sz:=1) (fun i=>[Value.slice (B i) (out i).length (C i)]) Qvf n),fun g _ hg=>?_,fun i hi=>⟨_,_,rfl,VA.Qa6 (o i hi),fun g _ hg=>?_,(o i hi).cap.1⟩⟩
 ·cases hg;show ¬A<s;omega
 ·have:=((o i hi).Qar hg).1
  show ¬g<s;omega
end
def e4b (x:Int):List Value:=[.int .u8 (IntKind.wrap .u8 (Int.fdiv x (2 ^ (min (Int.toNat (24:Int)) (IntKind.bits .u32))))),.int .u8 (IntKind.wrap .u8 (Int.fdiv x (2 ^ (min (Int.toNat (16:Int)) (IntKind.bits .u32))))),.int .u8 (IntKind.wrap .u8 (Int.fdiv x (2 ^ (min (Int.toNat (8:Int)) (IntKind.bits .u32))))),.int .u8 (IntKind.wrap .u8 x)]
theorem Zjm {x:Nat} (h:x<4294967296):e4b (x:Int)=bys (pbs x 4):=by
 have e:pbs x 4=[x/16777216 % 256,x/65536 % 256,x/256 % 256,x % 256]:=by
  simp [pbs]
 rw [e]
 unfold e4b bys
 have b8:∀y:Int,IntKind.wrap .u8 y=y % 256:=fun y=>by simp [IntKind.wrap,IntKind.bits,IntKind.signed]
 have h24:(2:Int) ^ (min (Int.toNat (24:Int)) (IntKind.bits .u32))=16777216:=by decide
 have h16:(2:Int) ^ (min (Int.toNat (16:Int)) (IntKind.bits .u32))=65536:=by decide
 have h8:(2:Int) ^ (min (Int.toNat (8:Int)) (IntKind.bits .u32))=256:=by decide
 simp only [b8,h24,h16,h8,List.map_cons,List.map_nil]
 rw [Int.fdiv_eq_ediv_of_nonneg _ (by omega),Int.fdiv_eq_ediv_of_nonneg _ (by omega),Int.fdiv_eq_ediv_of_nonneg _ (by omega)]
 have e1:(x:Int)/16777216 % 256=((x/16777216 % 256:Nat):Int):=by omega
 have e2:(x:Int)/65536 % 256=((x/65536 % 256:Nat):Int):=by omega
 have e3:(x:Int)/256 % 256=((x/256 % 256:Nat):Int):=by omega
 have e4:(x:Int) % 256=((x % 256:Nat):Int):=by omega
 rw [e1,e2,e3,e4]
def Mdl.er (M:Mdl) (e:Nat):ER:=⟨match M.Y[e]? with | some p=>p.1.toNat | none=>0,match M.Y[e]? with | some p=>p.2.toNat | none=>0,M.fr (2*e),M.nx (2*e),M.fr (2*e+1),M.nx (2*e+1),(M.W e % 4294967296).toNat⟩
def Mdl.rm (M:Mdl):RM:=⟨M.N.toNat,toP M.X,(List.range M.Y.length).map M.er⟩
def Mdl.bts (M:Mdl):List Nat:=M.rm.by_
end Core
end Go.Proofs.YtfeekmmfdkfgmaaGreatDoor
namespace Go.Proofs.YtfeekmmfdkfgmaaGreatDoor
open Go Go.RowKit
set_option linter.unnecessarySimpa false
namespace Core
section
variable {M:Mdl} {m:RM} {w:World}
theorem Mdl.Q9k {e:Nat} {p:Int × Int} (hp:M.Y[e]?=some p):M.er e=⟨p.1.toNat,p.2.toNat,M.fr (2*e),M.nx (2*e),M.fr (2*e+1),M.nx (2*e+1),(M.W e % 4294967296).toNat⟩:=by
 unfold Mdl.er;rw [hp]
theorem is_lt {p:Int × Int} (h:oddP p=false):p.2.toNat<256∧0≤p.2:=by
 rcases Q4a h with h | h | h<;>omega
def sgn (x:Nat):Int:=if x<2147483648 then (x:Int) else (x:Int)-4294967296
def RM.at (m:RM) (e:Nat):ER:=m.E.getD e ⟨0,0,0,0,0,0,0⟩
def RM.mdl (m:RM) (vb:Option Addr) (vc:Nat) (eb:Option Addr) (ec:Nat) (lb:Option Addr) (lc:Nat):Mdl:=
 ⟨m.N,m.P.map fun p=>((p.1:Int),(p.2:Int)),m.E.map fun x=>((x.a:Int),(x.s:Int)),m.E.length,fun d=>if d % 2=0 then (m.at (d/2)).f0 else (m.at (d/2)).f1,fun d=>if d % 2=0 then (m.at (d/2)).n0 else (m.at (d/2)).n1,fun e=>sgn (m.at e).w,vb,vc,eb,ec,lb,lc⟩
theorem RM.Q19 {e:Nat} {x:ER} (h:m.E[e]?=some x):m.at e=x:=by unfold RM.at;rw [List.getD_eq_getElem?_getD,h];rfl
theorem Zhz {x:Nat} (h:x<4294967296):(sgn x % 4294967296).toNat=x:=by unfold sgn;split<;>omega
theorem RM.Zlg (ok:m.ok) {vb:Option Addr} {vc:Nat} {eb:Option Addr} {ec:Nat} {lb:Option Addr} {lc:Nat}:(m.mdl vb vc eb ec lb lc).rm=m:=by
 obtain ⟨b1,b2,b3,b4,b5⟩:=ok
 unfold Mdl.rm
 have hP:toP (m.mdl vb vc eb ec lb lc).X=m.P:=by
  unfold toP RM.mdl
  dsimp only
  rw [List.map_map]
  refine (List.map_congr_left fun p _=>?_).trans (List.map_id _)
  rfl
 have hE:(List.range (m.mdl vb vc eb ec lb lc).Y.length).map (m.mdl vb vc eb ec lb lc).er=m.E:=by
  have hl:(m.mdl vb vc eb ec lb lc).Y.length=m.E.length:=by unfold RM.mdl;simp
  rw [hl]
  refine List.ext_getElem (by simp) fun i h1 h2=>?_
  rw [List.getElem_map,List.getElem_range]
  have hx:m.E[i]?=some m.E[i]:=List.getElem?_eq_getElem h2
  have hp:(m.mdl vb vc eb ec lb lc).Y[i]?=some ((m.E[i].a:Int),(m.E[i].s:Int)):=by
   unfold RM.mdl
   dsimp only
   rw [List.getElem?_map,hx];rfl
  rw [Mdl.Q9k hp]
  have hk:=(b5 _ (List.getElem_mem h2))
  obtain ⟨k1,k2,k3,k4,k5,k6,k7,k8⟩:=hk
  unfold RM.mdl
  dsimp only
  rw [if_pos (by omega),if_pos (by omega),if_neg (by omega),if_neg (by omega),show 2*i/2=i by omega,show (2*i+1)/2=i by omega,RM.Q19 hx,Zhz k7]
  simp
 rw [hP,hE]
 rfl
end
end Core
end Go.Proofs.YtfeekmmfdkfgmaaGreatDoor
namespace Go.Proofs.YtfeekmmfdkfgmaaGreatDoor
open Go Go.RowKit
set_option linter.unnecessarySimpa false
namespace Core
set_option linter.ambiguousOpen false
open Seq Cut Web
section
variable {w w':World} {b:Bk} {N S:Nat} {lv':Nat→Bool} {tl:Nat→List Nat} {q:List (List Nat)} {B D:Nat→Option (Nat × Nat)} {ky:Nat→Int} {p1 p2:Option Addr}
theorem Zkc {d:Int} (h:GM w.heap b N lv' tl q B D ky):Calls Pg 79 #[.pointer (some ⟨b.M,0,none⟩),.int .i64 d] w fun r w'=>∃z:Int,r=.returned (.tuple #[.int .i64 z,errV (dE tl N d)])∧(dE tl N d=0→z=sg tl N d.toNat)∧Chg Qaa w w':=by
 refine (Qw0 _ _).go ?_
 unfold Qrl nr
 refine Qac (fun k=>by cases k) fun _=>pt_i ?_
 rw [Qad]
 refine Qav h.r rfl ?_
 by_cases hd:dE tl N d=0
 ·obtain ⟨x,rfl,hx⟩:=Qwq hd
  refine (Q7f h.t hx).mono ?_
  rintro r w4 ⟨rfl,c⟩
  exact ⟨_,_,rfl,_,by rw [hd],fun _=>by rw [Int.toNat_natCast],c⟩
 ·refine (Q85 h.t hd).mono ?_
  rintro r w4 ⟨rfl,c⟩
  exact ⟨_,_,rfl,_,rfl,fun j=>absurd j hd,c⟩
def ec (tl:Nat→List Nat) (N e:Nat) (z:Int):Nat→List Value
 | 0=>[.int .u32 0,.int .u32 0,.int .u32 0,.int .u32 0,.int .i32 z]
 | 1=>[.int .u32 (og tl N (2*e):Nat),.int .u32 0,.int .u32 (sg tl N (2*e):Nat),.int .u32 0,.int .i32 z]
 | _=>[.int .u32 (og tl N (2*e):Nat),.int .u32 (og tl N (2*e+1):Nat),.int .u32 (sg tl N (2*e):Nat),.int .u32 (sg tl N (2*e+1):Nat),.int .i32 z]
theorem Zku {e:Nat} (gm:GM w.heap b N lv' tl q B D ky) (rS:Row w.heap S 52 [.pointer p1,.pointer p2,.pointer (some ⟨b.M,0,none⟩)]) (hl:Laid tl N e) :
  Calls Pg 50 #[.pointer (some ⟨S,0,none⟩),.int .i64 (e:Nat)] w fun r w'=>r=.returned (.tuple #[.agg #[.int .u32 (og tl N (2*e):Nat),.int .u32 (og tl N (2*e+1):Nat),.int .u32 (sg tl N (2*e):Nat),.int .u32 (sg tl N (2*e+1):Nat),.int .i32 (ky e/1048576)],errV 0])∧Chg Qaa w w':=by
 refine (Qt0 _ _).go ?_
 unfold Qng nr
 have hM:=gm.cb.mp
 have hsz:=gm.t.sz
 have hd0:2*e∈dl tl N:=hl
 have hd1:2*e+1∈dl tl N:=hM.odd hl
 have l0:=hM.lt _ hd0
 have l1:=hM.lt _ hd1
 refine Qak fun A2 w3 hA2 c3 r3=>Qak fun A w5 hA c5 r5=>pt_i ?_
 have c05:=c3.trans c5
 have rS5:=c05.row (fun h=>h) rS
 have r3':=c5.row (fun h=>h) r3
 have g5:=gm.keep c05 (fun _ h=>h.elim)
 have lA2:=r3.lt
 have s3:=c3.size
 rw [Qad]
 refine Qav rS5 rfl ((Zdc g5).mono ?_)
 rintro r w10 ⟨rfl,z,rfl,_,hz⟩
 have he0:eE tl N (e:Int)=0:=Zjp (by omega) hl
 have hz:=hz he0
 rw [Int.toNat_natCast] at hz
 subst hz
 rw [he0]
 refine ⟨_,_,rfl,?_⟩
 rw [Qad]
 refine Qao r5 (by simp) rfl fun w12 c12 r12=>?_
 have lA:=r5.lt
 let J:Nat→List Value→World→Prop:=fun j us w'=>∃i:Nat,us=[errV 0,.int .i64 i]∧i≤2∧Row w'.heap A 107 (ec tl N e (ky e/1048576) i)∧Chg (fun k=>k=A) w10 w'∧j=2-i
 refine ⟨LI J,LM J,⟨_,0,rfl,by omega,r12,c12,rfl⟩,?_⟩
 intro _ v15 i w17 hJ
 obtain ⟨i,hvs,hi,rA,ck,hj⟩:=hJ.at
 simp only [vj] at hvs
 obtain ⟨rfl,rfl⟩:=hvs
 have cw:Chg Qaa w w17:=c05.trans' ck fun k e=>.inr (by omega)
 refine ⟨fun us w'=>us=[]∧w'=w17∧i<2,Qac (fun k=>?_) (fun k=>?_),?_⟩
 ·simp only [b1s] at k
  refine ⟨Qbu _,?_⟩
  rw [Qb4]
  exact Qac (fun _=>⟨rfl,rfl,by omega⟩) (fun k=>by cases k)
 ·simp only [b1s] at k
  obtain rfl:i=2:=by omega
  refine ldEr rA (Qd3 (ck.row (by omega) r3') rfl (by intro v hv;simp at hv;rcases hv with rfl | rfl | rfl | rfl | rfl<;>rfl) fun w35 c35 r35=>ldEr r35 ⟨rfl,?_⟩)
  exact cw.trans' c35 fun k e=>.inr (by omega)
 rintro _ w41 ⟨_,e41,hi2⟩
 rw [e41]
 have rS17:=cw.row (fun h=>h) rS
 have g17:=gm.keep cw (fun _ h=>h.elim)
 have key:∀d:Nat,d∈dl tl N→d=2*e+i→Calls Pg 80 #[.pointer (some ⟨b.M,0,none⟩),.int .i64 (d:Nat)] w17 (fun r w'=>r=.returned (.tuple #[.int .i64 (og tl N d:Nat),errV 0])∧Chg Qaa w17 w')∧
   ∀w1,Chg Qaa w17 w1→Calls Pg 79 #[.pointer (some ⟨b.M,0,none⟩),.int .i64 (d:Nat)] w1 (fun r w'=>r=.returned (.tuple #[.int .i64 (sg tl N d:Nat),errV 0])∧Chg Qaa w1 w'):=by
  intro d hd hde
  have hdE:dE tl N (d:Int)=0:=Zm3 (hM.lt _ hd) hd
  refine ⟨(Zdd g17).mono ?_,fun w1 c1=>(Zkc (g17.keep c1 (fun _ h=>h.elim))).mono ?_⟩
  ·rintro r w' ⟨z,rfl,hz,c⟩
   rw [hz hdE,hdE,Int.toNat_natCast];exact ⟨rfl,c⟩
  ·rintro r w' ⟨z,rfl,hz,c⟩
   rw [hz hdE,hdE,Int.toNat_natCast];exact ⟨rfl,c⟩
 have hdi:2*e+i∈dl tl N:=by
  rcases (by omega:i=0∨i=1) with rfl | rfl
  ·exact hd0
  ·exact hd1
 obtain ⟨kO,kN⟩:=key _ hdi rfl
 have lo:=(Qbm hdi).1
 have ls:=hM.lt _ (hM.Qcs hdi).1
 rw [wrap64_in (x:=(2:Int)*(e:Nat)) (by omega) (by omega),wrap64_in (x:=(2:Int)*(e:Nat)+(i:Nat)) (by omega) (by omega),wrap64_in (x:=(i:Int)+1) (by omega) (by omega),show (2:Int)*(e:Nat)+(i:Nat)=((2*e+i:Nat):Int) by omega,show (i:Int)+1=((i+1:Nat):Int) by omega]
 refine pt_i ?_
 rw [Qad]
 refine Qav rS17 rfl (kO.mono ?_)
 rintro r w46 ⟨rfl,c46⟩
 refine ⟨_,_,rfl,Qaj (fun e=>absurd rfl e) (fun _=>pt_i ?_)⟩
 rw [Qad]
 refine Qav (c46.row (fun h=>h) rS17) rfl ((kN w46 c46).mono ?_)
 rintro r w63 ⟨rfl,c63⟩
 have rA63:=c63.row (fun h=>h) (c46.row (fun h=>h) rA)
 have hlen:(ec tl N e (ky e/1048576) i).length=5:=by unfold ec;split<;>rfl
 refine ⟨_,_,rfl,?_⟩
 rw [Qgx (x:=((og tl N (2*e+i):Nat):Int)) (by omega) (by omega),Qgx (x:=((sg tl N (2*e+i):Nat):Int)) (by omega) (by omega)]
 refine Qcb (by omega) (Qao rA63 (by rw [hlen,Int.toNat_natCast];omega) rfl fun w66 c66 r66=>?_)
 rw [Qad]
 refine Qcb (by omega) (Qao r66 (by rw [List.length_set,hlen,Int.toNat_natCast];omega) rfl fun w68 c68 r68=>?_)
 refine LI.again (k:=2-(i+1)) ⟨i+1,rfl,by omega,?_,((ck.trans (c46.mono fun _ _ h=>h.elim)).trans (c63.mono fun _ _ h=>h.elim)).trans (c66.trans c68),rfl⟩ (by rw [hj];omega)
 rcases (by omega:i=0∨i=1) with rfl | rfl<;>exact r68
end
section
variable {N:Nat} {tl tl':Nat→List Nat} {M:Mdl}
theorem Zb1 (hM:MP N tl) (hd:∀d,d∈dl tl N↔d∈dl tl' N) (ho:∀d,d∈dl tl N→og tl N d=og tl' N d) (hs:∀d,d∈dl tl N→sg tl N d=sg tl' N d):Flt tl N↔Flt tl' N:=by
 have hLd:∀e,Laid tl N e↔Laid tl' N e:=fun e=>hd _
 have hph:ph tl N=ph tl' N:=by
  funext d
  unfold ph
  by_cases h:d∈dl tl N
  ·rw [if_pos h,if_pos ((hd d).1 h),hs _ (hM.tw d h)]
  ·rw [if_neg h,if_neg (fun k=>h ((hd d).2 k))]
 have hGC:GC tl N=GC tl' N:=by
  unfold GC
  congr 1
  funext x y
  refine propext ⟨?_,?_⟩
  ·rintro ⟨e,hl,k⟩
   have h1:=ho _ hl
   have h2:=ho _ (hM.odd hl)
   exact ⟨e,(hLd e).1 hl,by rw [←h1,←h2];exact k⟩
  ·rintro ⟨e,hl,k⟩
   have hl:=(hLd e).2 hl
   have h1:=ho _ hl
   have h2:=ho _ (hM.odd hl)
   exact ⟨e,hl,by rw [h1,h2];exact k⟩
 have hPF:PF tl N=PF tl' N:=by unfold PF;rw [hph]
 have hv:∀r,vN tl N r=vN tl' N r:=fun r=>by unfold vN;rw [hGC]
 have he:∀r,eN tl N r=eN tl' N r:=fun r=>by
  unfold eN
  refine Qfi fun e _=>?_
  have k:(Laid tl N e∧GC tl N r (og tl N (2*e)))=(Laid tl' N e∧GC tl' N r (og tl' N (2*e))):=propext ⟨fun ⟨h1,h2⟩=>⟨(hLd e).1 h1,by rw [←ho _ h1,←hGC];exact h2⟩,fun ⟨h1,h2⟩=>⟨(hLd e).2 h1,by rw [ho _ ((hLd e).2 h1),hGC];exact h2⟩⟩
  rw [k]
 have hf:∀r,fN tl N r=fN tl' N r:=fun r=>by
  unfold fN
  have k:(fun x=>x∈dl tl N∧GC tl N r (og tl N x))=(fun x=>x∈dl tl' N∧GC tl' N r (og tl' N x)):=by
   funext x
   exact propext ⟨fun ⟨h1,h2⟩=>⟨(hd x).1 h1,by rw [←ho _ h1,←hGC];exact h2⟩,fun ⟨h1,h2⟩=>⟨(hd x).2 h1,by rw [ho _ ((hd x).2 h1),hGC];exact h2⟩⟩
  rw [k,hPF]
 unfold Flt
 constructor
 ·intro h x hx
  have hx':=(hd x).2 hx
  have:=h x hx'
  rw [hv,he,hf,ho x hx'] at this
  exact this
 ·intro h x hx
  have:=h x ((hd x).1 hx)
  rw [hv,he,hf,ho x hx]
  exact this
def Mdl.good (M:Mdl):Prop:=M.ok∧∃tl,Rot M.LD M.fr M.nx tl∧Flt tl M.N.toNat
theorem Mdl.Zb0 (ok:M.ok) (h:Rot M.LD M.fr M.nx tl) (h':Rot M.LD M.fr M.nx tl'):Flt tl M.N.toNat↔Flt tl' M.N.toNat:=by
 obtain ⟨m1,d1,e1,_⟩:=Mdl.map ok h
 obtain ⟨m2,d2,e2,_⟩:=Mdl.map ok h'
 refine Zb1 m1 (fun d=>(d1 d).trans (d2 d).symm) (fun d hd=>?_) (fun d hd=>?_)
 ·have k:=(d1 d).1 hd
  rw [(e1 d k).1,(e2 d k).1]
 ·have k:=(d1 d).1 hd
  rw [(e1 d k).2,(e2 d k).2]
theorem Mdl.Q4b (h:M.ok→∀tl,Rot M.LD M.fr M.nx tl→∃tl,Rot M.LD M.fr M.nx tl∧¬Flt tl M.N.toNat):¬M.good:=by
 rintro ⟨ok,tl,r,f⟩
 obtain ⟨tl',r',f'⟩:=h ok tl r
 exact f' ((Mdl.Zb0 ok r r').1 f)
theorem Q6k {w:World} (h:MV w M):Calls Pg 52 #[M.val] w fun r w'=>Chg Qaa w w'∧(M.good→r=.returned (errV 0))∧(¬M.good→r=.returned (errV 17)):=by
 refine (Qzd _ _ _ _ _ _ _ _ _ _).go ?_
 unfold Qvo nr
 refine Qak fun A w5 hA c5 r5=>ldM r5 ((Za6 (h.nob c5)).mono ?_)
 rintro r w12 ⟨c12,⟨A0,tl,rfl,ok,tf,hr,hf⟩ | ⟨rfl,hno⟩⟩
 ·exact ⟨_,_,_,_,rfl,c5.trans c12,fun _=>rfl,fun k=>absurd ⟨ok,tl,hr,hf⟩ k⟩
 ·exact ⟨_,_,_,_,rfl,c5.trans c12,fun k=>absurd k (Mdl.Q4b hno),fun _=>rfl⟩
end
def CV (w:World) (b:Option Addr) (l sz:Nat) (xs:List Value):Prop:=
 l=0∨∃a,b=some a∧a.block<w.heap.size∧∀i k,i<l→k<sz→w.cell? ((a.add (i*sz)).add k)=xs[i*sz+k]?
section
variable {w w':World} {b:Option Addr} {l sz i:Nat} {xs:List Value}
theorem CV.nob (h:CV w b l sz xs) (k:Chg Qaa w w'):CV w' b l sz xs:=by
 refine h.imp id ?_
 rintro ⟨a,rfl,ha,hc⟩
 refine ⟨a,rfl,Nat.lt_of_lt_of_le ha k.size,fun i j hi hj=>?_⟩
 rw [←hc i j hi hj]
 refine Seq.Qy4 ?_
 rw [Qeb,Qeb]
 exact k.block _ ha (fun h=>h)
theorem CV.ix (h:CV w b l sz xs) (hi:i<l) {K:Addr→Prop} (k:∀a,(∀j,j<sz→w.cell? (a.add j)=xs[i*sz+j]?)→K a):ixS b l (i:Int) sz K:=by
 rcases h with h0 | ⟨a,rfl,ha,hc⟩
 ·omega
 ·refine ⟨a,rfl,by omega,by omega,?_⟩
  rw [Int.toNat_natCast]
  exact k _ fun j hj=>hc i j hi hj
end
structure MV0 (w:World) (M:Mdl):Prop where
 v:CV w M.vb M.X.length 2 (M.X.flatMap pz)
 e:CV w M.eb M.Y.length 2 (M.Y.flatMap pz)
 l:CV w M.lb M.m 5 (recs (mcl M.fr M.nx M.W) M.m)
 x:∀p∈M.X,0≤p.1∧p.1<4294967296
 y:∀p∈M.Y,0≤p.1∧p.1<4294967296
 d:∀d,d<2*M.m→M.fr d<4294967296∧M.nx d<4294967296
 wb:∀e,e<M.m→-2147483648≤M.W e∧M.W e≤2147483647
section
variable {w w':World} {M:Mdl} {X:List (Int × Int)} {b:Option Addr} {c m e:Nat} {fr nx:Nat→Nat} {W:Nat→Int}
theorem MV0.nob (h:MV0 w M) (k:Chg Qaa w w'):MV0 w' M:=⟨h.v.nob k,h.e.nob k,h.l.nob k,h.x,h.y,h.d,h.wb⟩
theorem ldM17 {A:Nat} {t:TypeId} (r:Row w.heap A t M.cl.toList) {K:Int→Option Addr→Nat→Nat→Option Addr→Nat→Nat→Option Addr→Nat→Nat→Prop} (k:K M.N M.vb M.X.length M.vc M.eb M.Y.length M.ec M.lb M.m M.lc):Qbn ⟨A,0,none⟩ w K:=by
 unfold Qbn
 rw [Qad,Qad,Qad]
 exact Qaf (n:=M.N) r rfl (Qai r rfl (Qai r rfl (Qai r rfl k)))
theorem cvz0 {i:Nat} {p:Int × Int} (va:CV w b X.length 2 (X.flatMap pz)) (hp:X[i]?=some p) {K:Int→Prop} (k:K p.1):ixS b X.length (i:Int) 2 fun a=>ldI .u32 a w K:=
 va.ix (List.getElem?_eq_some_iff.1 hp).1 fun a hc=>⟨p.1,(hc 0 (by omega)).trans (Q2z (j:=0) hp (by omega)),k⟩
theorem cvz1 {i:Nat} {p:Int × Int} (va:CV w b X.length 2 (X.flatMap pz)) (hp:X[i]?=some p) {K:Int→Prop} (k:K p.2):ixS b X.length (i:Int) 2 fun a=>ldI .i64 (a.add 1) w K:=
 va.ix (List.getElem?_eq_some_iff.1 hp).1 fun a hc=>⟨p.2,(hc 1 (by omega)).trans (Q2z (j:=1) hp (by omega)),k⟩
theorem ldE17 (h:CV w b m 5 (recs (mcl fr nx W) m)) (he:e<m) {K:Int→Int→Int→Int→Int→Prop} (k:K (fr (2*e):Nat) (fr (2*e+1):Nat) (nx (2*e):Nat) (nx (2*e+1):Nat) (W e)):ixS b m (e:Int) 5 fun a=>Qew a w K:=
 h.ix he fun a hc=>⟨_,(hc 0 (by omega)).trans (Qlw (j:=0) he (by omega)),_,(hc 1 (by omega)).trans (Qlw he (by omega)),_,(hc 2 (by omega)).trans (Qlw he (by omega)),_,(hc 3 (by omega)).trans (Qlw he (by omega)),_,(hc 4 (by omega)).trans (Qlw he (by omega)),k⟩
theorem Q8g:ET Pg 34 107 5 20:=ET.of (by kernel_rfl) (by kernel_rfl)
end
end Core
end Go.Proofs.YtfeekmmfdkfgmaaGreatDoor
