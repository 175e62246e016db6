/-
The trees of layer 6: 'access' walked, and what stands on it.
Conditions: a Qct that stands in the records.
-/
import Derived.Test.YtfeekmmfdkfgmaaGreatDoorGCutC
import Derived.Test.YtfeekmmfdkfgmaaGreatDoorGNew
set_option linter.unusedVariables false
set_option linter.unusedSimpArgs false
namespace Go.Proofs.YtfeekmmfdkfgmaaGreatDoor
open Go Go.RowKit
namespace Cut
open Go.Proofs.YtfeekmmfdkfgmaaGreatDoor.Seq
section
variable {w₀ w:World} {F L n:Nat} {s:S} {v:Nat→Int} {pa:Nat→Int} {t l r tl:T} {ps ps':List (T × Int)} {x y:Nat} {q:Int}
theorem Q6z (h:IsF w.heap F L n s) (k:Lc n s v pa ((t,q)::ps)) (hx:x∈t.ls) :
  Calls Pg 245 #[.pointer (some ⟨F,0,none⟩),.int .i32 x] w fun e w'=>e=.returned (.tuple #[])∧∃s' l r,St w w' F L n s'∧Lc n s' v pa ((.node l x false r,q)::ps)∧(T.node l x false r).seq=t.seq:=by
 refine (Q5o h k.tq hx).mono ?_
 rintro e w' ⟨rfl,s',l,r,hst,hg⟩
 exact ⟨rfl,s',l,r,hst,k.gq hg,hg.seq⟩
theorem Zcs {q:Nat} {l:List Nat} (h:Ch pa q l) (hne:l≠[]):∀z∈l,Anc pa z q:=by
 obtain ⟨a,ha⟩:∃a,l.head?=some a:=by cases l with | nil=>exact absurd rfl hne | cons a l=>exact ⟨a,rfl⟩
 intro z hz
 have h1:=h.Q96 ha z hz
 have h2:pa a=q:=by cases l with | nil=>exact absurd rfl hne | cons b l=>simp at ha;subst ha;exact h.1
 exact h1.trans (.step h2 .refl)
theorem Qyf (h:IsF w.heap F L n s) (k:Lc n s v pa ps) (hx:x<n) :
  Calls Pg 199 #[.pointer (some ⟨F,0,none⟩),.int .i32 x] w fun e w'=>e=.returned (.tuple #[])∧∃s' l ps',St w w' F L n s'∧Lc n s' v pa ((.node l x false .nil,-1)::ps')∧
   ∀p∈ps,(∀z∈p.1.ls,¬Anc pa x z)→p∈ps':=by
 have hst:=St.start h
 refine (Qq9 _ _).go ?_
 unfold Qki nr
 obtain ⟨r0,hr0⟩:=k.fst.top x hx
 obtain ⟨lst0,hl0,_⟩:=hr0.rank
 let J:Nat→List Value→World→Prop:=fun j vs w'=>∃(tl:T) (ps':List (T × Int)) (s':S) (y:Int),vs=[.int .i32 tl.rt,.int .i32 y]∧St w w' F L n s'∧Lc n s' v pa (pc tl y++ps')∧(∀p∈ps,(∀z∈p.1.ls,¬Anc pa x z)→p∈ps')∧
  ((tl=.nil∧y=x)∨tl.seq.getLast?=some x)∧((y=-1∧j=0)∨∃(yN:Nat) (lst:List Nat),y=yN∧yN<n∧Anc pa x yN∧Ch pa (-1) (lst++[yN])∧j=lst.length+1)
 refine ⟨LI J,LM J,⟨lst0.length+1,.nil,ps,s,x,rfl,hst,k,fun p hp _=>hp,.inl ⟨rfl,rfl⟩,.inr ⟨x,lst0,rfl,hx,.refl,hl0,rfl⟩⟩,?_⟩
 clear hst k h hl0
 intro _ n4 n5 w6 hI
 obtain ⟨tl,ps1,s1,y,hvs,hst,k,hfr,htl,hy⟩:=hI.at
 simp only [vj] at hvs
 obtain ⟨rfl,rfl⟩:=hvs
 refine Qac (fun hc=>?_) (fun hc=>?_)<;>simp only [b1s] at hc
 ·rcases hy with ⟨h,_⟩ | ⟨yN,lst,rfl,hyn,hya,hych,hj⟩
  ·exact absurd h hc
  have ey:(yN:Int).toNat=yN:=rfl
  have hm:yN∈(pc tl yN++ps1).flatMap (fun p=>p.1.ls):=k.perm.mem_iff.2 (List.mem_range.2 hyn)
  obtain ⟨⟨t,q⟩,hp,hyp⟩:=List.mem_flatMap.1 hm
  have hp1:(t,q)∈ps1:=by
   rcases List.mem_append.1 hp with hp | hp
   ·obtain ⟨e,hne⟩:=Zf5 hp
    simp only [Prod.mk.injEq] at e
    obtain ⟨rfl,rfl⟩:=e
    rw [Zid hne] at k
    exact absurd rfl (k.tq.qt yN hyp)
   ·exact hp
  obtain ⟨a,c,rfl⟩:=List.append_of_mem hp1
  have k1:Lc n s1 v pa ((t,q)::(pc tl yN++(a++c))):=k.reorder (by
   have e1:pc tl yN++(a++(t,q)::c)=(pc tl yN++a)++(t,q)::c:=by simp
   rw [e1]
   refine List.perm_middle.trans ?_
   simp)
  refine (Q6z hst.i k1 hyp).mono ?_
  rintro e w7 ⟨rfl,s2,l,r,hst',k2,hseq⟩
  have hst2:=hst.trans hst'
  refine ⟨rfl,pt_i (Qdx hst2 (Qa1 (by omega) (by omega) (Qpk (Qmt hst2 (by omega) fun w13 hst3=>?_))))⟩
  have k3:Lc n s2 v pa ((pc tl yN++[(.node l yN false r,q)])++(a++c)):=k2.reorder (by
   have e1:(pc tl yN++[(T.node l yN false r,q)])++(a++c)=pc tl yN++(T.node l yN false r,q)::(a++c):=by simp
   rw [e1]
   exact (List.perm_middle).symm)
  have k4:=Zi3 k3
  have hnd:=k2.nd
  simp only [T.ls,List.nodup_append,List.nodup_cons] at hnd
  have hly:l.rt≠(yN:Int):=fun e=>hnd.2.2 yN (Qaq e.symm) yN (by simp) rfl
  have hty:tl.rt≠(yN:Int):=fun e=>by
   have hne:tl≠.nil:=fun e0=>by subst e0;simp [T.rt] at e
   rw [Zid hne] at k
   exact absurd rfl (k.tq.qt yN (Qaq e.symm))
  have hN:=k2.head.1.1
  have hq:=k2.head
  simp only [] at hq
  obtain ⟨_,_,hCh,hq0,hq1⟩:=hq
  have hwf2:=k2.wf
  have htb:-1≤tl.rt∧tl.rt<n:=by
   rcases Qcl tl with e | ⟨z,e,hz⟩
   ·rw [e];omega
   ·have hne:tl≠.nil:=fun e0=>by subst e0;cases hz
    have:=k.lt (p:=(tl,(yN:Int))) (by simp [Zge hne]) hz
    rw [e];omega
  have hwf3:Wf n (s2.Qa3 yN tl.rt):=fun i hi=>by
   obtain ⟨b1,b2,b3⟩:=hwf2 i hi
   refine ⟨by simpa using b1,by simpa using b2,?_⟩
   simp [upd];split<;>omega
  rw [ey] at hst3
  refine (Qky hst3.i (by omega) (by omega) hwf3 (by rw [ey];simpa [hN.left] using hly) (by rw [ey];simpa [upd] using hty)).mono ?_
  rintro e w14 ⟨rfl,hst4'⟩
  have hst4:=hst3.trans hst4'
  refine ⟨rfl,pt_i (Qdx hst4 (Qa1 (by omega) (by omega) (Qyt hst4 (by omega) ?_)))⟩
  have hup:(pullS (s2.Qa3 yN tl.rt) yN).up (yN:Int).toNat=q:=by rw [(Qlv _ _).1,ey];simpa using hN.up
  rw [hup]
  rw [show (T.node l yN false r).seq=l.seq++yN::r.seq by simp [T.seq]] at hCh
  obtain ⟨hC1,_⟩:=hCh.split
  have hfr':∀p∈ps,(∀z∈p.1.ls,¬Anc pa x z)→p∈pc r yN++(a++c):=by
   intro p hp hno
   have:=hfr p hp hno
   rcases List.mem_append.1 this with h | h
   ·simp [h]
   ·rcases List.mem_cons.1 h with rfl | h
    ·exact absurd hya (hno yN hyp)
    ·simp [h]
  have hlast:(T.node l yN false tl).seq.getLast?=some x:=by
   have e1:(T.node l yN false tl).seq=l.seq++([yN]++tl.seq):=by simp [T.seq]
   rw [e1,List.getLast?_append,List.getLast?_append]
   rcases htl with ⟨rfl,e⟩ | h
   ·have:yN=x:=by omega
    simp [T.seq,this]
   ·rw [h];rfl
  have k5:Lc n (pullS (s2.Qa3 yN tl.rt) yN) v pa (pc (.node l yN false tl) q++(pc r yN++(a++c))):=by
   have e1:pc (.node l yN false tl) q++(pc r yN++(a++c))=((.node l yN false tl,q)::pc r yN)++(a++c):=by simp [pc]
   rw [e1];exact k4
  by_cases hq:q=-1
  ·exact LI.again (k:=0) ⟨.node l yN false tl,_,_,q,rfl,hst4,k5,hfr',.inr hlast,.inl ⟨hq,rfl⟩⟩ (by rw [hj];omega)
  ·obtain ⟨qN,rfl⟩:∃qN:Nat,q=qN:=⟨q.toNat,by omega⟩
   have hqn:qN<n:=by omega
   obtain ⟨r1,hr1⟩:=k.fst.top qN hqn
   obtain ⟨lst',hl',_⟩:=hr1.rank
   have hqa:Anc pa x qN:=hya.trans (Zcs hC1 (by simp) yN (by simp))
   have hu:lst=lst'++[qN]++l.seq:=by
    refine Q1z hych ?_
    have e1:lst'++[qN]++l.seq++[yN]=(lst'++[qN])++(l.seq++[yN]):=by simp
    rw [e1,Ch.append]
    refine ⟨hl',?_⟩
    simpa using hC1
   exact LI.again (k:=lst'.length+1) ⟨.node l yN false tl,_,_,(qN:Int),rfl,hst4,k5,hfr',.inr hlast,.inr ⟨qN,lst',rfl,hqn,hqa,hl',rfl⟩⟩ (by rw [hj,hu];simp)
 ·subst hc
  have hlast:tl.seq.getLast?=some x:=htl.resolve_left (fun h=>by have:=h.2;omega)
  have hne:tl≠.nil:=fun e=>by subst e;simp [T.seq] at hlast
  rw [Zid hne] at k
  have hxm:x∈tl.ls:=Qb2.1 (List.mem_of_getLast? hlast)
  refine (Q6z hst.i k hxm).mono ?_
  rintro e w20 ⟨rfl,s2,l,r,hst',k2,hseq⟩
  have hr:r=.nil:=by
   have hnd:=k2.nd
   have e1:(T.node l x false r).seq=l.seq++([x]++r.seq):=by simp [T.seq]
   rw [←hseq,e1,List.getLast?_append,List.getLast?_append] at hlast
   cases r with
   | nil=>rfl
   | node a z b c=>
    exfalso
    simp only [T.ls,List.nodup_append,List.nodup_cons] at hnd
    cases hgl:(T.node a z b c).seq.getLast? with
    | none=>
     have:(T.node a z b c).seq=[]:=List.getLast?_eq_none_iff.1 hgl
     have hz:z∈(T.node a z b c).seq:=Qb2.2 (by simp [T.ls])
     rw [this] at hz;cases hz
    | some u=>
     rw [hgl] at hlast
     simp at hlast
     subst hlast
     exact hnd.2.1.1 (Qb2.1 (List.mem_of_getLast? hgl))
  subst hr
  exact ⟨rfl,rfl,s2,l,ps1,hst.trans hst',k2,hfr⟩
end
theorem Q16 {w:World} {F L n:Nat} {s:S} {g c:Nat} {xs:List Int} (h:IsF w.heap F L n s) (r:Row w.heap g 3 (xs.map fun x=>.int .i64 x)) (hl:xs.length≤1000000) :
  Calls Pg 198 #[.pointer (some ⟨F,0,none⟩),.slice (some ⟨g,0,none⟩) xs.length c] w fun e w'=>e=.returned (errV (if inAll n xs then 0 else 12))∧w'=w:=by
 refine (Qiw _ _ _ _ _ (fun v' w'=>v'=errV (if inAll n xs then 0 else 12)∧w'=w) ?_).mono rti
 unfold Qg1 nr
 have hst:=St.start h
 refine Qac (fun h=>by cases h) (fun _=>?_)
 let J:Nat→List Value→World→Prop:=fun j vs w'=>∃a b,vs=[.int .i64 (a.length:Nat)]∧xs=a++b∧j=b.length∧inAll n a=true∧w'=w
 refine ⟨LI J,LM J,⟨xs.length,[],xs,rfl,rfl,rfl,rfl,rfl⟩,?_⟩
 intro _ i w5 hI
 obtain ⟨a,b,hvs,hab,hj,hin,rfl⟩:=hI.at
 simp only [vj] at hvs
 subst hvs
 have hlab:xs.length=a.length+b.length:=by rw [hab];simp
 refine Qac (fun hc=>?_) (fun hc=>?_)<;>simp only [b1s] at hc
 ·cases b with
  | nil=>simp at hlab;omega
  | cons x b=>
   refine Qat (by omega) ?_
   refine Qaf (n:=x) r (by rw [hab];simp) ?_
   have hbad:¬(0≤x∧x<n)→errV (if inAll n xs then 0 else 12)=.iface 103 (.int .i64 12):=by
    intro hb
    have hd:(decide (0≤x)&&decide (x<(n:Int)))=false:=by
     rw [Bool.and_eq_false_iff,decide_eq_false_iff_not,decide_eq_false_iff_not];omega
    have:inAll n xs=false:=by unfold inAll;rw [hab,List.all_append,List.all_cons,hd,Bool.false_and,Bool.and_false]
    rw [this];rfl
   refine Qac (fun h1=>?_) (fun h1=>?_)<;>simp only [b1s] at h1
   ·exact ⟨(hbad (by omega)).symm,by first | rfl | trivial⟩
   ·repeat (first | (with_reducible first | refine Qpl ?_ | refine Qpk ?_ | refine gR ?_) | first | (with_reducible first | refine pt_i ?_ | refine gF ?_ | refine Qa1 (by omega) (by omega) ?_ | refine g0 ?_ | refine g1 ?_ | refine g2 ?_ | refine g3 ?_ | refine g4 ?_ | refine g5 ?_ | refine g6 ?_ | refine g7 ?_ | refine g8 ?_ | refine s0 fun _ hst=>?_ | refine s1 fun _ hst=>?_ | refine s2 fun _ hst=>?_ | refine s3 fun _ hst=>?_ | refine s4 fun _ hst=>?_ | refine s5 fun _ hst=>?_ | refine s6 fun _ hst=>?_ | refine s7 fun _ hst=>?_ | refine s8 fun _ hst=>?_) | simp only [projS,Qab])
    refine Qac (fun h2=>?_) (fun h2=>?_)<;>simp only [b1s] at h2
    ·exact ⟨(hbad (by omega)).symm,by first | rfl | trivial⟩
    ·have e:IntKind.i64.wrap ((a.length:Int)+1)=((a++[x]).length:Nat):=by rw [wrap64_in (by omega) (by omega)];simp
     rw [e]
     refine LI.again (k:=b.length) ⟨a++[x],b,rfl,by rw [hab];simp,rfl,?_,rfl⟩ (by rw [hj];simp)
     simp only [inAll,List.all_append,List.all_cons,List.all_nil,Bool.and_true,Bool.and_eq_true,decide_eq_true_eq] at hin ⊢
     exact ⟨hin,by omega,by omega⟩
 ·have hb:b=[]:=by cases b with
   | nil=>rfl
   | cons=>simp at hlab;omega
  subst hb
  have:inAll n xs=true:=by rw [hab];simpa using hin
  rw [this]
  exact ⟨rfl,rfl⟩
section
variable {w₀ w w':World} {F L n:Nat} {s:S} {v:Nat→Int} {pa:Nat→Int} {t l r tl:T} {ps ps':List (T × Int)} {x y a b:Nat} {q:Int} {E E':Nat→Nat→Prop}
theorem Qrc {x:Int} (h:IsF w.heap F L n s):Calls Pg 198 #[.pointer (some ⟨F,0,none⟩),.slice (some ⟨w.heap.size,0,none⟩) 1 1] (w.alloc (.cells #[.int .i64 x] 3)) fun e w'=>
  e=.returned (errV (ck1 n x))∧w'=w.alloc (.cells #[.int .i64 x] 3):=by
 have:=Q16 (c:=1) (xs:=[x]) (h.alloc (.cells #[.int .i64 x] 3)) (Row.new w _ _) (by simp)
 refine this.mono fun e w' h=>?_
 rw [h.1]
 refine ⟨?_,h.2⟩
 unfold ck1
 by_cases hc:0≤x∧x<n
 ·rw [if_pos hc,Q8c.2 hc];rfl
 ·rw [if_neg hc]
  have:inAll n [x]=false:=by rw [←Bool.not_eq_true];exact fun e=>hc (Q8c.1 e)
  rw [this];rfl
theorem Qoo {x y:Int} (h:IsF w.heap F L n s):Calls Pg 198 #[.pointer (some ⟨F,0,none⟩),.slice (some ⟨w.heap.size,0,none⟩) 2 2] (w.alloc (.cells #[.int .i64 x,.int .i64 y] 3)) fun e w'=>
  e=.returned (errV (ck2 n x y))∧w'=w.alloc (.cells #[.int .i64 x,.int .i64 y] 3):=by
 have:=Q16 (c:=2) (xs:=[x,y]) (h.alloc (.cells #[.int .i64 x,.int .i64 y] 3)) (Row.new w _ _) (by simp)
 refine this.mono fun e w' h=>?_
 rw [h.1]
 refine ⟨?_,h.2⟩
 unfold ck2
 by_cases hc:(0≤x∧x<n)∧(0≤y∧y<n)
 ·rw [if_pos hc,Q8b.2 hc];rfl
 ·rw [if_neg hc]
  have:inAll n [x,y]=false:=by rw [←Bool.not_eq_true];exact fun e=>hc (Q8b.1 e)
  rw [this];rfl
def AE (h:Array Obj) (F L n:Nat) (v:Nat→Int) (E:Nat→Nat→Prop):Prop:=∃s pa ps,IsF h F L n s∧Lc n s v pa ps∧(∀z,n≤z→pa z=-1)∧∀x y,Ed pa x y↔E x y
structure CE (w₀ w:World) (F L n:Nat) (v:Nat→Int) (E:Nat→Nat→Prop):Prop where
 c:Chg (·=L) w₀ w
 a:AE w.heap F L n v E
theorem AE.lt {h:Array Obj} (k:AE h F L n v E):F<h.size∧L<h.size:=by obtain ⟨s,pa,ps,i,_⟩:=k;exact ⟨i.f.lt,i.l.lt⟩
theorem AE.ne {h:Array Obj} (k:AE h F L n v E):F≠L:=by obtain ⟨s,pa,ps,i,_⟩:=k;exact i.ne
theorem AE.small {h:Array Obj} (k:AE h F L n v E):n≤8388608:=by obtain ⟨s,pa,ps,i,j,_⟩:=k;exact j.small
theorem AE.keep {S:Nat→Prop} (h:AE w.heap F L n v E) (c:Chg S w w') (hF:¬S F) (hL:¬S L):AE w'.heap F L n v E:=by
 obtain ⟨s,pa,ps,i,j⟩:=h;exact ⟨s,pa,ps,i.chg c hF hL,j⟩
theorem AE.alloc (h:AE w.heap F L n v E) (o:Obj):AE (w.alloc o).heap F L n v E:=by obtain ⟨s,pa,ps,i,j⟩:=h;exact ⟨s,pa,ps,i.alloc o,j⟩
theorem AE.irr {h:Array Obj} (k:AE h F L n v E) (hx:x<n):¬E x x:=by
 obtain ⟨s,pa,ps,i,j,_,e⟩:=k
 exact fun h=>Ed.irr j.fst hx ((e x x).2 h)
theorem AE.bd {h:Array Obj} (k:AE h F L n v E):∀x y,E x y→x<n∧y<n:=by
 obtain ⟨s,pa,ps,i,j,z,e⟩:=k
 intro x y h
 have one:∀x y:Nat,pa x=y→x<n∧y<n:=fun x y h=>by
  rcases Nat.lt_or_ge x n with hx | hx
  ·have:=(j.fst.rng x hx).2;omega
  ·rw [z x hx] at h;omega
 rcases (e x y).2 h with h | h
 ·exact one x y h
 ·exact (one y x h).symm
theorem AE.uniq {h:Array Obj} {l l':List Nat} (k:AE h F L n v E) (ha:a<n) (h1:Way E a b l) (h2:Way E a b l'):l=l':=by
 obtain ⟨s,pa,ps,i,j,z,e⟩:=k
 exact (h1.congr fun x y h=>(e x y).2 h).uniq j.fst ha (h2.congr fun x y h=>(e x y).2 h)
theorem CE.start (h:AE w.heap F L n v E):CE w w F L n v E:=⟨Chg.refl _ _,h⟩
theorem CE.trans {v':Nat→Int} (h:CE w₀ w F L n v E) (k:CE w w' F L n v' E'):CE w₀ w' F L n v' E':=⟨h.c.trans k.c,k.a⟩
theorem CE.of (hst:St w₀ w F L n s) (k:Lc n s v pa ps) (hz:∀z,n≤z→pa z=-1) (he:∀x y,Ed pa x y↔E x y):CE w₀ w F L n v E:=⟨hst.c,s,pa,ps,hst.i,k,hz,he⟩
theorem CE.Qnu {o:Obj} {v0:Nat→Int} {E0:Nat→Nat→Prop} (h:AE w.heap F L n v0 E0) (k:CE (w.alloc o) w' F L n v E'):CE w w' F L n v E':=⟨((Chg.refl _ w).alloc o).trans k.c,k.a⟩
theorem Zct (h:IsF w.heap F L n s) (k:Lc n s v pa ps) (hx:x<n) :
  Calls Pg 251 #[.pointer (some ⟨F,0,none⟩),.int .i32 x] w fun e w'=>e=.returned (.tuple #[])∧∃s' r ps' pa',St w w' F L n s'∧Lc n s' v pa' ((.node .nil x false r,-1)::ps')∧pa' x=-1∧
   (∀y z,Ed pa' y z↔Ed pa y z)∧((∀z,n≤z→pa z=-1)→∀z,n≤z→pa' z=-1):=by
 refine (Qt6 _ _).go ?_
 unfold Qnk nr
 refine (Qyf h k hx).mono ?_
 rintro e w2 ⟨rfl,s1,l,ps1,hst,k1,_⟩
 have ex:(x:Int).toNat=x:=rfl
 refine ⟨rfl,pt_i (Qdx hst.drew (pt_i (Qdx hst.drew (Qa1 (by omega) (by omega) (Qlx hst.drew (by omega) (Qa1 (by omega) (by omega) (Qw9 hst.drew (by omega) fun w11 hst2=>?_)))))))⟩
 rw [ex] at hst2
 have k2:=Zi5 k1
 obtain ⟨_,⟨hl0,hl1⟩,hr0,hr1⟩:=k2.wf x hx
 refine (Qyd (x:=(x:Int)) hst2.i (by omega) (by omega) hl0 hl1 hr0 hr1).mono ?_
 rintro e w12 ⟨rfl,hst3⟩
 have hCh:=k1.head.2.2.1
 have e1:(T.node l x false .nil).seq=l.seq++[x]:=by simp [T.seq]
 rw [e1] at hCh
 have k3:=k2.gq (Q6o (c:=[]) k2.tq)
 have e2:plug [] (pushT l x true .nil)=.node .nil x false l.flip:=by simp [plug,pushT,T.flip]
 rw [e2] at k3
 refine ⟨rfl,rfl,_,l.flip,ps1,_,hst2.trans hst3,k3,?_,fun y z=>Zf2 hCh,fun hz z hn=>?_⟩
 ·have hnd:=Qqy hCh
  have h':Ch (ups pa (-1) (l.seq++[x]).reverse) (-1) (l.seq++[x]).reverse:=Q43 ((List.reverse_perm _).nodup_iff.2 hnd)
  rw [List.reverse_append] at h' ⊢
  exact h'.1
 ·rw [Qwb]
  ·exact hz z hn
  ·intro hm
   have:z∈(T.node l x false .nil).ls:=Qb2.1 (by rw [e1];exact List.mem_reverse.1 hm)
   have:=k1.lt (p:=(.node l x false .nil,-1)) (by simp) this
   omega
theorem Zky:∀{t:T} {q:Int},Rep s v q t→a∈t.ls→s.up a=-1→q=-1∧t.rt=a:=by
 have sub:∀{t:T} {p:Nat},Rep s v p t→a∈t.ls→s.up a≠-1:=by
  intro t
  induction t with
  | nil=>intro p _ h;cases h
  | node l y b r hl hr=>
   intro p h ha e
   simp only [T.ls,List.mem_append,List.mem_cons] at ha
   rcases ha with ha | rfl | ha
   ·exact hl h.2.1 ha e
   ·rw [h.1.up] at e;omega
   ·exact hr h.2.2 ha e
 intro t q h ha e
 cases t with
 | nil=>cases ha
 | node l y b r=>
  simp only [T.ls,List.mem_append,List.mem_cons] at ha
  rcases ha with ha | rfl | ha
  ·exact absurd e (sub h.2.1 ha)
  ·exact ⟨by rw [←e];exact h.1.up.symm,rfl⟩
  ·exact absurd e (sub h.2.2 ha)
theorem Q4o {l:List Nat} (h:Ch pa (-1) l) (hne:l≠[]):∃z,l.head?=some z∧∀y∈l,Top pa y z:=by
 cases l with
 | nil=>exact absurd rfl hne
 | cons z l=>exact ⟨z,rfl,Zcr h (.inl ⟨rfl,rfl⟩)⟩
theorem Q26 (h:AE w.heap F L n v E) (ha:a<n) (hb:b<n) :
  Calls Pg 230 #[.pointer (some ⟨F,0,none⟩),.int .i32 a,.int .i32 b] w fun e w'=>∃t,e=.returned (.bool t)∧(t=true↔∃l,Way E a b l)∧CE w w' F L n v E:=by
 refine (Qt5 _ _ _).go ?_
 unfold Qnj nr
 refine Qac (fun hc=>?_) (fun hc=>?_)<;>simp only [b1s] at hc
 ·have:a=b:=by omega
  subst this
  exact ⟨true,rfl,by simp only [true_iff];exact ⟨[a],rfl,rfl,by simp,⟨fun y hy=>by simp at hy,trivial⟩⟩,CE.start h⟩
 have hab:a≠b:=by omega
 obtain ⟨s,pa,ps,hi,k,hz,he⟩:=h
 refine (Qyf hi k ha).mono ?_
 rintro e w3 ⟨rfl,s1,l1,ps1,hst1,k1,_⟩
 refine ⟨rfl,(Qyf hst1.i k1 hb).mono ?_⟩
 rintro e w5 ⟨rfl,s2,l2,ps2,hst2,k2,hfr⟩
 have hst:=hst1.trans hst2
 refine ⟨rfl,pt_i (Qdx hst (Qa1 (by omega) (by omega) (Qyt hst (by omega) ?_)))⟩
 refine ⟨_,rfl,?_,CE.of hst k2 hz he⟩
 have ea:(a:Int).toNat=a:=rfl
 rw [ea]
 have hw:(∃l,Way E a b l)↔∃r,Top pa a r∧Top pa b r:=by
  rw [Q5w k.fst ha hb]
  exact ⟨fun ⟨l,h⟩=>⟨l,h.congr fun x y h=>(he x y).2 h⟩,fun ⟨l,h⟩=>⟨l,h.congr fun x y h=>(he x y).1 h⟩⟩
 rw [hw]
 have e1:(T.node l1 a false .nil).seq=l1.seq++[a]:=by simp [T.seq]
 have e2:(T.node l2 b false .nil).seq=l2.seq++[b]:=by simp [T.seq]
 have hC1:=k1.head.2.2.1
 have hC2:=k2.head.2.2.1
 rw [e1] at hC1
 rw [e2] at hC2
 obtain ⟨z1,hz1,ht1⟩:=Q4o hC1 (by simp)
 obtain ⟨z2,hz2,ht2⟩:=Q4o hC2 (by simp)
 have hta:=ht1 a (by simp)
 have htb:=ht2 b (by simp)
 constructor
 ·intro hne
  by_cases hzz:z1=z2
  ·subst hzz;exact ⟨z1,hta,htb⟩
  ·exfalso
   have hp:=hfr (.node l1 a false .nil,-1) (by simp) (fun z hz hanc=>by
    have hm:z∈l1.seq++[a]:=by rw [←e1];exact Qb2.2 hz
    exact hzz ((hanc.top' (ht1 z hm)).uniq htb))
   have hu:s2.up a=-1:=(k2.rep (.node l1 a false .nil,-1) (by simp [hp])).1.1.up
   rw [hu] at hne;simp at hne
 ·rintro ⟨r,hr1,hr2⟩
  have hz12:z1=z2:=(hta.uniq hr1).trans (htb.uniq hr2).symm
  have hne:s2.up a≠-1:=by
   intro e0
   have hm:a∈((T.node l2 b false .nil,-1)::ps2).flatMap (fun p=>p.1.ls):=k2.perm.mem_iff.2 (List.mem_range.2 ha)
   obtain ⟨⟨t,q⟩,hp,hap⟩:=List.mem_flatMap.1 hm
   obtain ⟨c1,c2,c3,_⟩:=k2.rep _ hp
   simp only at c1 c2 c3 hap
   obtain ⟨rfl,hrt⟩:=Zky c1 hap e0
   rcases List.mem_cons.1 hp with hp | hp
   ·simp only [Prod.mk.injEq] at hp
    obtain ⟨rfl,_⟩:=hp
    simp [T.rt] at hrt;omega
   ·obtain ⟨z3,hz3,ht3⟩:=Q4o c3 (fun e=>c2 (Q1a e))
    have h3:z3=z2:=((ht3 a (Qb2.2 hap)).uniq hta).trans hz12
    subst h3
    have m1:z3∈t.ls:=Qb2.1 (head_mem hz3)
    have m2:z3∈(T.node l2 b false .nil).ls:=Qb2.1 (by rw [e2];exact head_mem hz2)
    exact k2.apart hp m1 m2
  simpa using hne
theorem Zkd {l:List Nat} (h:Ch pa (-1) (l++[b])) (ha:pa a=-1) (ht:∃r,Top pa a r∧Top pa b r):Way (Ed pa) a b (l++[b]):=by
 obtain ⟨r,h1,h2⟩:=ht
 have hr:r=a:=h1.uniq (.root ha)
 subst hr
 obtain ⟨z,hz,htz⟩:=Q4o h (by simp)
 have:z=r:=(htz b (by simp)).uniq h2
 subst this
 exact ⟨hz,by simp,Qqy h,h.lk⟩
theorem Q8u {X:Prop} (h:AE w.heap F L n v E) (ha:a<n) (hb:b<n) (hw:∃l,Way E a b l) {K:Ending→World→Prop}
  (hK:∀w' s' pa' l ps',St w w' F L n s'→Lc n s' v pa' ((.node l b false .nil,-1)::ps')→pa' a=-1→(∀z,n≤z→pa' z=-1)→(∀x y,Ed pa' x y↔E x y)→Way E a b (l.seq++[b])→Ch pa' (-1) (l.seq++[b])→K (.returned (.tuple #[])) w') :
  Calls Pg 251 #[.pointer (some ⟨F,0,none⟩),.int .i32 a] w fun e w1=>e=.returned (.tuple #[])∧Calls Pg 199 #[.pointer (some ⟨F,0,none⟩),.int .i32 b] w1 K:=by
 obtain ⟨s,pa,ps,hi,k,hz,he⟩:=h
 refine (Zct hi k ha).mono ?_
 rintro e w1 ⟨rfl,s1,r,ps1,pa1,hst1,k1,hpa,hed,hz1⟩
 refine ⟨rfl,(Qyf hst1.i k1 hb).mono ?_⟩
 rintro e w2 ⟨rfl,s2,l,ps2,hst2,k2,_⟩
 have he1:∀x y,Ed pa1 x y↔E x y:=fun x y=>(hed x y).trans (he x y)
 have hCh:=k2.head.2.2.1
 rw [show (T.node l b false .nil).seq=l.seq++[b] by simp [T.seq]] at hCh
 have htop:∃r,Top pa1 a r∧Top pa1 b r:=(Q5w k2.fst ha hb).2 (hw.imp fun l h=>h.congr fun x y h=>(he1 x y).2 h)
 exact hK w2 s2 pa1 l ps2 (hst1.trans hst2) k2 hpa (hz1 hz) he1 ((Zkd hCh hpa htop).congr fun x y h=>(he1 x y).1 h) hCh
end
section
variable {w₀ w w':World} {F L n:Nat} {s:S} {v:Nat→Int} {pa:Nat→Int} {t l r tl:T} {ps ps':List (T × Int)} {a b:Nat} {q:Int} {E E':Nat→Nat→Prop}
theorem AE.chk1 {x:Int} (h:AE w.heap F L n v E):Calls Pg 198 #[.pointer (some ⟨F,0,none⟩),.slice (some ⟨w.heap.size,0,none⟩) 1 1] (w.alloc (.cells #[.int .i64 x] 3)) fun e w'=>
  e=.returned (errV (ck1 n x))∧w'=w.alloc (.cells #[.int .i64 x] 3):=by obtain ⟨s,pa,ps,i,_⟩:=h;exact Qrc i
theorem AE.chk2 {x y:Int} (h:AE w.heap F L n v E):Calls Pg 198 #[.pointer (some ⟨F,0,none⟩),.slice (some ⟨w.heap.size,0,none⟩) 2 2] (w.alloc (.cells #[.int .i64 x,.int .i64 y] 3)) fun e w'=>
  e=.returned (errV (ck2 n x y))∧w'=w.alloc (.cells #[.int .i64 x,.int .i64 y] 3):=by obtain ⟨s,pa,ps,i,_⟩:=h;exact Qoo i
theorem Zha (h:AE w.heap F L n v E) (ha:a<n) (hb:b<n) :
  Calls Pg 277 #[.pointer (some ⟨F,0,none⟩),.int .i32 a,.int .i32 b] w fun e w'=>∃t,e=.returned (.bool t)∧(t=true↔E a b)∧CE w w' F L n v E∧
   (t=true→∃s' pa' l ps',St w w' F L n s'∧Lc n s' v pa' ((.node l b false .nil,-1)::ps')∧(∀z,n≤z→pa' z=-1)∧(∀x y,Ed pa' x y↔E x y)∧l≠.nil∧pa' b=a):=by
 refine (Qt9 _ _ _ _ (fun v' w'=>∃t,v'=.bool t∧(t=true↔E a b)∧CE w w' F L n v E∧(t=true→∃s' pa' l ps',St w w' F L n s'∧Lc n s' v pa' ((.node l b false .nil,-1)::ps')∧(∀z,n≤z→pa' z=-1)∧(∀x y,Ed pa' x y↔E x y)∧l≠.nil∧pa' b=a)) ?_).mono
  (by rintro e w' ⟨v,rfl,t,rfl,k⟩;exact ⟨t,rfl,k⟩)
 unfold Qnn nr
 refine Qac (fun hc=>?_) (fun hc=>?_)<;>simp only [b1s] at hc
 ·have:a=b:=by omega
  subst this
  exact ⟨false,rfl,by simp [h.irr ha],CE.start h,fun h=>by cases h⟩
 have hab:a≠b:=by omega
 refine (Q26 h ha hb).mono ?_
 rintro e w4 ⟨t,rfl,ht,hce⟩
 refine ⟨t,rfl,Qac (fun hc=>?_) (fun hc=>?_)⟩
 ·have h1:¬∃l,Way E a b l:=fun hw=>by rw [ht.2 hw] at hc;cases hc
  refine ⟨false,rfl,?_,hce,fun h=>by cases h⟩
  simp only [Bool.false_eq_true,false_iff]
  exact fun he=>h1 ⟨[a,b],rfl,rfl,by simp [hab],fun y hy=>by simp at hy;subst hy;exact he,fun y hy=>by simp at hy,trivial⟩
 ·have hw:∃l,Way E a b l:=ht.1 (by simpa using hc)
  refine Q8u (X:=True) hce.a ha hb hw ?_
  intro w8 s' pa' l ps' hst k hpa hz he hway hCh
  refine ⟨rfl,pt_i (Qdx hst (Qa1 (by omega) (by omega) (Qsw hst (by omega) ?_)))⟩
  have eb:(b:Int).toNat=b:=rfl
  rw [eb]
  have hN:=k.head.1.1
  have hsz:s'.size b=(l.ls.length+1:Nat):=by rw [hN.agg.size];simp [T.ls]
  have hll:l.ls.length=l.seq.length:=(T.Qb9 l).length_eq.symm
  have hce8:CE w w8 F L n v E:=hce.trans (CE.of hst k hz he)
  have hiff:(s'.size b==(2:Int))=true↔E a b:=by
   rw [hsz,hll]
   constructor
   ·intro h2
    have h2:l.seq.length=1:=by simp at h2;omega
    obtain ⟨z,hz1⟩:=List.length_eq_one_iff.1 h2
    have hd:=hway.hd
    rw [hz1] at hd hCh
    simp at hd
    subst hd
    exact (he _ _).1 (.inr (by simpa using hCh.2.1))
   ·intro hE
    have hed:=(he a b).2 hE
    have hpb:pa' b=a:=by
     rcases hed with h | h
     ·rw [hpa] at h;omega
     ·exact h
    have hC2:Ch pa' (-1) ([a]++[b]):=⟨hpa,hpb,trivial⟩
    have:=Q1z hCh hC2
    rw [this];rfl
  refine ⟨_,rfl,hiff,hce8,fun h2=>?_⟩
  have hE:=hiff.1 h2
  have hpb:pa' b=a:=by
   rcases (he a b).2 hE with h | h
   ·rw [hpa] at h;omega
   ·exact h
  refine ⟨s',pa',l,ps',?_,k,hz,he,?_,hpb⟩
  ·exact ⟨hst.i,(hce.c).trans hst.c,by have:=h.lt;exact this⟩
  ·rintro rfl
   rw [hsz] at h2;simp [T.ls] at h2
theorem Zhb (h:AE w.heap F L n v E) (ha:a<n) (hb:b<n) :
  Calls Pg 165 #[.pointer (some ⟨F,0,none⟩),.int .i64 a,.int .i64 b] w fun e w'=>∃t,e=.returned (.tuple #[.bool t,errV 0])∧(t=true↔∃l,Way E a b l)∧CE w w' F L n v E:=by
 have hn:=h.small
 refine (Qjy _ _ _).go ?_
 unfold Qhs nr
 refine Qal fun _=>h.chk2.mono ?_
 rintro e w6 ⟨rfl,rfl⟩
 refine ⟨_,rfl,Qaj (fun e=>by rw [Qtb ha hb] at e;exact absurd rfl e) (fun _=>?_)⟩
 rw [wrap32_in (by omega) (by omega),wrap32_in (by omega) (by omega)]
 refine (Q26 (h.alloc _) ha hb).mono ?_
 rintro e w9 ⟨t,rfl,ht,hce⟩
 exact ⟨t,rfl,t,rfl,ht,CE.Qnu h hce⟩
theorem Q17 (h:AE w.heap F L n v E) (ha:a<n) (hb:b<n) (hw:¬∃l,Way E a b l) :
  Calls Pg 209 #[.pointer (some ⟨F,0,none⟩),.int .i64 a,.int .i64 b] w fun e w'=>e=.returned (errV 0)∧CE w w' F L n v (fun x y=>E x y∨(x=a∧y=b)∨(x=b∧y=a)):=by
 have hn:=h.small
 refine (Qdu _ _ _).go ?_
 unfold Qdj nr
 refine Qal fun _=>h.chk2.mono ?_
 rintro e w6 ⟨rfl,rfl⟩
 refine ⟨_,rfl,Qaj (fun e=>by rw [Qtb ha hb] at e;exact absurd rfl e) (fun _=>?_)⟩
 rw [wrap32_in (by omega) (by omega),wrap32_in (by omega) (by omega)]
 refine (Q26 (h.alloc _) ha hb).mono ?_
 rintro e w9 ⟨t,rfl,ht,hce⟩
 have htf:t=false:=by cases t;rfl;exact absurd (ht.1 rfl) hw
 subst htf
 refine ⟨_,rfl,Qac (fun h=>by cases h) (fun _=>?_)⟩
 have hce:=CE.Qnu h hce
 obtain ⟨s,pa,ps,hi,k,hz,he⟩:=hce.a
 refine (Zct hi k ha).mono ?_
 rintro e w11 ⟨rfl,s1,r,ps1,pa1,hst,k1,hpa,hed,hz1⟩
 have ea:(a:Int).toNat=a:=rfl
 refine ⟨rfl,pt_i (Qdx hst (Qa1 (by omega) (by omega) (Qwd hst (by omega) fun w16 hst2=>?_)))⟩
 rw [ea] at hst2
 obtain ⟨rb,hrb⟩:=k1.fst.top b hb
 have hne:rb≠a:=by
  rintro rfl
  obtain ⟨l,hl⟩:=(Q5w k1.fst ha hb).1 ⟨rb,.root hpa,hrb⟩
  exact hw ⟨l,hl.congr fun x y h=>(he x y).1 ((hed x y).1 h)⟩
 have k2:=Zi4 k1 hb hrb hne
 refine ⟨rfl,hce.trans (CE.of hst2 k2 (fun z hzn=>?_) (fun x y=>?_))⟩
 ·rw [if_neg (by omega)];exact hz1 hz z hzn
 ·rw [Ziw hpa,hed,he]
theorem Q60 (h:AE w.heap F L n v E) (ha:a<n) (hb:b<n) (hw:E a b) :
  Calls Pg 235 #[.pointer (some ⟨F,0,none⟩),.int .i64 a,.int .i64 b] w fun e w'=>e=.returned (errV 0)∧CE w w' F L n v (fun x y=>E x y∧¬((x=a∧y=b)∨(x=b∧y=a))):=by
 have hn:=h.small
 refine (Qd1 _ _ _).go ?_
 unfold Qd5 nr
 refine Qal fun _=>h.chk2.mono ?_
 rintro e w6 ⟨rfl,rfl⟩
 refine ⟨_,rfl,Qaj (fun e=>by rw [Qtb ha hb] at e;exact absurd rfl e) (fun _=>?_)⟩
 rw [wrap32_in (by omega) (by omega),wrap32_in (by omega) (by omega)]
 refine (Zha (h.alloc _) ha hb).mono ?_
 rintro e w9 ⟨t,rfl,ht,hce,hs⟩
 obtain rfl:=ht.2 hw
 refine ⟨_,rfl,Qac (fun h=>by cases h) (fun _=>?_)⟩
 obtain ⟨s1,pa1,l,ps1,hst,k,hz,he,hl,hpb⟩:=hs rfl
 have eb:(b:Int).toNat=b:=rfl
 have hN:=k.head.1.1
 obtain ⟨z0,hz0⟩:∃z:Nat,l.rt=(z:Int):=by
  cases l with
  | nil=>exact absurd rfl hl
  | node p y q r=>exact ⟨y,rfl⟩
 have hz0n:z0<n:=k.lt (p:=(.node l b false .nil,-1)) (by simp) (by simp [T.ls,Qaq hz0.symm])
 have ez:(z0:Int).toNat=z0:=rfl
 refine pt_i (Qdx hst.drew (pt_i (Qdx hst.drew (Qa1 (by omega) (by omega) (Qpl (Qsy hst.drew (by omega) ?_))))))
 rw [eb,hN.left,hz0]
 refine Qa1 (by omega) (by omega) (Qwd hst.drew (by omega) fun w19 hst2=>?_)
 refine pt_i (Qdx hst2 (Qa1 (by omega) (by omega) (Qpl (Qsc hst2 (by omega) fun w24 hst3=>?_))))
 rw [eb,ez] at hst3
 have k2:=Zlq k hl
 rw [hz0,ez] at k2
 have hzb:z0≠b:=fun e=>by
  have hnd:=k.nd
  simp only [T.ls,List.nodup_append] at hnd
  exact hnd.2.2 z0 (Qaq hz0.symm) b (by simp) e
 have hwf3:Wf n ((s1.w_up z0 (-1)).Qa5 b (-1)):=fun i hi=>by
  obtain ⟨b1,b2,b3⟩:=k.wf i hi
  refine ⟨?_,?_,by simpa using b3⟩
  ·simp [upd];split<;>omega
  ·simp [upd];split<;>omega
 refine (Qky hst3.i (by omega) (by omega) hwf3 (by rw [eb];simp [upd]) (by rw [eb];simp [hN.right,T.rt])).mono ?_
 rintro e w25 ⟨rfl,hst4⟩
 refine ⟨rfl,rfl,CE.Qnu h (CE.of (hst3.trans hst4) k2 (fun z hzn=>?_) (fun x y=>?_))⟩
 ·rw [if_neg (by omega)];exact hz z hzn
 ·rw [Zma k.fst hb hpb,he]
theorem Ze5 {z:Int} (h:AE w.heap F L n v E) (ha:a<n) (hzv:-9223372036854775808≤z∧z≤9223372036854775807) :
  Calls Pg 130 #[.pointer (some ⟨F,0,none⟩),.int .i64 a,.int .i64 z] w fun e w'=>e=.returned (errV 0)∧CE w w' F L n (upd v a z) E:=by
 have hn:=h.small
 refine (Qgh _ _ _).go ?_
 unfold Qfm nr
 refine Qal fun _=>h.chk1.mono ?_
 rintro e w6 ⟨rfl,rfl⟩
 refine ⟨_,rfl,Qaj (fun e=>by rw [Q8r ha] at e;exact absurd rfl e) (fun _=>?_)⟩
 rw [wrap32_in (by omega) (by omega)]
 obtain ⟨s,pa,ps,hi,k,hz,he⟩:=h.alloc (.cells #[.int .i64 a] 3)
 refine (Qyf hi k ha).mono ?_
 rintro e w8 ⟨rfl,s1,l,ps1,hst,k1,_⟩
 have ea:(a:Int).toNat=a:=rfl
 refine ⟨rfl,pt_i (Qdx hst (Qa1 (by omega) (by omega) (Q0l hst (by omega) fun w13 hst2=>?_)))⟩
 rw [ea] at hst2
 have hN:=k1.head.1.1
 have hnd:=k1.nd
 simp only [T.ls,List.nodup_append] at hnd
 have hla:l.rt≠(a:Int):=fun e=>hnd.2.2 a (Qaq e.symm) a (by simp) rfl
 have hwf:Wf n (s1.Qbk a z):=fun i hi=>by simpa using k1.wf i hi
 refine (Qky hst2.i (by omega) (by omega) hwf (by rw [ea];simpa [hN.left] using hla) (by rw [ea];simp [hN.right,T.rt])).mono ?_
 rintro e w14 ⟨rfl,hst3⟩
 exact ⟨rfl,rfl,CE.Qnu h (CE.of (hst2.trans hst3) (Zlo k1 hzv) hz he)⟩
end
end Cut
end Go.Proofs.YtfeekmmfdkfgmaaGreatDoor
