/-
What stands round places (layer 10's program): the record, and new ones.
Conditions: those that each theorem states.
-/
import Derived.Test.YtfeekmmfdkfgmaaGreatDoorGCoreA
import Derived.Test.YtfeekmmfdkfgmaaGreatDoorGWeb
import Derived.Test.YtfeekmmfdkfgmaaGreatDoorHsh
set_option linter.unusedVariables false
set_option linter.unusedSimpArgs false
namespace Go.Proofs.YtfeekmmfdkfgmaaGreatDoor
open Go Go.RowKit
namespace Core
set_option linter.ambiguousOpen false
open Seq Cut Web
theorem Q0j (w:World) (o:Obj):(w.alloc o).heap.size=w.heap.size+1:=by show (w.heap.push _).size=_;simp
theorem Q5i (w:World):w.drew.heap.size=w.heap.size:=rfl
def dc (o nx pv:Nat→Int) (x:Nat):List Value:=[.int .i32 (o x),.int .i32 (nx x),.int .i32 (pv x)]
def ic (ls:Nat→Int) (v:Nat):List Value:=[.int .i32 (ls v)]
structure TR (h:Array Obj) (T TD TL TM N:Nat) (o nx pv ls ms:Nat→Int):Prop where
 r:Row h T 296 [.slice (some ⟨TD,0,none⟩) (2*N) (2*N),.slice (some ⟨TL,0,none⟩) N N,.slice (some ⟨TM,0,none⟩) N N]
 d:Row h TD 298 (recs (dc o nx pv) (2*N))
 l:Row h TL 21 (recs (ic ls) N)
 m:Row h TM 21 (recs (ic ms) N)
 ne:T≠TD∧T≠TL∧T≠TM∧TD≠TL∧TD≠TM∧TL≠TM
 sz:1≤N∧N≤1048576
structure TQ (N:Nat) (tl:Nat→List Nat) (o nx pv ls ms:Nat→Int):Prop where
 nd:ND N tl
 of:∀x,x<2*N→x∉dl tl N→o x=-1
 on:∀x,x∈dl tl N→o x=og tl N x∧nx x=sg tl N x∧∃p,p∈dl tl N∧pv x=(p:Nat)∧sg tl N p=x
 l0:∀v,v<N→tl v=[]→ls v=-1
 l1:∀v,v<N→tl v≠[]→∃x,x∈tl v∧ls v=(x:Nat)
 m:∀v,v<N→ms v=(tl v).length
def TB (h:Array Obj) (T TD TL TM N:Nat) (tl:Nat→List Nat):Prop:=∃o nx pv ls ms,TR h T TD TL TM N o nx pv ls ms∧TQ N tl o nx pv ls ms
section
variable {w₀ w w':World} {T TD TL TM N:Nat} {tl tl':Nat→List Nat} {o nx pv ls ms:Nat→Int}
theorem Qd9 (x:Nat):(dc o nx pv x).length=3:=rfl
theorem Qjh (x:Nat):(ic ls x).length=1:=rfl
theorem Qol {x k:Nat} (hx:x<N) (hk:k<3):(recs (dc o nx pv) N)[x*3+k]?=(dc o nx pv x)[k]?:=Qdb _ Qd9 hx hk
theorem Qhy {x:Nat} (hx:x<N):(recs (ic ls) N)[x]?=some (.int .i32 (ls x)):=by
 have:=Qdb (k:=0) (ic ls) Qjh hx (by omega)
 rwa [Nat.mul_one,Nat.add_zero] at this
theorem Qp1 {x:Nat} {z:Int} (hx:x<N):(recs (ic ls) N).set x (.int .i32 z)=recs (ic (upd ls x z)) N:=by
 have:=Qca (k:=0) (ic ls) Qjh (g:=ic (upd ls x z)) (v:=.int .i32 z) hx (by omega) (fun j hj=>by unfold ic;rw [Qag _ _ hj]) (by unfold ic;rw [Qab];rfl)
 rwa [Nat.mul_one,Nat.add_zero] at this
theorem Qqx {x:Nat} {z:Int} (hx:x<N):(recs (dc o nx pv) N).set (x*3) (.int .i32 z)=recs (dc (upd o x z) nx pv) N:=
 Qca (k:=0) (dc o nx pv) Qd9 (g:=dc (upd o x z) nx pv) (v:=.int .i32 z) hx (by omega) (fun j hj=>by unfold dc;rw [Qag _ _ hj]) (by unfold dc;rw [Qab];rfl)
theorem Qwp {x:Nat} {z:Int} (hx:x<N):(recs (dc o nx pv) N).set (x*3+1) (.int .i32 z)=recs (dc o (upd nx x z) pv) N:=
 Qca (k:=1) (dc o nx pv) Qd9 (g:=dc o (upd nx x z) pv) (v:=.int .i32 z) hx (by omega) (fun j hj=>by unfold dc;rw [Qag _ _ hj]) (by unfold dc;rw [Qab];rfl)
theorem Qwo {x:Nat} {z:Int} (hx:x<N):(recs (dc o nx pv) N).set (x*3+2) (.int .i32 z)=recs (dc o nx (upd pv x z)) N:=
 Qca (k:=2) (dc o nx pv) Qd9 (g:=dc o nx (upd pv x z)) (v:=.int .i32 z) hx (by omega) (fun j hj=>by unfold dc;rw [Qag _ _ hj]) (by unfold dc;rw [Qab];rfl)
theorem TR.keep {S:Nat→Prop} (h:TR w.heap T TD TL TM N o nx pv ls ms) (c:Chg S w w') (hS:∀k,S k→k≠T∧k≠TD∧k≠TL∧k≠TM):TR w'.heap T TD TL TM N o nx pv ls ms:=
 ⟨c.row (fun s=>(hS _ s).1 rfl) h.r,c.row (fun s=>(hS _ s).2.1 rfl) h.d,c.row (fun s=>(hS _ s).2.2.1 rfl) h.l,c.row (fun s=>(hS _ s).2.2.2 rfl) h.m,h.ne,h.sz⟩
theorem TR.nob (h:TR w.heap T TD TL TM N o nx pv ls ms) (c:Chg Qaa w w'):TR w'.heap T TD TL TM N o nx pv ls ms:=h.keep c fun _ h=>h.elim
theorem TB.keep {S:Nat→Prop} (h:TB w.heap T TD TL TM N tl) (c:Chg S w w') (hS:∀k,S k→k≠T∧k≠TD∧k≠TL∧k≠TM):TB w'.heap T TD TL TM N tl:=by
 obtain ⟨o,nx,pv,ls,ms,h1,h2⟩:=h
 exact ⟨o,nx,pv,ls,ms,h1.keep c hS,h2⟩
theorem TB.nob (h:TB w.heap T TD TL TM N tl) (c:Chg Qaa w w'):TB w'.heap T TD TL TM N tl:=h.keep c fun _ h=>h.elim
theorem TB.nd {h:Array Obj} (k:TB h T TD TL TM N tl):ND N tl:=by obtain ⟨_,_,_,_,_,_,q⟩:=k;exact q.nd
theorem TB.sz {h:Array Obj} (k:TB h T TD TL TM N tl):1≤N∧N≤1048576:=by obtain ⟨_,_,_,_,_,r,_⟩:=k;exact r.sz
theorem TB.lt {h:Array Obj} (k:TB h T TD TL TM N tl):T<h.size∧TD<h.size∧TL<h.size∧TM<h.size:=by
 obtain ⟨_,_,_,_,_,r,_⟩:=k;exact ⟨r.r.lt,r.d.lt,r.l.lt,r.m.lt⟩
theorem Zf7:ND N (fun _=>[]):=by
 have:dl (fun _=>[]) N=[]:=by unfold dl;simp
 exact ⟨by rw [this];exact List.nodup_nil,by rw [this];intro d hd;cases hd⟩
theorem Zkn (h1:1≤N) (h2:N≤1048576):Calls Pg 127 #[.int .i64 N,.int .i64 N] w fun r w'=>∃T TD TL TM,r=.returned (.tuple #[.pointer (some ⟨T,0,none⟩),errV 0])∧Chg Qaa w w'∧
  (w.heap.size≤T∧w.heap.size≤TD∧w.heap.size≤TL∧w.heap.size≤TM)∧TB w'.heap T TD TL TM N (fun _=>[]):=by
 refine (Qv4 _ _).go ?_
 unfold Qwe nr
 refine ⟨fun _ w'=>w'=w,?_,?_⟩
 ·refine Qac (fun h=>?_) (fun _=>Qac (fun h=>?_) (fun _=>Qac (fun h=>?_) (fun _=>Qac (fun h=>?_) (fun _=>rfl))))<;>simp only [b1s] at h<;>omega
 rintro _ w3 rfl
 rw [wrap64_in (x:=(2:Int)*N) (by omega) (by omega),show (2:Int)*N=((2*N:Nat):Int) by omega]
 have et:∀m:Nat,Int.toNat (m:Int)=m:=fun m=>rfl
 simp only [et]
 refine ⟨fun vs w'=>∃T TD TL TM,vs=[.pointer (some ⟨T,0,none⟩)]∧Chg Qaa w3 w'∧(w3.heap.size≤T∧w3.heap.size≤TD∧w3.heap.size≤TL∧w3.heap.size≤TM)∧TR w'.heap T TD TL TM N (fun _=>0) (fun _=>0) (fun _=>0) (fun _=>0) (fun _=>0),?_,?_⟩
 ·have z0:(0:Int)≤((2*N:Nat):Int):=by omega
  have z2:(12:Int)*((2*N:Nat):Int)≤140737488355328:=by omega
  have y0:(0:Int)≤(N:Int):=by omega
  have y2:(4:Int)*(N:Int)≤140737488355328:=by omega
  have ze:=Int.le_refl ((2*N:Nat):Int)
  have ye:=Int.le_refl (N:Int)
  refine ⟨⟨z0,ze,z2,Qal fun r1=>⟨⟨y0,ye,y2,Qal fun r2=>⟨y0,ye,y2,Qal fun r3=>Qal fun r4=>?_⟩⟩,y0,ye,y2,Qal fun r2=>⟨y0,ye,y2,Qal fun r3=>Qal fun r4=>?_⟩⟩⟩,
   ⟨y0,ye,y2,Qal fun r1=>⟨⟨z0,ze,z2,Qal fun r2=>⟨y0,ye,y2,Qal fun r3=>Qal fun r4=>?_⟩⟩,y0,ye,y2,Qal fun r2=>⟨z0,ze,z2,Qal fun r3=>Qal fun r4=>?_⟩⟩⟩,
   y0,ye,y2,Qal fun r1=>⟨⟨z0,ze,z2,Qal fun r2=>⟨y0,ye,y2,Qal fun r3=>Qal fun r4=>?_⟩⟩,y0,ye,y2,Qal fun r2=>⟨z0,ze,z2,Qal fun r3=>Qal fun r4=>?_⟩⟩⟩
  all_goals
   rw [Qas] at r1 r2 r3
   refine ⟨_,_,_,_,rfl,((((Chg.refl _ _).drew.alloc _).alloc _).alloc _).alloc _,?_,r4,by first | exact ((r1.alloc _).alloc _).alloc _ | exact (r2.alloc _).alloc _ | exact r3.alloc _,by first | exact ((r1.alloc _).alloc _).alloc _ | exact (r2.alloc _).alloc _ | exact r3.alloc _,by first | exact ((r1.alloc _).alloc _).alloc _ | exact (r2.alloc _).alloc _ | exact r3.alloc _,?_,h1,h2⟩
   ·simp only [Q0j,Q5i];omega
   ·simp only [Q0j,Q5i];omega
 rintro _ p w4 ⟨T,TD,TL,TM,hp,hc,hb,ht⟩
 simp only [List.cons.injEq,Value.pointer.injEq,and_true] at hp
 subst hp
 refine pt_i (Qai ht.r rfl ?_)
 have hdne:=ht.ne
 let J:Nat→List Value→World→Prop:=fun j vs w'=>∃i:Nat,vs=[.int .i64 i]∧i≤2*N∧Chg (·=TD) w4 w'∧Row w'.heap TD 298 (recs (dc (fun x=>if x<i then -1 else 0) (fun _=>0) (fun _=>0)) (2*N))∧j=2*N-i
 refine ⟨LI J,LM J,⟨_,0,rfl,by omega,Chg.refl _ _,?_,rfl⟩,?_⟩
 ·refine (Qbb fun j _=>?_) ▸ ht.d
  simp [dc]
 intro _ i w5 hJ
 obtain ⟨i,hvs,hin,hc5,hd5,hj⟩:=hJ.at
 simp only [vj] at hvs
 subst hvs
 have hr5:=hc5.row (fun e=>hdne.1 e) ht.r
 refine Qac (fun hlt=>?_) (fun hlt=>?_)<;>simp only [b1s] at hlt
 ·refine pt_i (Qai hr5 rfl (Qat (by omega) ?_))
  rw [Nat.zero_add]
  refine Qbg hd5 (by rw [Qah _ Qd9];omega) rfl fun hd6=>?_
  rw [wrap64_in (by omega) (by omega)]
  refine LI.again (k:=2*N-(i+1)) ⟨i+1,rfl,by omega,hc5.setCell _ _ (.inl rfl),?_,rfl⟩ (by rw [hj];omega)
  rw [Qqx (by omega)] at hd6
  rw [Q00] at hd6
  exact hd6
 have hi:i=2*N:=by omega
 subst hi
 clear hJ hj J
 refine pt_i (Qai hr5 rfl ?_)
 have hl5:=hc5.row (fun e=>hdne.2.2.2.1 e.symm) ht.l
 have hm5:=hc5.row (fun e=>hdne.2.2.2.2.1 e.symm) ht.m
 let J:Nat→List Value→World→Prop:=fun j vs w'=>∃i:Nat,vs=[.int .i64 i]∧i≤N∧Chg (·=TL) w5 w'∧Row w'.heap TL 21 (recs (ic (fun x=>if x<i then -1 else 0)) N)∧j=N-i
 refine ⟨LI J,LM J,⟨_,0,rfl,by omega,Chg.refl _ _,?_,rfl⟩,?_⟩
 ·refine (Qbb fun j _=>?_) ▸ hl5
  simp [ic]
 intro _ i w6 hJ
 obtain ⟨i,hvs,hin,hc6,hl6,hj⟩:=hJ.at
 simp only [vj] at hvs
 subst hvs
 have hr6:=hc6.row (fun e=>hdne.2.1 e) hr5
 refine Qac (fun hlt=>?_) (fun hlt=>?_)<;>simp only [b1s] at hlt
 ·refine pt_i (Qai hr6 rfl (Qat (by omega) ?_))
  rw [Nat.zero_add,Nat.mul_one]
  refine Qbg hl6 (by rw [Qah _ Qjh];omega) rfl fun hl7=>?_
  rw [wrap64_in (by omega) (by omega)]
  refine LI.again (k:=N-(i+1)) ⟨i+1,rfl,by omega,hc6.setCell _ _ (.inl rfl),?_,rfl⟩ (by rw [hj];omega)
  rw [Qp1 (by omega),Q00] at hl7
  exact hl7
 have hi:i=N:=by omega
 subst hi
 have hd6:=hc6.row (fun e=>hdne.2.2.2.1 e) hd5
 have hm6:=hc6.row (fun e=>hdne.2.2.2.2.2 e.symm) hm5
 refine ⟨T,TD,TL,TM,rfl,(hc.trans' hc5 fun k e=>.inr (by omega)).trans' hc6 fun k e=>.inr (by omega),hb,_,_,_,_,_,⟨hr6,hd6,hl6,hm6,hdne,h1,h2⟩,?_⟩
 have e0:dl (fun _=>[]) i=[]:=by unfold dl;simp
 exact ⟨Zf7,fun x hx _=>if_pos hx,fun x hx=>(by rw [e0] at hx;cases hx),fun v hv _=>if_pos hv,fun _ _ h=>absurd rfl h,fun _ _=>rfl⟩
end
instance {tl:Nat→List Nat} {N e:Nat}:Decidable (Laid tl N e):=inferInstanceAs (Decidable (2*e∈dl tl N))
section
variable {w₀ w w':World} {T TD TL TM N d e v:Nat} {tl tl':Nat→List Nat} {o nx pv ls ms:Nat→Int}
theorem tdiv2:Int.tdiv ((2*N:Nat):Int) 2=N:=by rw [Int.natCast_mul];exact Int.mul_tdiv_cancel_left _ (by decide)
theorem Q7d {e:Int} (h:TB w.heap T TD TL TM N tl):Calls Pg 201 #[.pointer (some ⟨T,0,none⟩),.int .i64 e] w fun r w'=>r=.returned (errV (if 0≤e∧e<N then 0 else 12))∧w'=w:=by
 refine (Qjq _ _).go ?_
 unfold Qhi nr
 obtain ⟨o,nx,pv,ls,ms,hr,hq⟩:=h
 have hsz:=hr.sz
 refine Qac (fun h=>by cases h) (fun _=>Qac (fun h1=>?_) (fun h1=>pt_i (Qai hr.r rfl ⟨by decide,?_⟩)))<;>simp only [b1s] at h1
 ·rw [if_neg (by omega)];exact ⟨rfl,rfl⟩
 ·rw [tdiv2,wrap64_in (by omega) (by omega)]
  refine Qac (fun h2=>?_) (fun h2=>?_)<;>simp only [b1s] at h2
  ·rw [if_neg (by omega)];exact ⟨rfl,rfl⟩
  ·rw [if_pos (by omega)];exact ⟨rfl,rfl⟩
theorem TQ.Q9f (hq:TQ N tl o nx pv ls ms) (hd:d<2*N):o d=-1↔d∉dl tl N:=by
 constructor
 ·intro h1 h2
  have:=(hq.on d h2).1
  omega
 ·exact hq.of d hd
theorem Q86 (h:TB w.heap T TD TL TM N tl) (he:e<N):Calls Pg 133 #[.pointer (some ⟨T,0,none⟩),.int .i64 e] w fun r w'=>r=.returned (.bool (decide (Laid tl N e)))∧w'=w:=by
 refine (Qge _ _ _ (fun v' w'=>v'=.bool (decide (Laid tl N e))∧w'=w) ?_).mono rti
 unfold Qfj nr
 refine (Q7d h).mono ?_
 rintro r w3 ⟨rfl,rfl⟩
 rw [if_pos (by omega)]
 refine ⟨_,rfl,Qbu _,Qac (fun _=>?_) (fun h=>by simp [Qb4] at h)⟩
 obtain ⟨o,nx,pv,ls,ms,hr,hq⟩:=h
 have hsz:=hr.sz
 rw [wrap64_in (by omega) (by omega),show (2:Int)*e=((2*e:Nat):Int) by omega]
 refine pt_i (Qai hr.r rfl (Qat (by omega) (Qaf (n:=o (2*e)) hr.d (by rw [Nat.zero_add];exact Qol (k:=0) (by omega) (by omega)) ⟨?_,rfl⟩)))
 congr 1
 rw [Bool.eq_iff_iff,bne_iff_ne,decide_eq_true_iff,Ne,hq.Q9f (by omega),Classical.not_not];rfl
def dE (tl:Nat→List Nat) (N:Nat) (d:Int):Int:=if 0≤d∧d<2*N then (if d.toNat∈dl tl N then 0 else 13) else 12
theorem Zci:dE tl N (d:Int)=if d<2*N then (if d∈dl tl N then 0 else 13) else 12:=by
 unfold dE
 by_cases h:d<2*N
 ·rw [if_pos h,if_pos (by omega)];rfl
 ·rw [if_neg h,if_neg (by omega)]
theorem Zl9 (h:TB w.heap T TD TL TM N tl) (hd:d∈dl tl N):dE tl N (d:Int)=0:=by
 rw [Zci,if_pos (h.nd.lt d hd),if_pos hd]
theorem Q7e {d:Int} (h:TB w.heap T TD TL TM N tl):Calls Pg 227 #[.pointer (some ⟨T,0,none⟩),.int .i64 d] w fun r w'=>∃a b c:Int,r=.returned (.tuple #[.agg #[.int .i32 a,.int .i32 b,.int .i32 c],errV (dE tl N d)])∧Chg Qaa w w'∧
  (∀x:Nat,d=x→x∈dl tl N→a=og tl N x∧b=sg tl N x∧∃p,p∈dl tl N∧c=(p:Nat)∧sg tl N p=x)∧(dE tl N d≠0→a=0∧b=0∧c=0):=by
 refine (Qjr _ _ _ (fun v' w'=>∃a b c:Int,v'=.tuple #[.agg #[.int .i32 a,.int .i32 b,.int .i32 c],errV (dE tl N d)]∧Chg Qaa w w'∧
  (∀x:Nat,d=x→x∈dl tl N→a=og tl N x∧b=sg tl N x∧∃p,p∈dl tl N∧c=(p:Nat)∧sg tl N p=x)∧(dE tl N d≠0→a=0∧b=0∧c=0)) ?_).mono (by rintro e w' ⟨v,rfl,a,b,c,rfl,k⟩;exact ⟨a,b,c,rfl,k⟩)
 unfold Qhj nr
 have hnd:=h.nd
 obtain ⟨o,nx,pv,ls,ms,hr,hq⟩:=h
 have hsz:=hr.sz
 refine Qal fun ha=>?_
 have hc:Chg Qaa w (w.alloc (.cells #[.int .i32 0,.int .i32 0,.int .i32 0] 298)):=(Chg.refl _ _).alloc _
 have hb:w.heap.size≤w.heap.size:=Nat.le_refl _
 replace hr:=hr.nob hc
 generalize w.alloc (.cells #[.int .i32 0,.int .i32 0,.int .i32 0] 298)=w3 at *
 generalize hA:w.heap.size=A at *
 have fin:∀(x y z:Int) (E:Value),(∃a b c:Int,Value.tuple #[.agg #[.int .i32 x,.int .i32 y,.int .i32 z],E]=.tuple #[.agg #[.int .i32 a,.int .i32 b,.int .i32 c],errV (dE tl N d)]∧(∀x:Nat,d=x→x∈dl tl N→a=og tl N x∧b=sg tl N x∧∃p,p∈dl tl N∧c=(p:Nat)∧sg tl N p=x)∧(dE tl N d≠0→a=0∧b=0∧c=0))→
   sto ⟨A,0,none⟩ (.int .i32 x) w3 fun w4=>sto ((⟨A,0,none⟩:Addr).add 1) (.int .i32 y) w4 fun w5=>sto ((⟨A,0,none⟩:Addr).add 2) (.int .i32 z) w5 fun w6=>ldI .i32 ⟨A,0,none⟩ w6 fun n7=>ldI .i32 ((⟨A,0,none⟩:Addr).add 1) w6 fun n8=>ldI .i32 ((⟨A,0,none⟩:Addr).add 2) w6 fun n9=>
    ∃a b c:Int,Value.tuple #[.agg #[.int .i32 n7,.int .i32 n8,.int .i32 n9],E]=.tuple #[.agg #[.int .i32 a,.int .i32 b,.int .i32 c],errV (dE tl N d)]∧Chg Qaa w w6∧(∀x:Nat,d=x→x∈dl tl N→a=og tl N x∧b=sg tl N x∧∃p,p∈dl tl N∧c=(p:Nat)∧sg tl N p=x)∧(dE tl N d≠0→a=0∧b=0∧c=0):=by
  rintro x y z E ⟨a,b,c,k1,k2⟩
  rw [Qad,Qad]
  refine Qbg ha (by simp) rfl fun r1=>Qbg r1 (by simp) rfl fun r2=>Qbg r2 (by simp) rfl fun r3=>Qaf (n:=x) r3 (by simp) (Qaf (n:=y) r3 (by simp) (Qaf (n:=z) r3 (by simp) ?_))
  exact ⟨a,b,c,k1,((hc.setCell _ _ (.inr (by rw [hA];exact Nat.le_refl _))).setCell _ _ (.inr (by rw [hA];exact Nat.le_refl _))).setCell _ _ (.inr (by rw [hA];exact Nat.le_refl _)),k2⟩
 refine Qac (fun h=>by cases h) (fun _=>⟨fun vs w'=>w'=w3∧vs=[.bool (decide (¬(0≤d∧d<2*N)))],?_,?_⟩)
 ·refine Qac (fun h1=>⟨rfl,?_⟩) (fun h1=>pt_i (Qai hr.r rfl ⟨rfl,?_⟩))<;>simp only [b1s] at h1
  ·rw [decide_eq_true (show ¬(0≤d∧d<2*N) by omega)]
  ·congr 2;exact decide_eq_decide.2 (by omega)
 rintro _ b4 w4 ⟨rfl,hb4⟩
 simp only [List.cons.injEq,Value.bool.injEq,and_true] at hb4
 subst hb4
 refine Qac (fun h1=>?_) (fun h1=>?_)<;>simp only [b1s] at h1
 ·have e0:dE tl N d=12:=by unfold dE;rw [if_neg h1]
  exact fin 0 0 0 _ ⟨0,0,0,by rw [e0];rfl,fun x hx hm=>(by have:=hnd.lt x hm;omega),fun _=>⟨rfl,rfl,rfl⟩⟩
 have h1:=Classical.not_not.1 h1
 obtain ⟨x,rfl⟩:∃x:Nat,d=x:=⟨d.toNat,by omega⟩
 have hx:x<2*N:=by omega
 have g0:(recs (dc o nx pv) (2*N))[x*3]?=some (.int .i32 (o x)):=Qol (k:=0) hx (by omega)
 have g1:(recs (dc o nx pv) (2*N))[x*3+1]?=some (.int .i32 (nx x)):=Qol (k:=1) hx (by omega)
 have g2:(recs (dc o nx pv) (2*N))[x*3+2]?=some (.int .i32 (pv x)):=Qol (k:=2) hx (by omega)
 refine pt_i (Qai hr.r rfl (Qat hx ?_))
 rw [Nat.zero_add]
 refine Qaf (n:=o x) hr.d g0 (Qac (fun h3=>?_) (fun h3=>?_))<;>simp only [b1s] at h3
 ·have hm:=(hq.Q9f hx).1 h3
  have e0:dE tl N (x:Int)=13:=by rw [Zci,if_pos hx,if_neg hm]
  exact fin 0 0 0 _ ⟨0, 0, 0, by rw [e0]; rfl, fun y hy hm2 => (by have : x = y := by omega
                                                                   subst this;exact absurd hm2 hm),fun _=>⟨rfl,rfl,rfl⟩⟩
 ·have hm:x∈dl tl N:=Classical.byContradiction fun k=>h3 ((hq.Q9f hx).2 k)
  have e0:dE tl N (x:Int)=0:=by rw [Zci,if_pos hx,if_pos hm]
  refine pt_i (Qai hr.r rfl (Qat hx ?_))
  rw [Nat.zero_add]
  refine Qaf (n:=o x) hr.d g0 ?_
  rw [Qad,Qad]
  refine Qaf (n:=nx x) hr.d g1 (Qaf (n:=pv x) hr.d g2 ?_)
  refine fin _ _ _ _ ⟨o x,nx x,pv x,by rw [e0];rfl,fun y hy hm2=>?_,fun k=>absurd e0 k⟩
  have:x=y:=by omega
  subst this
  exact hq.on x hm
theorem Zec (h:TB w.heap T TD TL TM N tl) (hd:d∈dl tl N):og tl N d<N:=(Qbm hd).1
theorem Q7f (h:TB w.heap T TD TL TM N tl) (hd:d∈dl tl N):Calls Pg 158 #[.pointer (some ⟨T,0,none⟩),.int .i64 d] w fun r w'=>r=.returned (.tuple #[.int .i64 (sg tl N d),errV 0])∧Chg Qaa w w':=by
 refine (Qfc _ _).go ?_
 unfold Qes nr
 have hsz:=h.sz
 have hs:=h.nd.lt _ (h.nd.Qcs hd).1
 refine (Q7e h).mono ?_
 rintro r w6 ⟨a,b,c,rfl,hc,h1,_⟩
 obtain ⟨rfl,rfl,p,_,rfl,_⟩:=h1 d rfl hd
 refine ⟨_,_,_,_,rfl,Qal fun r1=>?_⟩
 rw [Qad,Qad]
 refine Qbg r1 (by simp) rfl fun r2=>Qbg r2 (by simp) rfl fun r3=>Qbg r3 (by simp) rfl fun r4=>Qaf (n:=(sg tl N d:Int)) r4 (by simp) ⟨?_,?_⟩
 ·rw [wrap64_in (by omega) (by omega),Zl9 h hd]
 ·have hs:=hc.size
  exact (((hc.alloc _).setCell _ _ (.inr hs)).setCell _ _ (.inr hs)).setCell _ _ (.inr hs)
theorem Q0k (h:TB w.heap T TD TL TM N tl) (hd:d∈dl tl N):Calls Pg 159 #[.pointer (some ⟨T,0,none⟩),.int .i64 d] w fun r w'=>r=.returned (.tuple #[.int .i64 (og tl N d),errV 0])∧Chg Qaa w w':=by
 refine (Qei _ _).go ?_
 unfold Qdy nr
 have hsz:=h.sz
 have hs:=Zec h hd
 refine (Q7e h).mono ?_
 rintro r w6 ⟨a,b,c,rfl,hc,h1,_⟩
 obtain ⟨rfl,rfl,p,_,rfl,_⟩:=h1 d rfl hd
 refine ⟨_,_,_,_,rfl,Qal fun r1=>?_⟩
 rw [Qad,Qad]
 refine Qbg r1 (by simp) rfl fun r2=>Qbg r2 (by simp) rfl fun r3=>Qbg r3 (by simp) rfl fun r4=>Qaf (n:=(og tl N d:Int)) r4 (by simp) ⟨?_,?_⟩
 ·rw [wrap64_in (by omega) (by omega),Zl9 h hd]
 ·have hs:=hc.size
  exact (((hc.alloc _).setCell _ _ (.inr hs)).setCell _ _ (.inr hs)).setCell _ _ (.inr hs)
theorem Q85 {d:Int} (h:TB w.heap T TD TL TM N tl) (hd:dE tl N d≠0):Calls Pg 158 #[.pointer (some ⟨T,0,none⟩),.int .i64 d] w fun r w'=>r=.returned (.tuple #[.int .i64 0,errV (dE tl N d)])∧Chg Qaa w w':=by
 refine (Qfc _ _).go ?_
 unfold Qes nr
 refine (Q7e h).mono ?_
 rintro r w6 ⟨a,b,c,rfl,hc,_,h1⟩
 obtain ⟨rfl,rfl,rfl⟩:=h1 hd
 refine ⟨_,_,_,_,rfl,Qal fun r1=>?_⟩
 rw [Qad,Qad]
 refine Qbg r1 (by simp) rfl fun r2=>Qbg r2 (by simp) rfl fun r3=>Qbg r3 (by simp) rfl fun r4=>Qaf (n:=0) r4 (by simp) ⟨rfl,?_⟩
 have hs:=hc.size
 exact (((hc.alloc _).setCell _ _ (.inr hs)).setCell _ _ (.inr hs)).setCell _ _ (.inr hs)
theorem Qzm {d:Int} (h:TB w.heap T TD TL TM N tl) (hd:dE tl N d≠0):Calls Pg 159 #[.pointer (some ⟨T,0,none⟩),.int .i64 d] w fun r w'=>r=.returned (.tuple #[.int .i64 0,errV (dE tl N d)])∧Chg Qaa w w':=by
 refine (Qei _ _).go ?_
 unfold Qdy nr
 refine (Q7e h).mono ?_
 rintro r w6 ⟨a,b,c,rfl,hc,_,h1⟩
 obtain ⟨rfl,rfl,rfl⟩:=h1 hd
 refine ⟨_,_,_,_,rfl,Qal fun r1=>?_⟩
 rw [Qad,Qad]
 refine Qbg r1 (by simp) rfl fun r2=>Qbg r2 (by simp) rfl fun r3=>Qbg r3 (by simp) rfl fun r4=>Qaf (n:=0) r4 (by simp) ⟨rfl,?_⟩
 have hs:=hc.size
 exact (((hc.alloc _).setCell _ _ (.inr hs)).setCell _ _ (.inr hs)).setCell _ _ (.inr hs)
end
structure Bk where
 M:Nat
 LV:Nat
 KB:Nat
 T:Nat
 TD:Nat
 TL:Nat
 TM:Nat
 W:Nat
 R:Nat
 F:Nat
 L:Nat
 CF:Nat
 CL:Nat
 EB:Nat
 TF:Nat
 TN:Nat
def Bk.ok (b:Bk):Prop:=∃x y z,(b.T<x∧b.TD<x∧b.TL<x∧b.TM<x)∧((x≤b.W∧b.W<y)∧(x≤b.R∧b.R<y)∧(x≤b.F∧b.F<y)∧(x≤b.L∧b.L<y)∧(x≤b.CF∧b.CF<y)∧(x≤b.CL∧b.CL<y)∧(x≤b.EB∧b.EB<y))∧
 ((y≤b.TF∧b.TF<z)∧(y≤b.TN∧b.TN<z))∧(z≤b.LV∧z≤b.KB∧z≤b.M)∧b.LV≠b.KB∧b.LV≠b.M∧b.KB≠b.M
def Bk.has (b:Bk) (k:Nat):Prop:=k=b.M∨k=b.LV∨k=b.KB∨(k=b.T∨k=b.TD∨k=b.TL∨k=b.TM)∨(k=b.W∨k=b.R∨k=b.F∨k=b.L∨k=b.CF∨k=b.CL∨k=b.EB)∨k=b.TF∨k=b.TN
def cV (lv:Nat→Bool) (N:Nat):Int:=sm (fun v=>if lv v then 1 else 0) N
def cE (tl:Nat→List Nat) (N:Nat):Int:=sm (fun e=>if Laid tl N e then 1 else 0) N
def cB (B:Nat→Option (Nat × Nat)) (N:Nat):Int:=sm (fun e=>if (B e).isSome then 1 else 0) N
def sB (B:Nat→Option (Nat × Nat)) (ky:Nat→Int) (N:Nat):Int:=sm (fun e=>if (B e).isSome then ky e/1048576 else 0) N
def mrow (b:Bk) (N:Nat) (v e c s:Int):List Value:=[.int .i64 N,.slice (some ⟨b.LV,0,none⟩) N N,.pointer (some ⟨b.T,0,none⟩),.pointer (some ⟨b.W,0,none⟩),.pointer (some ⟨b.TF,0,none⟩),.slice (some ⟨b.KB,0,none⟩) N N,.int .i64 v,.int .i64 e,.int .i64 0,.int .i64 c,.int .i64 s]
def bc (lv:Nat→Bool) (v:Nat):List Value:=[.bool (lv v)]
def kc (ky:Nat→Int) (e:Nat):List Value:=[.int .i64 (ky e)]
structure MP0 (h:Array Obj) (b:Bk) (N:Nat) (lv:Nat→Bool) (tl:Nat→List Nat) (q:List (List Nat)) (B D:Nat→Option (Nat × Nat)) (ky:Nat→Int):Prop where
 v:Row h b.LV 4 (recs (bc lv) N)
 k:Row h b.KB 2 (recs (kc ky) N)
 t:TB h b.T b.TD b.TL b.TM N tl
 w:WB h b.W b.R b.F b.L b.CF b.CL b.EB (3*N) N q D ky
 f:∃val,AE h b.TF b.TN (2*N) val (EW [] B N)∧(∀x,x<N→val x=-9223372036854775808)∧∀e p,B e=some p→val (N+e)=ky e
 o:b.ok
 kb:∀e,-2251799813685248≤ky e∧ky e<2251799813685248
structure MR (h:Array Obj) (b:Bk) (N:Nat) (lv:Nat→Bool) (tl:Nat→List Nat) (q:List (List Nat)) (B D:Nat→Option (Nat × Nat)) (ky:Nat→Int):Prop extends MP0 h b N lv tl q B D ky where
 r:Row h b.M 133 (mrow b N (cV lv N) (cE tl N) (cV lv N-cB B N) (sB B ky N))
def Bk.ch (b:Bk) (k:Nat):Prop:=k=b.M∨k=b.LV∨k=b.KB∨(k=b.TD∨k=b.TL∨k=b.TM)∨(k=b.L∨k=b.CL∨k=b.EB)∨k=b.TN
section
variable {w₀ w w':World} {b:Bk} {N e v:Nat} {lv lv':Nat→Bool} {tl tl':Nat→List Nat} {q q':List (List Nat)} {B B' D D':Nat→Option (Nat × Nat)} {ky ky':Nat→Int}
theorem Q5q (x:Nat):(bc lv x).length=1:=rfl
theorem Q1o (x:Nat):(kc ky x).length=1:=rfl
theorem Qj0 (hv:v<N):(recs (bc lv) N)[v]?=some (.bool (lv v)):=by
 have:=Qdb (k:=0) (bc lv) Q5q hv (by omega)
 rwa [Nat.mul_one,Nat.add_zero] at this
theorem Qz5 {z:Bool} (hv:v<N):(recs (bc lv) N).set v (.bool z)=recs (bc (upd lv v z)) N:=by
 have:=Qca (k:=0) (bc lv) Q5q (g:=bc (upd lv v z)) (v:=.bool z) hv (by omega) (fun j hj=>by unfold bc;rw [Qag _ _ hj]) (by unfold bc;rw [Qab];rfl)
 rwa [Nat.mul_one,Nat.add_zero] at this
theorem Qxr (hv:v<N):(recs (kc ky) N)[v]?=some (.int .i64 (ky v)):=by
 have:=Qdb (k:=0) (kc ky) Q1o hv (by omega)
 rwa [Nat.mul_one,Nat.add_zero] at this
theorem MP0.sz {h:Array Obj} (k:MP0 h b N lv tl q B D ky):1≤N∧N≤1048576:=k.t.sz
theorem MP0.keep {S:Nat→Prop} (h:MP0 w.heap b N lv tl q B D ky) (c:Chg S w w') (hS:∀k,S k→¬b.has k):MP0 w'.heap b N lv tl q B D ky:=by
 obtain ⟨val,f1,f2⟩:=h.f
 unfold Bk.has at hS
 exact ⟨c.row (fun s=>hS _ s (by simp)) h.v,c.row (fun s=>hS _ s (by simp)) h.k,h.t.keep c fun k s=>by have:=hS k s;simp only [not_or] at this;exact this.2.2.2.1,
  h.w.keep c fun k s=>by have:=hS k s;simp only [not_or] at this;exact this.2.2.2.2.1,⟨val,f1.keep c (fun s=>hS _ s (by simp)) (fun s=>hS _ s (by simp)),f2⟩,h.o,h.kb⟩
theorem MR.keep {S:Nat→Prop} (h:MR w.heap b N lv tl q B D ky) (c:Chg S w w') (hS:∀k,S k→¬b.has k):MR w'.heap b N lv tl q B D ky:=
 ⟨h.toMP0.keep c hS,c.row (fun s=>hS _ s (by simp [Bk.has])) h.r⟩
theorem Zcw:0≤cV lv N∧cV lv N≤N:=by
 have:=Q3r (n:=N) (f:=fun v=>if lv v then 1 else 0) (m:=1) fun i _=>by split<;>omega
 unfold cV;omega
theorem Zjv:0≤cE tl N∧cE tl N≤N:=by
 have:=Q3r (n:=N) (f:=fun e=>if Laid tl N e then 1 else 0) (m:=1) fun i _=>by split<;>omega
 unfold cE;omega
theorem Zcy:0≤cB B N∧cB B N≤N:=by
 have:=Q3r (n:=N) (f:=fun e=>if (B e).isSome then 1 else 0) (m:=1) fun i _=>by split<;>omega
 unfold cB;omega
theorem Zmu {f:Nat→Int} {n:Nat} (h:∀i,i<n→-2147483648≤f i∧f i<2147483648):-2147483648*(n:Int)≤sm f n∧sm f n≤2147483648*n:=by
 induction n with
 | zero=>simp [sm]
 | succ n ih=>
  have h1:=ih fun i hi=>h i (by omega)
  have h2:=h n (by omega)
  unfold sm
  have e1:((n+1:Nat):Int)=n+1:=by omega
  omega
theorem MP0.Zkw {h:Array Obj} (k:MP0 h b N lv tl q B D ky):-2251799813685248≤sB B ky N∧sB B ky N≤2251799813685248:=by
 have hs:=k.sz
 have:=Zmu (n:=N) (f:=fun e=>if (B e).isSome then ky e/1048576 else 0) fun i _=>by
  have:=k.kb i
  split<;>omega
 unfold sB;omega
theorem Q8v (h:MR w.heap b N lv tl q B D ky):Calls Pg 36 #[.pointer (some ⟨b.M,0,none⟩)] w fun r w'=>r=.returned (.agg #[.int .i64 (cV lv N),.int .i64 (cE tl N),.int .i64 (2*(cV lv N-cB B N)-cV lv N+cE tl N),.int .i64 (cV lv N-cB B N)])∧Chg Qaa w w':=by
 refine (Quc _).go ?_
 unfold Qnq nr
 have hsz:=h.sz
 have b1:=Zcw (lv:=lv) (N:=N)
 have b2:=Zcy (B:=B) (N:=N)
 have b3:=Zjv (tl:=tl) (N:=N)
 refine Qal fun r1=>Qac (fun h=>by cases h) (fun _=>pt_i ?_)
 simp only [Qad]
 refine Qaf (n:=cV lv N) (h.r.alloc _) rfl (Qaf (n:=cE tl N) (h.r.alloc _) rfl (Qaf (n:=0) (h.r.alloc _) rfl (Qaf (n:=cV lv N-cB B N) (h.r.alloc _) rfl (Qal fun r2=>?_))))
 have hc:Chg Qaa w ((w.alloc (.cells #[.int .i64 0,.int .i64 0,.int .i64 0,.int .i64 0] 92)).alloc (.cells #[.int .i64 0,.int .i64 0,.int .i64 0,.int .i64 0] 92)):=((Chg.refl _ _).alloc _).alloc _
 replace r1:=r1.alloc (.cells #[.int .i64 0,.int .i64 0,.int .i64 0,.int .i64 0] 92)
 have h12:(w.alloc (.cells #[.int .i64 0,.int .i64 0,.int .i64 0,.int .i64 0] 92)).heap.size=w.heap.size+1:=Q0j _ _
 rw [h12] at r2 ⊢
 generalize (w.alloc (.cells #[.int .i64 0,.int .i64 0,.int .i64 0,.int .i64 0] 92)).alloc (.cells #[.int .i64 0,.int .i64 0,.int .i64 0,.int .i64 0] 92)=w2 at *
 clear h12
 simp only [Qad]
 have al:∀(A:Nat) (u:World) (x0 x1 x2 x3 y0 y1 y2 y3:Int) (K:World→Prop),Row u.heap A 92 [.int .i64 y0,.int .i64 y1,.int .i64 y2,.int .i64 y3]→(∀u',Chg (·=A) u u'→Row u'.heap A 92 [.int .i64 x0,.int .i64 x1,.int .i64 x2,.int .i64 x3]→K u')→
   sto ⟨A,0,none⟩ (.int .i64 x0) u fun u1=>sto ⟨A,0+1,none⟩ (.int .i64 x1) u1 fun u2=>sto ⟨A,0+2,none⟩ (.int .i64 x2) u2 fun u3=>sto ⟨A,0+3,none⟩ (.int .i64 x3) u3 K:=by
  intro A u x0 x1 x2 x3 y0 y1 y2 y3 K r k
  refine Qbg r (by simp) rfl fun r3=>Qbg r3 (by simp) rfl fun r4=>Qbg r4 (by simp) rfl fun r5=>Qbg r5 (by simp) rfl fun r6=>k _ ?_ r6
  exact ((((Chg.refl (·=A) u).setCell ⟨A,0,none⟩ (.int .i64 x0) (.inl rfl)).setCell ⟨A,0+1,none⟩ (.int .i64 x1) (.inl rfl)).setCell ⟨A,0+2,none⟩ (.int .i64 x2) (.inl rfl)).setCell ⟨A,0+3,none⟩ (.int .i64 x3) (.inl rfl)
 refine al _ _ _ _ _ _ _ _ _ _ _ r2 fun u3 c3 r3=>?_
 refine Qaf (n:=cV lv N-cB B N) r3 rfl (Qaf (n:=cV lv N) r3 rfl (Qaf (n:=cE tl N) r3 rfl ?_))
 rw [wrap64_in (x:=2*(cV lv N-cB B N)) (by omega) (by omega),wrap64_in (x:=2*(cV lv N-cB B N)-cV lv N) (by omega) (by omega),wrap64_in (x:=2*(cV lv N-cB B N)-cV lv N+cE tl N) (by omega) (by omega)]
 refine Qbg r3 (by simp) rfl fun r4=>?_
 refine Qaf (n:=cV lv N) r4 rfl (Qaf (n:=cE tl N) r4 rfl (Qaf (n:=2*(cV lv N-cB B N)-cV lv N+cE tl N) r4 rfl (Qaf (n:=cV lv N-cB B N) r4 rfl ?_)))
 have c4:=c3.setCell ⟨w.heap.size+1,0+2,none⟩ (.int .i64 (2*(cV lv N-cB B N)-cV lv N+cE tl N)) (.inl rfl)
 refine al _ _ _ _ _ _ _ _ _ _ _ (c4.row (by omega) r1) fun u5 c5 r5=>?_
 refine Qaf (n:=cV lv N) r5 rfl (Qaf (n:=cE tl N) r5 rfl (Qaf (n:=2*(cV lv N-cB B N)-cV lv N+cE tl N) r5 rfl (Qaf (n:=cV lv N-cB B N) r5 rfl ⟨rfl,?_⟩)))
 exact (hc.trans' c4 fun k e=>.inr (by omega)).trans' c5 fun k e=>.inr (by omega)
theorem Zhc (h:MR w.heap b N lv tl q B D ky):Calls Pg 17 #[.pointer (some ⟨b.M,0,none⟩)] w fun r w'=>r=.returned (.int .i64 N)∧w'=w:=by
 refine (Qwz _).go ?_
 unfold Qrk nr
 exact Qac (fun h=>by cases h) (fun _=>pt_i (Qaf h.r rfl ⟨rfl,rfl⟩))
theorem Q7g {f:Nat→Int} {n:Nat} (h:∀i,i<n→f i=0):sm f n=0:=by rw [Qfi h,Q05]
theorem Q4n (h1:1≤N) (h2:N≤1048576):Calls Pg 59 #[.int .i64 N] w fun r w'=>∃b:Bk,r=.returned (.tuple #[.pointer (some ⟨b.M,0,none⟩),errV 0])∧Chg Qaa w w'∧(∀k,b.has k→w.heap.size≤k)∧
  MR w'.heap b N (fun _=>false) (fun _=>[]) (ones (3*N)) (fun _=>none) (fun _=>none) (fun _=>0):=by
 refine (Q2o _ _ (fun v' w'=>∃b:Bk,v'=.tuple #[.pointer (some ⟨b.M,0,none⟩),errV 0]∧Chg Qaa w w'∧(∀k,b.has k→w.heap.size≤k)∧
  MR w'.heap b N (fun _=>false) (fun _=>[]) (ones (3*N)) (fun _=>none) (fun _=>none) (fun _=>0)) ?_).mono (by rintro e w' ⟨v,rfl,b,rfl,k⟩;exact ⟨b,rfl,k⟩)
 unfold Q09 nr
 refine (Zkn h1 h2).mono ?_
 rintro r w3 ⟨T,TD,TL,TM,rfl,hc1,hb1,ht⟩
 refine ⟨_,_,rfl,Qaj (fun e=>absurd rfl e) (fun _=>?_)⟩
 rw [wrap64_in (x:=(3:Int)*N) (by omega) (by omega),wrap64_in (x:=(2:Int)*N) (by omega) (by omega),show (3:Int)*N=((3*N:Nat):Int) by omega,show (2:Int)*N=((2*N:Nat):Int) by omega]
 have lt1:=ht.lt
 refine (Zmn (n:=3*N) (t:=N) (by omega) (by omega) h1 h2).mono ?_
 rintro r w7 ⟨W,R,F,L,CF,CL,EB,rfl,hc2,hb2,hw⟩
 refine ⟨_,_,rfl,Qaj (fun e=>absurd rfl e) (fun _=>?_)⟩
 have lt2:W<w7.heap.size∧R<w7.heap.size∧F<w7.heap.size∧L<w7.heap.size∧CF<w7.heap.size∧CL<w7.heap.size∧EB<w7.heap.size:=by
  obtain ⟨_,f,_⟩:=hw.f
  exact ⟨hw.r.lt,hw.a.r.lt,hw.a.a.lt.1,hw.a.a.lt.2,f.lt.1,f.lt.2,hw.e.lt⟩
 replace ht:=ht.nob hc2
 refine (Cut.Ze6 (n:=2*N) (by omega) (by omega)).mono ?_
 rintro r w11 ⟨TF,TN,rfl,hc3,hTF,hTN,hf⟩
 refine ⟨_,_,rfl,Qaj (fun e=>absurd rfl e) (fun _=>?_)⟩
 have lt3:=hf.lt
 have hs1:=hc1.size
 have hs2:=hc2.size
 have hs3:=hc3.size
 replace ht:=ht.nob hc3
 replace hw:=hw.nob hc3
 have hfn:=hf.ne
 let J:Nat→List Value→World→Prop:=fun j vs w'=>∃i:Nat,vs=[.int .i64 i]∧i≤N∧CE w11 w' TF TN (2*N) (fun x=>if x<i then -9223372036854775808 else 0) (fun _ _=>False)∧j=N-i
 refine ⟨LI J,LM J,⟨_,0,rfl,by omega,?_,rfl⟩,?_⟩
 ·have e0:(fun x:Nat=>if x<0 then (-9223372036854775808:Int) else 0)=fun _=>0:=by funext x;simp
  rw [e0];exact CE.start hf
 intro _ i w16 hJ
 obtain ⟨i,hvs,hin,hce,hj⟩:=hJ.at
 simp only [vj] at hvs
 subst hvs
 refine Qac (fun hc=>?_) (fun hc=>?_)<;>simp only [b1s] at hc
 ·refine (Qze _ (fun v' w'=>v'=.int .i64 (-9223372036854775808)∧w'=w16) ⟨rfl,rfl⟩).mono ?_
  rintro r w18 ⟨v,rfl,rfl,rfl⟩
  refine ⟨_,rfl,(Cut.Ze5 (a:=i) (z:=-9223372036854775808) hce.a (by omega) (by omega)).mono ?_⟩
  rintro r w21 ⟨rfl,hce2⟩
  refine ⟨_,rfl,Qaj (fun e=>absurd rfl e) (fun _=>?_)⟩
  rw [wrap64_in (by omega) (by omega)]
  refine LI.again (k:=N-(i+1)) ⟨i+1,rfl,by omega,?_,rfl⟩ (by rw [hj];omega)
  rw [←Q00]
  exact hce.trans hce2
 have hi:i=N:=by omega
 subst hi
 clear hJ hj J
 have hs4:=hce.c.size
 have ht4:=ht.keep hce.c fun k s=>(by omega)
 have hw4:=hw.keep hce.c fun k s=>(by omega)
 have hf4:=hce.a
 have hc4:Chg Qaa w w16:=((hc1.trans hc2).trans hc3).trans' hce.c fun k e=>.inr (by omega)
 have et:∀m:Nat,Int.toNat (m:Int)=m:=fun m=>rfl
 simp only [et]
 have i0:(0:Int)≤(i:Int):=by omega
 have ie:=Int.le_refl (i:Int)
 have fin:∀(LV KB M:Nat) (w':World),Chg Qaa w16 w'→w16.heap.size≤LV∧w16.heap.size≤KB∧w16.heap.size≤M→LV≠KB∧LV≠M∧KB≠M→Row w'.heap LV 4 (recs (fun _=>[.bool false]) i)→Row w'.heap KB 2 (recs (fun _=>[.int .i64 0]) i)→
   Row w'.heap M 133 [.int .i64 i,.slice (some ⟨LV,0,none⟩) i i,.pointer (some ⟨T,0,none⟩),.pointer (some ⟨W,0,none⟩),.pointer (some ⟨TF,0,none⟩),.slice (some ⟨KB,0,none⟩) i i,.int .i64 0,.int .i64 0,.int .i64 0,.int .i64 0,.int .i64 0]→
   ∃b:Bk,(Value.tuple #[.pointer (some ⟨M,0,none⟩),.nilIface])=.tuple #[.pointer (some ⟨b.M,0,none⟩),errV 0]∧Chg Qaa w w'∧(∀k,b.has k→w.heap.size≤k)∧
    MR w'.heap b i (fun _=>false) (fun _=>[]) (ones (3*i)) (fun _=>none) (fun _=>none) (fun _=>0):=by
  intro LV KB M w' hc hlo hne r1 r2 r3
  have e1:cV (fun _=>false) i=0:=Q7g fun _ _=>rfl
  have e0:dl (fun _=>[]) i=[]:=by unfold dl;simp
  have e2:cE (fun _=>[]) i=0:=Q7g fun e _=>if_neg fun k=>(by unfold Laid at k;rw [e0] at k;cases k)
  have e3:cB (fun _=>none) i=0:=Q7g fun _ _=>rfl
  have e4:sB (fun _=>none) (fun _=>0) i=0:=Q7g fun _ _=>rfl
  refine ⟨⟨M,LV,KB,T,TD,TL,TM,W,R,F,L,CF,CL,EB,TF,TN⟩,rfl,hc4.trans hc,fun k hk=>?_,⟨r1,r2,ht4.nob hc,hw4.nob hc,⟨_,(hf4.keep hc (fun h=>h) (fun h=>h)).congr fun x y=>?_,fun x hx=>if_pos hx,fun e p h=>by cases h⟩,⟨w3.heap.size,w7.heap.size,w11.heap.size,lt1,by dsimp only;omega,by dsimp only;omega,by dsimp only;omega,hne⟩,fun _=>by omega⟩,?_⟩
  ·simp only [Bk.has] at hk;omega
  ·constructor
   ·exact False.elim
   ·rintro (⟨A,hA,_⟩ | ⟨e,a,b,h,_⟩)
    ·cases hA
    ·cases h
  ·rw [e1,e2,e3,e4];exact r3
 refine ⟨⟨i0,ie,by omega,Qal fun r1=>⟨i0,ie,by omega,Qal fun r2=>Qal fun r3=>?_⟩⟩,i0,ie,by omega,Qal fun r1=>⟨i0,ie,by omega,Qal fun r2=>Qal fun r3=>?_⟩⟩
 ·rw [Qas] at r1 r2
  refine fin _ _ _ _ ((((Chg.refl _ _).drew.alloc _).alloc _).alloc _) ?_ ?_ ((r1.alloc _).alloc _) (r2.alloc _) r3<;>simp only [Q0j,Q5i]<;>omega
 ·rw [Qas] at r1 r2
  refine fin _ _ _ _ ((((Chg.refl _ _).drew.alloc _).alloc _).alloc _) ?_ ?_ (r2.alloc _) ((r1.alloc _).alloc _) r3<;>simp only [Q0j,Q5i]<;>omega
end
end Core
end Go.Proofs.YtfeekmmfdkfgmaaGreatDoor
