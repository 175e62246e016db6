/-
What stands round places (layer 10's program): corners, darts put and taken, edges laid and lifted.
Conditions: those that each theorem states.
-/
import Derived.Test.YtfeekmmfdkfgmaaGreatDoorGTurn
set_option linter.unusedVariables false
set_option linter.unusedSimpArgs false
namespace Go.Proofs.YtfeekmmfdkfgmaaGreatDoor
open Go Go.RowKit
theorem Qao {b o:Nat} {e:TypeId} {cs:List Value} {v:Value} {w:World} {K:World→Prop} (r:Row w.heap b e cs) (h:o<cs.length) (hv:oneC v=true) (k:∀w',Chg (·=b) w w'→Row w'.heap b e (cs.set o v)→K w'):sto ⟨b,o,none⟩ v w K:=
 Qbg r h hv fun r'=>k _ ((Chg.refl _ _).setCell _ _ (.inl rfl)) r'
theorem Qak {cs:Array Value} {e:TypeId} {w:World} {K:Addr→World→Prop} (k:∀A w',w.heap.size≤A→Chg Qaa w w'→Row w'.heap A e cs.toList→K ⟨A,0,none⟩ w'):alo cs e w K:=
 Qal fun r=>k _ _ (Nat.le_refl _) ((Chg.refl _ _).alloc _) r
namespace Core
set_option linter.ambiguousOpen false
open Seq Cut Web
section
variable {w₀ w w':World} {T TD TL TM N d e u v b:Nat} {be ce:Int} {tl tl':Nat→List Nat} {o nx pv ls ms o' nx' pv' ls' ms':Nat→Int}
def oE (tl:Nat→List Nat) (N:Nat) (v be:Int):Int:=if 0≤v∧v<N then (if (be=-1∧tl v.toNat=[])∨(0≤be∧be.toNat∈tl v.toNat) then 0 else 13) else 12
theorem Zbo:(ins be d (tl v)).length=(tl v).length+1:=by rw [Qfp.length_eq];rfl
theorem Zlt:ins be d (tl v)≠[]:=fun h=>by have:=congrArg List.length h;rw [Zbo] at this;simp at this
theorem Qzx:put1 tl v be d v=ins be d (tl v):=Qab _ _ _
theorem Qsr {u:Nat} (h:u≠v):put1 tl v be d u=tl u:=Qag _ _ h
theorem TQ.put (hq:TQ N tl o nx pv ls ms) (hv:v<N) (hd:d∉dl tl N) (hd2:d<2*N)
  (hn:∀x,x∈dl (put1 tl v be d) N→nx' x=sg (put1 tl v be d) N x∧∃p,p∈dl (put1 tl v be d) N∧pv' x=(p:Nat)∧sg (put1 tl v be d) N p=x) (hl:∀u,u≠v→ls' u=ls u) (hl2:∃x,x∈put1 tl v be d v∧ls' v=(x:Nat)) :
  TQ N (put1 tl v be d) (upd o d v) nx' pv' ls' (upd ms v (ms v+1)):=by
 refine ⟨hq.nd.putM hv hd hd2,fun x hx hn=>?_,fun x hx=>⟨?_,hn x hx⟩,fun u hu h0=>?_,fun u hu h0=>?_,fun u hu=>?_⟩
 ·rw [Qc5 hv,not_or] at hn
  rw [Qag _ _ hn.1];exact hq.of x hx hn.2
 ·rw [hq.nd.Zan hv hd hd2]
  by_cases hxd:x=d
  ·rw [hxd,Qab,if_pos rfl]
  ·rw [Qag _ _ hxd,if_neg hxd]
   exact (hq.on x (((Qc5 hv).1 hx).resolve_left hxd)).1
 ·by_cases huv:u=v
  ·subst huv;rw [Qzx] at h0;exact absurd h0 Zlt
  ·rw [Qsr huv] at h0;rw [hl u huv];exact hq.l0 u hu h0
 ·by_cases huv:u=v
  ·subst huv;exact hl2
  ·rw [Qsr huv] at h0 ⊢;rw [hl u huv];exact hq.l1 u hu h0
 ·by_cases huv:u=v
  ·subst huv;rw [Qab,Qzx,Zbo,hq.m u hu];omega
  ·rw [Qag _ _ huv,Qsr huv];exact hq.m u hu
end
end Core
end Go.Proofs.YtfeekmmfdkfgmaaGreatDoor
namespace Go.Proofs.YtfeekmmfdkfgmaaGreatDoor
open Go Go.RowKit
namespace Core
set_option linter.ambiguousOpen false
open Seq Cut Web
structure MX (h:Array Obj) (b:Bk) (N:Nat) (lv:Nat→Bool) (tl:Nat→List Nat) (q:List (List Nat)) (B D:Nat→Option (Nat × Nat)) (ky:Nat→Int) (E:Int):Prop extends MP0 h b N lv tl q B D ky where
 r:Row h b.M 133 (mrow b N (cV lv N) E (cV lv N-cB B N) (sB B ky N))
structure XS (w₀ w:World) (b:Bk) (N:Nat) (lv:Nat→Bool) (tl:Nat→List Nat) (q:List (List Nat)) (B D:Nat→Option (Nat × Nat)) (ky:Nat→Int) (E:Int):Prop where
 c:Chg b.ch w₀ w
 a:MX w.heap b N lv tl q B D ky E
section
variable {w₀ w w':World} {b:Bk} {N e g v:Nat} {E E':Int} {lv lv':Nat→Bool} {tl tl':Nat→List Nat} {q q':List (List Nat)} {B B' D D':Nat→Option (Nat × Nat)} {ky ky':Nat→Int}
theorem MR.x {h:Array Obj} (k:MR h b N lv tl q B D ky):MX h b N lv tl q B D ky (cE tl N):=⟨k.toMP0,k.r⟩
theorem MX.m {h:Array Obj} (k:MX h b N lv tl q B D ky (cE tl N)):MR h b N lv tl q B D ky:=⟨k.toMP0,k.r⟩
theorem MX.keep {S:Nat→Prop} (h:MX w.heap b N lv tl q B D ky E) (c:Chg S w w') (hS:∀k,S k→¬b.has k):MX w'.heap b N lv tl q B D ky E:=⟨h.toMP0.keep c hS,c.row (fun s=>hS _ s (by simp [Bk.has])) h.r⟩
theorem MX.nob (h:MX w.heap b N lv tl q B D ky E) (c:Chg Qaa w w'):MX w'.heap b N lv tl q B D ky E:=h.keep c fun _ h=>h.elim
theorem MX.start (h:MX w.heap b N lv tl q B D ky E):XS w w b N lv tl q B D ky E:=⟨Chg.refl _ _,h⟩
theorem XS.trans (h:XS w₀ w b N lv tl q B D ky E) (k:XS w w' b N lv' tl' q' B' D' ky' E'):XS w₀ w' b N lv' tl' q' B' D' ky' E':=⟨h.c.trans k.c,k.a⟩
theorem XS.nob (h:XS w₀ w b N lv tl q B D ky E) (c:Chg Qaa w w'):XS w₀ w' b N lv tl q B D ky E:=⟨h.c.trans c.weak,h.a.nob c⟩
theorem WB.key {h:Array Obj} {W R F L CF CL EB n t:Nat} (k:WB h W R F L CF CL EB n t q D ky) (hk:∀e p,D e=some p→ky' e=ky e):WB h W R F L CF CL EB n t q D ky':=by
 obtain ⟨v,f,g1,g2⟩:=k.f
 exact ⟨k.r,k.e,k.a,⟨v,f,g1,fun e a b he=>(g2 e a b he).trans (hk e _ he).symm⟩,fun e a b he=>by rw [hk e _ he];exact k.d e a b he,k.nW,k.nE,k.nL,k.sz⟩
theorem MX.web (h:MX w.heap b N lv tl q B D ky E) (k:WS w w' b.W b.R b.F b.L b.CF b.CL b.EB (3*N) N q' D' ky):XS w w' b N lv tl q' B D' ky E:=by
 have c:=k.c
 obtain ⟨x,y,z,h1,h2,h3,h4,h5⟩:=h.o
 obtain ⟨val,f1,f2⟩:=h.f
 exact ⟨c.mono fun _ _ e=>.inr (.inr (.inr (.inr (.inl e)))),⟨c.row (by omega) h.v,c.row (by omega) h.k,h.t.keep c fun k s=>(by omega),k.a,⟨val,f1.keep c (by omega) (by omega),f2⟩,h.o,h.kb⟩,c.row (by omega) h.r⟩
theorem MP0.row (h:MP0 w.heap b N lv tl q B D ky) (c:Chg (·=b.M) w w'):MP0 w'.heap b N lv tl q B D ky:=by
 obtain ⟨x,y,z,h1,h2,h3,h4,h5⟩:=h.o
 obtain ⟨val,f1,f2⟩:=h.f
 exact ⟨c.row (by omega) h.v,c.row (by omega) h.k,h.t.keep c fun k s=>(by omega),h.w.keep c fun k s=>(by omega),⟨val,f1.keep c (by omega) (by omega),f2⟩,h.o,h.kb⟩
theorem MX.keyed {z:Int} (h:MX w.heap b N lv tl q B D ky E) (c:Chg (·=b.KB) w w') (r:Row w'.heap b.KB 2 (recs (kc (upd ky e z)) N)) (hB:B e=none) (hD:D e=none) (hz:-2251799813685248≤z∧z<2251799813685248):XS w w' b N lv tl q B D (upd ky e z) E:=by
 obtain ⟨x,y,z',h1,h2,h3,h4,h5⟩:=h.o
 obtain ⟨val,f1,f2,f3⟩:=h.f
 have ne:∀{D:Nat→Option (Nat × Nat)} {i p},D e=none→D i=some p→upd ky e z i=ky i:=fun h1 h2=>Qag _ _ (by rintro rfl;rw [h1] at h2;cases h2)
 have e1:sB B (upd ky e z) N=sB B ky N:=by
  unfold sB
  refine Qfi fun i _=>?_
  split
  ·rename_i hi
   obtain ⟨p,hp⟩:=Option.isSome_iff_exists.1 hi
   rw [ne hB hp]
  ·rfl
 refine ⟨c.mono fun _ _ e=>.inr (.inr (.inl e)),⟨c.row (by omega) h.v,r,h.t.keep c fun k s=>(by omega),WB.key (h.w.keep c fun k s=>(by omega)) fun i p hi=>ne hD hi,⟨val,f1.keep c (by omega) (by omega),f2,fun i p hi=>by rw [ne hB hi];exact f3 i p hi⟩,h.o,fun i=>?_⟩,?_⟩
 ·unfold upd;split
  ·exact hz
  ·exact h.kb i
 ·rw [e1];exact c.row (by omega) h.r
theorem Zb3 {K:Value→World→Prop} {g:Nat} {es:List Int} {z:Int} (r:Row w.heap g 30 (es.map errV)) (hl:es.length≤1000) (hz:((∀x∈es,x=0)∧z=0)∨∃pre post,es=pre++z::post∧z≠0∧∀x∈pre,x=0) (k:K (errV z) w) :
  Calls Pg 138 #[.slice (some ⟨g,0,none⟩) es.length es.length] w fun e w'=>∃v,e=.returned v∧K v w':=by
 refine (Q0h _ _ _ _ (fun v' w'=>v'=errV z∧w'=w) ?_).mono (by rintro e w' ⟨v,rfl,rfl,rfl⟩;exact ⟨_,rfl,k⟩)
 unfold Qxf nr
 let J:Nat→List Value→World→Prop:=fun j vs w'=>∃i:Nat,vs=[.int .i64 i]∧w'=w∧i≤es.length∧j=es.length-i∧∀x∈es.take i,x=0
 refine ⟨LI J,LM J,⟨_,0,rfl,rfl,by omega,rfl,by simp⟩,?_⟩
 intro _ i w' hJ
 obtain ⟨i,hvs,rfl,hi,hj,h0⟩:=hJ.at
 simp only [vj] at hvs
 subst hvs
 refine Qac (fun h=>?_) (fun h=>?_)<;>simp only [b1s] at h
 ·have hi':i<es.length:=by omega
  refine Qat hi' ?_
  rw [Nat.zero_add,Nat.mul_one]
  refine Zm1 (n:=errV es[i]) r (by rw [List.getElem?_map,List.getElem?_eq_getElem hi'];rfl) (Qaj (fun hne=>?_) (fun he=>?_))
  ·refine ⟨?_,rfl⟩
   rcases hz with ⟨hz,_⟩ | ⟨pre,post,hz,hz0,hp⟩
   ·exact absurd (hz _ (List.getElem_mem hi')) hne
   ·have h1:pre.length=i:=by
     rcases Nat.lt_trichotomy pre.length i with k | k | k
     ·have:z∈es.take i:=by
       rw [hz,List.take_append,List.mem_append];right
       rw [List.mem_take_iff_getElem]
       exact ⟨0,by simp;omega,rfl⟩
      exact absurd (h0 _ this) hz0
     ·exact k
     ·refine absurd (hp es[i] ?_) hne
      simp only [hz]
      rw [List.getElem_append_left k];exact List.getElem_mem _
    subst h1
    simp [hz]
  ·rw [wrap64_in (by omega) (by omega)]
   refine LI.again (k:=es.length-(i+1)) ⟨i+1,rfl,rfl,by omega,rfl,fun x hx=>?_⟩ (by rw [hj];omega)
   rw [List.take_add_one,List.getElem?_eq_getElem hi',List.mem_append] at hx
   rcases hx with hx | hx
   ·exact h0 x hx
   ·simp at hx;rw [hx];exact he
 ·have:i=es.length:=by omega
  subst this
  rw [List.take_length] at h0
  rcases hz with ⟨_,hz⟩ | ⟨pre,post,hz,hz0,hp⟩
  ·rw [hz];exact ⟨rfl,rfl⟩
  ·exact absurd (h0 z (by rw [hz];simp)) hz0
theorem Zaq {x:Int} {K:Prop} (k:K):ocm (errV x) K:=by unfold errV;split<;>exact k
theorem Q5e {K:Value→World→Prop} (k:∀w',Chg Qaa w w'→K (errV 0) w'):ocm (errV 0) (ocm (errV 0) (ocm (errV 0) (alo #[errV 0,errV 0,errV 0] 30 w fun a w1=>Calls Pg 138 #[.slice (some a) 3 3] w1 fun e w2=>∃v,e=.returned v∧K v w2))):=
 Zaq (Zaq (Zaq (Qak fun A w1 _ c r=>Zb3 (es:=[0,0,0]) r (by simp) (.inl (by simp)) (k _ c))))
theorem Q3g {x:Int} (h:MX w.heap b N lv tl q B D ky E):Calls Pg 132 #[.pointer (some ⟨b.M,0,none⟩),.int .i64 x] w fun r w'=>r=.returned (errV (if 0≤x∧x<N then 0 else 12))∧w'=w:=by
 refine (Qgi _ _).go ?_
 unfold Qfn nr
 refine Qac (fun h=>by cases h) (fun _=>Qac (fun h1=>?_) (fun h1=>pt_i (Qaf h.r rfl (Qac (fun h2=>?_) (fun h2=>?_)))))<;>simp only [b1s] at *
 ·rw [if_neg (by omega)];exact ⟨rfl,trivial⟩
 ·rw [if_neg (by omega)];exact ⟨rfl,trivial⟩
 ·rw [if_pos (by omega)];exact ⟨rfl,trivial⟩
def vE (lv:Nat→Bool) (N:Nat) (v:Int):Int:=if 0≤v∧v<N then (if lv v.toNat then 0 else 13) else 12
def eE (tl:Nat→List Nat) (N:Nat) (e:Int):Int:=if 0≤e∧e<N then (if Laid tl N e.toNat then 0 else 13) else 12
theorem Q2r {e:Int} (h:MX w.heap b N lv tl q B D ky E):Calls Pg 105 #[.pointer (some ⟨b.M,0,none⟩),.int .i64 e] w fun r w'=>r=.returned (errV (eE tl N e))∧w'=w:=by
 refine (Qwy _ _).go ?_
 unfold Qrj nr eE
 refine (Q3g h).mono ?_
 rintro r w3 ⟨rfl,rfl⟩
 by_cases h0:0≤e∧e<N
 ·rw [if_pos h0,if_pos h0]
  obtain ⟨e,rfl⟩:∃x:Nat,e=x:=⟨e.toNat,by omega⟩
  have he:e<N:=by omega
  rw [Int.toNat_natCast]
  refine ⟨_,rfl,Qaj (fun e=>absurd rfl e) (fun _=>pt_i (Qav h.r rfl ((Q86 h.t he).mono ?_)))⟩
  rintro r w4 ⟨rfl,rfl⟩
  refine ⟨_,rfl,Qac (fun k=>?_) (fun k=>?_)⟩
  ·rw [if_neg (by intro e;simp [e] at k)];exact ⟨rfl,rfl⟩
  ·rw [if_pos (by simpa using k)];exact ⟨rfl,rfl⟩
 ·rw [if_neg h0,if_neg h0]
  exact ⟨_,rfl,Qaj (fun _=>⟨rfl,rfl⟩) (fun e=>by cases e)⟩
def kE (lv:Nat→Bool) (tl:Nat→List Nat) (N:Nat) (v be:Int):Int:=if vE lv N v=0 then oE tl N v be else vE lv N v
theorem Q68 (h:MX w.heap b N lv tl q B D ky E) (hM:MP N tl) (he:Laid tl N e):Calls Pg 151 #[.pointer (some ⟨b.M,0,none⟩),.int .i64 e] w fun r w'=>r=.returned (.tuple #[.int .i64 (og tl N (2*e)),.int .i64 (og tl N (2*e+1))])∧Chg Qaa w w':=by
 refine (Qwx _ _).go ?_
 unfold Qri nr
 have heN:=hM.Qbj he
 have hsz:=h.sz
 rw [wrap64_in (x:=2*(e:Int)) (by omega) (by omega),wrap64_in (x:=2*(e:Int)+1) (by omega) (by omega),show (2:Int)*e=((2*e:Nat):Int) by omega,show ((2*e:Nat):Int)+1=((2*e+1:Nat):Int) by omega]
 refine pt_i (Qav h.r rfl ((Q0k h.t he).mono ?_))
 rintro r w4 ⟨rfl,c1⟩
 refine ⟨_,_,rfl,Qaj (fun e=>absurd rfl e) (fun _=>pt_i (Qav (h.nob c1).r rfl ((Q0k (h.nob c1).t (hM.odd he)).mono ?_)))⟩
 rintro r w5 ⟨rfl,c2⟩
 exact ⟨_,_,rfl,Qaj (fun e=>absurd rfl e) (fun _=>⟨rfl,c1.trans c2⟩)⟩
theorem Q5p {p:Option (Nat × Nat)} (he:e<N):cB (upd B e p) N=cB B N-(if (B e).isSome then 1 else 0)+(if p.isSome then 1 else 0):=by
 have h2:=Q89 (n:=N) (f:=fun i=>if (upd B e p i).isSome then (1:Int) else 0) (g:=fun i=>if (B i).isSome then 1 else 0) he fun i hi=>by rw [Qag _ _ hi]
 unfold cB;rw [h2,Qab]
theorem Zfu {p:Option (Nat × Nat)} (he:e<N):sB (upd B e p) ky N=sB B ky N-(if (B e).isSome then ky e/1048576 else 0)+(if p.isSome then ky e/1048576 else 0):=by
 have h2:=Q89 (n:=N) (f:=fun i=>if (upd B e p i).isSome then ky i/1048576 else 0) (g:=fun i=>if (B i).isSome then ky i/1048576 else 0) he fun i hi=>by rw [Qag _ _ hi]
 unfold sB;rw [h2,Qab]
theorem Ze0 (n:Int):Int.fdiv n (2 ^ (min (Int.toNat (20:Int)) (IntKind.bits .i64)))=n/1048576:=by
 rw [show (min (Int.toNat (20:Int)) (IntKind.bits .i64))=20 from rfl,show (2:Int) ^ 20=1048576 by decide,Int.fdiv_eq_ediv_of_nonneg _ (by omega)]
theorem Q4l {z:Int} (hz:-2251799813685248≤z∧z<2251799813685248):Calls Pg 166 #[.int .i64 z] w fun r w'=>r=.returned (.int .i32 (z/1048576))∧w'=w:=by
 refine (Qya _ _ (fun v' w'=>v'=.int .i32 (z/1048576)∧w'=w) ⟨by omega,?_⟩).mono rti
 rw [Ze0,wrap32_in (by omega) (by omega)];exact ⟨rfl,rfl⟩
theorem Q2q (h:MX w.heap b N lv tl q B D ky E) (hM:MP N tl) (he:Laid tl N e) (hB:B e=none) (hB1:∀i a c,B i=some (a,c)→a<N∧c<N) (hn:¬LK [] B (og tl N (2*e)) (og tl N (2*e+1))) :
  Calls Pg 142 #[.pointer (some ⟨b.M,0,none⟩),.int .i64 e] w fun r w'=>r=.returned (errV 0)∧XS w w' b N lv tl q (upd B e (some (og tl N (2*e),og tl N (2*e+1)))) D ky E:=by
 refine (Qww _ _).go ?_
 unfold Qrh nr
 have heN:=hM.Qbj he
 have hsz:=h.sz
 have hb:=h.Zkw
 have hkb:=h.kb e
 have hcV:=Zcw (lv:=lv) (N:=N)
 have hcB:=Zcy (B:=B) (N:=N)
 have ha:=Qbm he
 have hc:=Qbm (hM.odd he)
 generalize hx:og tl N (2*e)=x at *
 generalize hy:og tl N (2*e+1)=y at *
 refine (Q68 h hM he).mono ?_
 rintro r w4 ⟨rfl,c1⟩
 rw [hx,hy]
 refine ⟨_,_,rfl,pt_i ?_⟩
 clear hM
 have c2:Chg Qaa w w4.drew:=c1.drew
 have h2:=h.nob c2
 generalize w4.drew=w5 at *
 clear c1
 rw [Qad]
 refine Qaf (n:=sB B ky N) h2.r rfl (pt_i ?_)
 rw [Qad]
 refine Qai h2.r rfl (Qat heN ?_)
 rw [Nat.zero_add,Nat.mul_one]
 refine Qaf (n:=ky e) h2.k (Qxr heN) ((Q4l hkb).mono ?_)
 rintro r w13 ⟨rfl,rfl⟩
 refine ⟨_,rfl,by rw [h2.r.cell];rfl,pt_i ?_⟩
 rw [Qad,wrap64_in (x:=ky e/1048576) (by omega) (by omega),wrap64_in (x:=sB B ky N+ky e/1048576) (by omega) (by omega)]
 refine Qao h2.r (by simp [mrow]) rfl fun w6 c6 r6=>pt_i ?_
 rw [Qad,Qad]
 refine Qaf (n:=cV lv N-cB B N) r6 rfl (pt_i ?_)
 rw [Qad,Qad,wrap64_in (by omega) (by omega)]
 refine Qao r6 (by simp [mrow]) rfl fun w7 c7 r7=>pt_i (Qaf (n:=(N:Int)) r7 rfl (pt_i ?_))
 have c8:Chg (·=b.M) w13 w7.drew:=(c6.trans c7).drew
 have r8:Row w7.drew.heap b.M 133 _:=r7
 have h8:=h2.toMP0.row c8
 generalize w7.drew=w8 at *
 clear c6 r6 c7 r7
 simp only [Qad]
 refine Qav r8 rfl (pt_i (Qai r8 rfl (Qat heN ?_)))
 rw [Nat.zero_add,Nat.mul_one]
 refine Qaf (n:=ky e) h8.k (Qxr heN) (pt_i (Qav r8 rfl (pt_i (Qav r8 rfl ?_))))
 rw [wrap64_in (x:=(N:Int)+e) (by omega) (by omega),show (N:Int)+e=((N+e:Nat):Int) by omega]
 obtain ⟨z1,z2,z3,o1,o2,o3,o4,o5⟩:=h.o
 obtain ⟨val,f1,f2,f3⟩:=h8.f
 have hMT:b.M≠b.TN:=by omega
 have hal1:∀u,¬EW [] B N u (N+e):=fun u=>Qxy hB (by simp) hB1
 refine (Cut.Ze5 f1 (a:=N+e) (z:=ky e) (by omega) (by omega)).mono ?_
 rintro r w9 ⟨rfl,k1⟩
 have r9:=k1.c.row hMT r8
 have hw1:¬∃l,Cut.Way (EW [] B N) x (N+e) l:=by
  rw [Qd2]
  intro hr
  rcases Q6b hr with k | ⟨u,k⟩
  ·omega
  ·exact hal1 u k
 refine ⟨_,rfl,by rw [Qad,r9.cell];rfl,by rw [Qad,r9.cell];rfl,?_⟩
 refine (Cut.Q17 k1.a (a:=x) (b:=N+e) (by omega) (by omega) hw1).mono ?_
 rintro r w10 ⟨rfl,k2⟩
 have r10:=k2.c.row hMT r9
 refine ⟨_,rfl,by rw [Qad,r10.cell];rfl,(Cut.Q17 k2.a (a:=N+e) (b:=y) (by omega) (by omega) ?_).mono ?_⟩
 ·rw [Qd2]
  intro hr
  rcases Zfx (fun u=>⟨fun k=>hal1 u k.symm,hal1 u⟩) hr with k | k
  ·omega
  ·exact hn ((Q2j (by simp) hB1 ha.1 hc.1).1 k)
 rintro r w11 ⟨rfl,k3⟩
 refine ⟨_,rfl,Q5e fun w12 c12=>⟨rfl,?_⟩⟩
 have r11:=k3.c.row hMT r10
 have cc:=(k1.c.trans k2.c).trans k3.c
 refine XS.nob ⟨(c2.weak.trans (c8.mono fun _ _ e=>.inl e)).trans (cc.mono fun _ _ e=>.inr (.inr (.inr (.inr (.inr e))))),⟨cc.row (by omega) h8.v,cc.row (by omega) h8.k,h8.t.keep cc fun k s=>(by omega),h8.w.keep cc fun k s=>(by omega),⟨_,k3.a.congr fun u v=>(Zg1 hB).symm,fun u hu=>?_,fun i p hi=>?_⟩,h8.o,h8.kb⟩,?_⟩ c12
 ·rw [Qag _ _ (by omega)];exact f2 u hu
 ·by_cases hie:i=e
  ·subst hie;rw [Qab]
  ·rw [Qag _ _ hie] at hi;rw [Qag _ _ (by omega)];exact f3 i p hi
 ·rw [Q5p heN,Zfu heN,hB]
  have e1:cV lv N-(cB B N-(if (none:Option (Nat × Nat)).isSome then 1 else 0)+(if (some (x,y)).isSome then 1 else 0))=cV lv N-cB B N-1:=by simp;omega
  have e2:sB B ky N-(if (none:Option (Nat × Nat)).isSome then ky e/1048576 else 0)+(if (some (x,y)).isSome then ky e/1048576 else 0)=sB B ky N+ky e/1048576:=by simp
  rw [e1,e2];exact r11
theorem MP0.lkw {h:Array Obj} {x y:Nat} (k:MP0 h b N lv tl q B D ky) (hx:x<3*N) (hy:y<3*N):RT (EW q D (3*N)) x y↔LK q D x y:=
 Q2j k.w.nodup.2.1 (fun e a b he=>by have:=k.w.d e a b he;omega) hx hy
theorem Q9w (h:MX w.heap b N lv tl q B D ky E) (he:e<N) (hD:D e=none) (hn:¬LK q D (2*e) (2*e+1)) :
  Calls Pg 153 #[.pointer (some ⟨b.M,0,none⟩),.int .i64 e] w fun r w'=>r=.returned (errV 0)∧XS w w' b N lv tl q B (upd D e (some (2*e,2*e+1))) ky E:=by
 refine (Qyc _ _).go ?_
 unfold Qsn nr
 have hsz:=h.sz
 have hkb:=h.kb e
 have c2:Chg Qaa w w.drew:=(Chg.refl _ _).drew
 have h2:=h.nob c2
 generalize w.drew=w1 at *
 simp only [Qad,wrap64_in (x:=2*(e:Int)) (by omega) (by omega),wrap64_in (x:=2*(e:Int)+1) (by omega) (by omega)]
 rw [show (2:Int)*e=((2*e:Nat):Int) by omega,show ((2*e:Nat):Int)+1=((2*e+1:Nat):Int) by omega]
 refine pt_i ?_
 rw [Qad]
 refine Qav h2.r rfl (pt_i ?_)
 rw [Qad]
 refine Qai h2.r rfl (Qat he ?_)
 rw [Nat.zero_add,Nat.mul_one]
 refine Qaf (n:=ky e) h2.k (Qxr he) ((Zmm h2.w he (a:=2*e) (b:=2*e+1) (by omega) (by omega) (by omega) ?_ hD).mono ?_)
 ·rw [h.toMP0.lkw (by omega) (by omega)];exact hn
 rintro r w2 ⟨rfl,hw⟩
 rw [Qi8] at hw
 obtain ⟨k1,k2⟩:=h2.web hw
 exact ⟨_,rfl,rfl,c2.weak.trans k1,k2⟩
end
section
variable {w₀ w w':World} {b:Bk} {N e g v x y z a c:Nat} {E E':Int} {lv lv':Nat→Bool} {tl tl':Nat→List Nat} {q q':List (List Nat)} {A C:List Nat} {B B' D D':Nat→Option (Nat × Nat)} {ky ky':Nat→Int} {f:Nat→Nat}
theorem Qpi:SF (A::q) x y↔(x∈A∧y∈A)∨SF q x y:=by simp [SF]
theorem Zba (h:∀u v,SF q u v↔SF q' u v):LK q D x y↔LK q' D x y:=⟨LK.mono (fun u v=>(h u v).1) fun _ _ h=>h,LK.mono (fun u v=>(h u v).2) fun _ _ h=>h⟩
theorem Zad (nd:q.flatten.Nodup) (hA:A∈q) (hC:C∈q) (h1:x∈A) (h2:x∈C):A=C:=by
 induction q with
 | nil=>cases hA
 | cons X q ih=>
  rw [List.flatten_cons,List.nodup_append] at nd
  rcases List.mem_cons.1 hA with rfl | jA<;>rcases List.mem_cons.1 hC with rfl | jC
  ·rfl
  ·exact absurd rfl (nd.2.2 x h1 x (List.mem_flatten.2 ⟨C,jC,h2⟩))
  ·exact absurd rfl (nd.2.2 x h2 x (List.mem_flatten.2 ⟨A,jA,h1⟩))
  ·exact ih nd.2.1 jA jC
theorem Qqo (nd:q.flatten.Nodup) (h:SF q x y) (k:SF q y z):SF q x z:=by
 obtain ⟨A,h1,h2,h3⟩:=h
 obtain ⟨C,k1,k2,k3⟩:=k
 obtain rfl:=Zad nd h1 k1 h3 k2
 exact ⟨A,h1,h2,k3⟩
theorem Zmz (nd:q.flatten.Nodup) (hx:∃A∈q,x∈A) (hD:∀i,D i=none) (h:LK q D x y):SF q x y:=by
 have hx:SF q x x:=by obtain ⟨A,hA,k⟩:=hx;exact ⟨A,hA,k,k⟩
 induction h with
 | refl=>exact hx
 | step _ k ih=>
  rcases k with k | ⟨i,k⟩
  ·exact Qqo nd ih k
  ·rw [hD] at k;rcases k with k | k<;>cases k
theorem Qe8 {p s:List Nat}:z∈p++x::s↔z∈x::(s++p):=by
 rw [show x::(s++p)=(x::s)++p by simp];simp only [List.mem_append];exact or_comm
theorem Q7n {p s:List Nat} (h:FQ f ((p++x::s)::q)):FQ f ((x::(s++p))::q):=h.rot
structure Mg (q q':List (List Nat)) (x y:Nat):Prop where
 f:∀f,FQ f q→FQ (fun z=>sw x y (f z)) q'
 l:∀D a b,LK q' D a b↔LK q D a b∨(LK q D a x∧LK q D y b)∨(LK q D a y∧LK q D x b)
theorem Qqv (h:MX w.heap b N lv tl q B D ky E) (hx:x<3*N) (hy:y<3*N) (hn:¬LK q D x y) :
  Calls Pg 150 #[.pointer (some ⟨b.W,0,none⟩),.int .i64 x,.int .i64 y] w fun r w'=>r=.returned (errV 0)∧∃q',XS w w' b N lv tl q' B D ky E∧Mg q q' x y:=by
 have hbd:=fun e a c he=>(by have:=h.w.d e a c he;omega:a<3*N∧c<3*N)
 rcases h.w.a.a.find2 hx hy with ⟨A,q0,hp,h1,h2⟩ | ⟨A,C,q0,hp,h1,h2,_⟩
 ·exact absurd (LK.sf ⟨A,hp.mem_iff.2 (by simp),h1,h2⟩) hn
 obtain ⟨pa,oa,rfl⟩:=List.append_of_mem h1
 obtain ⟨pb,ob,rfl⟩:=List.append_of_mem h2
 have hw:=h.w.perm hp
 refine (Zhl hw fun k=>hn ((Q6l hp).2 ((Q2j hw.nodup.2.1 hbd hx hy).1 k))).mono ?_
 rintro r w' ⟨rfl,ws⟩
 have nd:(x::oa++pa++(y::ob++pb)++q0.flatten).Nodup:=by have:=ws.a.nodup.1;simpa [List.flatten_cons] using this
 refine ⟨rfl,_,h.web ws,fun f hf=>?_,fun D a b=>?_⟩
 ·have h3:=Q7n (hf.perm hp)
  have h4:=Q7n (h3.perm (List.Perm.swap _ _ _))
  exact (FQ.join (A:=x::oa++pa) (B:=y::ob++pb) rfl rfl nd).2 (h4.perm (List.Perm.swap _ _ _))
 ·rw [Zbc (x:=x) (y:=y) (by simp) (by simp)]
  have e0:∀u v,LK ((x::oa++pa)::(y::ob++pb)::q0) D u v↔LK q D u v:=fun u v=>by
   rw [Q6l hp]
   refine Zba fun s t=>?_
   rw [Qpi,Qpi,Qpi,Qpi,Qe8,Qe8,Qe8,Qe8];rfl
  simp only [e0]
end
section
variable {w₀ w w':World} {T TD TL TM N d e u v b p:Nat} {l:List Nat} {tl tl':Nat→List Nat} {o nx pv ls ms o' nx' pv' ls' ms':Nat→Int}
end
section
variable {w₀ w w':World} {b:Bk} {N e g v x y z a c u:Nat} {E E':Int} {lv lv':Nat→Bool} {tl tl':Nat→List Nat} {q q':List (List Nat)} {A C:List Nat} {B B' D D':Nat→Option (Nat × Nat)} {ky ky':Nat→Int} {f:Nat→Nat} {lim:Nat→Prop}
end
end Core
end Go.Proofs.YtfeekmmfdkfgmaaGreatDoor
