/-
Edges laid (layer 16's program): what two corners look into, faces divided and bound.
Conditions: those that each theorem states.
-/
import Derived.Test.YtpmicakdjhoafaaGreatDoorGCoreB
set_option linter.unusedVariables false
set_option linter.unusedSimpArgs false
namespace Go.Proofs.YtpmicakdjhoafaaGreatDoor
open Go Go.RowKit
namespace Core
open Go.Proofs.YtpmicakdjhoafaaGreatDoor.Seq Go.Proofs.YtpmicakdjhoafaaGreatDoor.Cut Go.Proofs.YtpmicakdjhoafaaGreatDoor.Web
section
variable {P:Program} {xs ys:Array Value} {X Y:Nat→Int} {k:IntKind} {w:World}
theorem run_eqF (d : Nat) : ∀ (fs : List Field), (∀ f ∈ fs, f.name ≠ "_" ∧ P.underlying f.type = some (.int k) ∧ xs[f.offset]? = some (.int k (X f.offset)) ∧ ys[f.offset]? = some (.int k (Y f.offset))) →
  (Op.eqFields (d+1) xs ys fs).run P w=.ok (fs.all fun f=>X f.offset==Y f.offset) w
 | [],_=>by simp [Op.eqFields,go_sem]
 | f::fs,h=>by
  obtain ⟨h1,h2,h3,h4⟩:=h f (by simp)
  have ih:=run_eqF d fs fun g hg=>h g (List.mem_cons_of_mem _ hg)
  unfold Op.eqFields
  rw [if_pos h1,Qae (Qm3 h2 h3),Qae (Qm3 h2 h4),Qae (run_equalIn_int w d f.type k k _ _ h2)]
  cases hb:(X f.offset==Y f.offset)
  ·simp [go_sem,hb]
  ·simp [go_sem,hb,ih]
def intF (P:Program) (k:IntKind) (t:TypeId):Bool:=match P.underlying t with | some (.int k')=>sameK k k' | _=>false
theorem intF_eq {t:TypeId} (h:intF P k t=true):P.underlying t=some (.int k):=by
 unfold intF at h
 split at h
 ·rename_i h1;rw [h1,←Qv4 h]
 ·cases h
theorem Qv5 {t : TypeId} {offs : List Nat} {A B : Operand} (ht : P.underlying t = some (.struct (P.fieldsOf t))) (hp : P.stoodInHeld t = false) (hg : P.eqGuardType P.depth t = false) (ha : ((P.fieldsOf t).toList.all fun f => decide (f.name ≠ "_") && intF P k f.type) = true) (ho : (P.fieldsOf t).toList.map (·.offset) = offs)
  (hx:∀o∈offs,xs[o]?=some (.int k (X o))∧ys[o]?=some (.int k (Y o))) :
  (do eqGuard .eql t A B (.agg xs) (.agg ys);binOp .eql t (.agg xs) (.agg ys):Sem Value).run P w=.ok (.bool (offs.all fun o=>X o==Y o)) w∧
  (do eqGuard .neq t A B (.agg xs) (.agg ys);binOp .neq t (.agg xs) (.agg ys):Sem Value).run P w=.ok (.bool (!(offs.all fun o=>X o==Y o))) w:=by
 have e0:(Op.equalIn (9998+1+1) t (.agg xs) (.agg ys)).run P w=.ok (offs.all fun o=>X o==Y o) w:=by
  rw [run_equalIn_struct w _ t xs ys ht hp,run_eqF (X:=X) (Y:=Y) (k:=k)]
  ·rw [←ho,List.all_map];rfl
  ·intro f hf
   have h1:=List.all_eq_true.1 ha f hf
   rw [Bool.and_eq_true,decide_eq_true_iff] at h1
   have h2:=hx f.offset (by rw [←ho];exact List.mem_map.2 ⟨f,hf,rfl⟩)
   exact ⟨h1.1,intF_eq h1.2,h2.1,h2.2⟩
 constructor
 ·rw [Qae (run_eqGuard_agg w .eql t A B _ _ hg),run_eql_struct,show 10000=9998+1+1 from rfl,e0];rfl
 ·rw [Qae (run_eqGuard_agg w .neq t A B _ _ hg),run_neq_struct,show 10000=9998+1+1 from rfl,e0];rfl
end
section
variable {w₀ w w':World} {b:Bk} {N e g v x y z a c u s:Nat} {be ce:Int} {E E':Int} {lv lv':Nat→Bool} {tl tl':Nat→List Nat} {q q':List (List Nat)} {A C:List Nat} {B B' D D':Nat→Option (Nat × Nat)} {ky ky':Nat→Int} {f:Nat→Nat} {lim:Nat→Prop}
def itm' (tl:Nat→List Nat) (N v:Nat) (be:Int):Nat:=if be=-1 then 2*N+v else sg tl N be.toNat
theorem Cn.lk (h:Cn tl v be):(be=-1∧tl v=[]∧itm' tl N v be=2*N+v)∨∃s,s∈tl v∧be=(s:Nat)∧itm' tl N v be=sg tl N s:=by
 rcases h with ⟨rfl,h⟩ | ⟨s,h,rfl⟩
 ·exact .inl ⟨rfl,h,if_pos rfl⟩
 ·exact .inr ⟨s,h,rfl,if_neg (by omega)⟩
theorem kE_0 {v:Int} (h:kE lv tl N v be=0):∃x:Nat,v=x∧x<N∧lv x=true∧Cn tl x be:=by
 unfold kE at h
 split at h
 ·rename_i h1
  unfold vE at h1
  split at h1
  ·rename_i h2
   refine ⟨v.toNat,by omega,by omega,?_,Cn.of (N:=N) (by omega) (by rw [show ((v.toNat:Nat):Int)=v by omega];exact h)⟩
   split at h1
   ·rename_i h3;exact h3
   ·cases h1
  ·cases h1
 ·rename_i h1;exact absurd h h1
theorem x_item (h:MX w.heap b N lv tl q B D ky E) (hv:v<N) (hc:Cn tl v be):Calls Pg Qhd #[.pointer (some ⟨b.M,0,none⟩),.agg #[.int .i64 v,.int .i64 be]] w fun r w'=>r=.returned (.tuple #[.int .i64 (itm' tl N v be:Nat),errV 0])∧Chg Qac w w':=by
 refine (Qrp _ _ _ _ (fun v' w'=>v'=.tuple #[.int .i64 (itm' tl N v be:Nat),errV 0]∧Chg Qac w w') ?_).mono (by rintro e w' ⟨v,rfl,rfl,k⟩;exact ⟨rfl,k⟩)
 unfold Qn2
 have hsz:=h.sz
 refine Qa2 fun A w1 _ c1 ra=>?_
 have c2:Chg Qac w w1.drew:=c1.drew
 have h2:=h.nob c2
 have ra2:Row w1.drew.heap _ _ _:=ra
 rw [Qaf]
 refine Qaj (n:=be) ra rfl ?_
 generalize w1.drew=w2 at *
 rcases hc.lk (N:=N) with ⟨rfl,h1,h3⟩ | ⟨s,h1,rfl,h3⟩<;>rw [h3]
 ·refine Qag (fun _=>pt_i (Qaj h2.r rfl (Qaj (n:=(v:Int)) ra2 rfl ⟨?_,c2⟩))) (fun k=>by simp at k)
  rw [wrap64_in (x:=2*(N:Int)) (by omega) (by omega),wrap64_in (by omega) (by omega),show 2*(N:Int)+v=((2*N+v:Nat):Int) by omega];rfl
 ·refine Qag (fun k=>?_) (fun _=>pt_i ?_)
  ·simp only [b1s] at k;omega
  rw [Qaf]
  refine Qa7 h2.r rfl (Qaj (n:=(s:Int)) ra2 rfl ((t_Next h2.t (Qbq.2 ⟨v,hv,h1⟩)).mono ?_))
  rintro r w3 ⟨rfl,c3⟩
  exact ⟨_,_,rfl,rfl,c2.trans c3⟩
theorem c_tSame (h:MX w.heap b N lv tl q B D ky E) (cb:CB lim N tl q B D) (hx:x<N) (hy:y<N) :
  Calls Pg Qcl #[.pointer (some ⟨b.TF,0,none⟩),.int .i64 x,.int .i64 y] w fun r w'=>∃z,r=.returned (.tuple #[.bool z,errV 0])∧(z=true↔LK [] B x y)∧XS w w' b N lv tl q B D ky E:=by
 obtain ⟨val,hae,f1,f2⟩:=h.f
 refine (Cut.c_Same hae (by omega) (by omega)).mono ?_
 rintro r w3 ⟨z,rfl,hz,ce⟩
 refine ⟨z,rfl,by rw [hz,Qet,Qu5 (by simp) cb.bd hx hy],?_⟩
 have cc:=ce.c
 obtain ⟨z1,z2,z3,o1,o2,o3,o4,o5⟩:=h.o
 exact ⟨cc.mono fun _ _ e=>.inr (.inr (.inr (.inr (.inr e)))),⟨cc.row (by omega) h.v,cc.row (by omega) h.k,h.t.keep cc fun k s=>(by omega),h.w.keep cc fun k s=>(by omega),⟨val,ce.a,f1,f2⟩,h.o,h.kb⟩,cc.row (by omega) h.r⟩
theorem Qvi (h:MP N tl) (hv:v<N) (hc:Cn tl v be):itm' tl N v be<3*N:=by
 rcases hc.lk (N:=N) with ⟨_,_,h3⟩ | ⟨s,h1,_,h3⟩<;>rw [h3]
 ·omega
 ·have:=h.lt _ (h.Qeo (Qbq.2 ⟨v,hv,h1⟩)).1;omega
theorem MX.low (h:MX w.heap b N lv tl q B D ky E) (k:Nat) (hk:b.ch k):k<w.heap.size:=by
 have h1:=h.t.lt
 have h2:=h.w.e.lt
 have h3:=h.w.a.a.lt.2
 obtain ⟨_,f,_⟩:=h.w.f
 have h4:=f.lt.2
 obtain ⟨_,g,_⟩:=h.f
 have h5:=g.lt.2
 have h6:=h.r.lt
 have h7:=h.v.lt
 have h8:=h.k.lt
 unfold Bk.ch at hk
 omega
def k2E (lv:Nat→Bool) (tl:Nat→List Nat) (N:Nat) (u be v ce:Int):Int:=if kE lv tl N u be=0 then kE lv tl N v ce else kE lv tl N u be
theorem x_looks {u v:Int} (h:MX w.heap b N lv tl q B D ky E) (cb:CB lim N tl q B D) :
  Calls Pg Qgu #[.pointer (some ⟨b.M,0,none⟩),.agg #[.int .i64 u,.int .i64 be],.agg #[.int .i64 v,.int .i64 ce]] w fun r w'=>∃X Y is,r=.returned (.tuple #[.int .i64 X,.int .i64 Y,.bool is,errV (k2E lv tl N u be v ce)])∧XS w w' b N lv tl q B D ky E∧
   (k2E lv tl N u be v ce=0→X=(itm' tl N u.toNat be:Nat)∧Y=(itm' tl N v.toNat ce:Nat)∧(is=true↔SF q (itm' tl N u.toNat be) (itm' tl N v.toNat ce)∨¬LK [] B u.toNat v.toNat))∧(k2E lv tl N u be v ce≠0→is=false):=by
 generalize hk:k2E lv tl N u be v ce=er
 refine (Qqv _ _ _ _ _ _ (fun v' w'=>∃X Y is,v'=.tuple #[.int .i64 X,.int .i64 Y,.bool is,errV er]∧XS w w' b N lv tl q B D ky E∧
   (er=0→X=(itm' tl N u.toNat be:Nat)∧Y=(itm' tl N v.toNat ce:Nat)∧(is=true↔SF q (itm' tl N u.toNat be) (itm' tl N v.toNat ce)∨¬LK [] B u.toNat v.toNat))∧(er≠0→is=false)) ?_).mono (by rintro e w' ⟨v,rfl,X,Y,is,rfl,k⟩;exact ⟨X,Y,is,rfl,k⟩)
 unfold Qmz
 refine Qa2 fun A1 w1 hA1 c1 ra=>Qa2 fun A2 w2 hA2 c2 rb=>?_
 replace hA2:=Nat.le_trans c1.size hA2
 have c3:Chg Qac w w2.drew:=(c1.trans c2).drew
 have ra3:Row w2.drew.heap _ _ _:=c2.row (fun h=>h) ra
 have rb3:Row w2.drew.heap _ _ _:=rb
 have h3:=h.nob c3
 generalize w2.drew=w3 at *
 clear c1 c2 ra rb
 simp only [Qaf]
 refine Qaj (n:=u) ra3 rfl (Qaj (n:=be) ra3 rfl (Qaj (n:=v) rb3 rfl (Qaj (n:=ce) rb3 rfl ((x_Check h3).mono ?_))))
 rintro r w4 ⟨rfl,c4⟩
 have ra4:=c4.row (fun h=>h) ra3
 have rb4:=c4.row (fun h=>h) rb3
 refine ⟨_,rfl,by rw [rb4.cell];rfl,by rw [rb4.cell];rfl,(x_Check (h3.nob c4)).mono ?_⟩
 rintro r w5 ⟨rfl,c5⟩
 refine ⟨_,rfl,Qsd fun w6 c6=>?_⟩
 have c7:=((c3.trans c4).trans c5).trans c6
 have h7:=h.nob c7
 have ra7:=(c5.trans c6).row (fun h=>h) ra4
 have rb7:=(c5.trans c6).row (fun h=>h) rb4
 clear c4 c5 c6 ra3 rb3 ra4 rb4 h3 c3
 rw [show (if kE lv tl N u be=0 then kE lv tl N v ce else kE lv tl N u be)=er from hk]
 refine Qan (fun k=>⟨_,_,_,rfl,h.of c7,fun e=>absurd e k,fun _=>rfl⟩) (fun k=>?_)
 subst k
 have hk1:kE lv tl N u be=0:=Classical.byContradiction fun k=>by unfold k2E at hk;rw [if_neg k] at hk;exact k hk
 have hk2:kE lv tl N v ce=0:=by unfold k2E at hk;rwa [if_pos hk1] at hk
 obtain ⟨u,rfl,hu,_,hcu⟩:=kE_0 hk1
 obtain ⟨v,rfl,hv,_,hcv⟩:=kE_0 hk2
 rw [Int.toNat_natCast,Int.toNat_natCast]
 refine Qaj (n:=(u:Int)) ra7 rfl (Qaj (n:=be) ra7 rfl ((x_item h7 hu hcu).mono ?_))
 rintro r w8 ⟨rfl,c8⟩
 have ra8:=c8.row (fun h=>h) ra7
 have rb8:=c8.row (fun h=>h) rb7
 refine ⟨_,_,rfl,Qaj (n:=(v:Int)) rb8 rfl (Qaj (n:=ce) rb8 rfl ((x_item (h7.nob c8) hv hcv).mono ?_))⟩
 rintro r w9 ⟨rfl,c9⟩
 refine ⟨_,_,rfl,Qsd fun w10 c10=>Qan (fun k=>absurd rfl k) fun _=>pt_i ?_⟩
 have c11:=((c7.trans c8).trans c9).trans c10
 have h11:=h.nob c11
 have ra11:=(c9.trans c10).row (fun h=>h) ra8
 have rb11:=(c9.trans c10).row (fun h=>h) rb8
 rw [Qaf]
 refine Qa7 h11.r rfl ((Qvm h11 (Qvi cb.mp hu hcu) (Qvi cb.mp hv hcv)).mono ?_)
 rintro r w12 ⟨z,rfl,hz,xs⟩
 have hlow:=h.low
 have hcA:∀{A},w.heap.size≤A→¬b.ch A:=fun k j=>Nat.lt_irrefl _ (Nat.lt_of_lt_of_le (hlow _ j) k)
 have c12:=(Chg.refl Qac w12).drew
 have xs12:=((h.of c11).trans xs).nob c12
 have ra12:=c12.row (fun h=>h) (xs.c.row (hcA hA1) ra11)
 have rb12:=c12.row (fun h=>h) (xs.c.row (hcA hA2) rb11)
 refine ⟨_,_,rfl,pt_i ?_⟩
 generalize w12.drew=w13 at *
 rw [Qaf]
 refine Qa7 xs12.a.r rfl (Qaj (n:=(u:Int)) ra12 rfl (Qaj (n:=(v:Int)) rb12 rfl ((c_tSame xs12.a cb hu hv).mono ?_)))
 rintro r w14 ⟨z2,rfl,hz2,xs2⟩
 have xs14:=xs12.trans xs2
 refine ⟨_,_,rfl,Qag (fun k=>Qsd fun w15 c15=>⟨_,_,_,rfl,xs14.nob c15,fun _=>⟨rfl,rfl,⟨fun _=>.inl (hz.1 k),fun _=>rfl⟩⟩,fun k=>absurd rfl k⟩) (fun k=>Qsd fun w15 c15=>⟨_,_,_,rfl,xs14.nob c15,fun _=>⟨rfl,rfl,?_⟩,fun k=>absurd rfl k⟩)⟩
 have hns:¬SF q (itm' tl N u be) (itm' tl N v ce):=fun j=>by rw [hz.2 j] at k;cases k
 rw [←hz2]
 cases z2<;>simp [hns]
theorem CB.alone (h:CB lim N tl q B D) (hx:x∉dl tl N):∀{z},LK q D z x→z=x:=by
 have key:∀{u v},LK q D u v→u=x→v=x:=by
  intro u v k hu
  induction k with
  | refl=>exact hu
  | step _ k ih=>
   rename_i p r _
   have hp:p=x:=ih
   subst hp
   rcases k with ⟨A,hA,h1,h2⟩ | ⟨i,k⟩
   ·obtain ⟨y,hy⟩:=cy_ex h1
    have e1:=h.fq A hA _ y hy
    rw [Qd3 hx] at e1
    subst e1
    have hAn:A.Nodup:=by
     have:=(List.perm_cons_erase hA).flatten.nodup_iff.1 h.nd
     rw [List.flatten_cons] at this
     exact (List.nodup_append.1 this).1
    have:=Qzq hAn h1 (Qz9 hAn hy)
    rw [this] at h2
    exact List.mem_singleton.1 h2
   ·exfalso
    rcases k with k | k
    ·obtain ⟨k1,k2⟩:=h.bD i _ k;cases k2;exact hx k1
    ·obtain ⟨k1,k2⟩:=h.bD i _ k;cases k2;exact hx (h.mp.odd k1)
 exact fun {z} k=>key k.symm rfl
theorem x_own {X:Nat} (h:MX w.heap b N lv tl q B D ky E):Calls Pg Qga #[.pointer (some ⟨b.M,0,none⟩),.int .i64 X] w fun r w'=>r=.returned (.bool (decide (2*N≤X)))∧w'=w:=by
 refine (Qso _ _ _ (fun v' w'=>v'=.bool (decide (2*N≤X))∧w'=w) ?_).mono (by rintro e w' ⟨v,rfl,rfl,k⟩;exact ⟨rfl,k⟩)
 unfold Qoo
 have hsz:=h.sz
 refine pt_i (Qaj h.r rfl ⟨?_,rfl⟩)
 rw [wrap64_in (by omega) (by omega)]
 congr 1
 exact decide_eq_decide.2 (by omega)
theorem x_divide (h:MX w.heap b N lv tl' q B D ky E) (cb:CB lim N tl q B D) (he:¬Laid tl N e) (heN:e<N) (hu:u<N) (hv:v<N) (hcu:Cn tl u be) (hcv:Cn tl v ce) (hs:SF q (itm' tl N u be) (itm' tl N v ce)) :
  Calls Pg Qil #[.pointer (some ⟨b.M,0,none⟩),.int .i64 (itm' tl N u be:Nat),.int .i64 (itm' tl N v ce:Nat),.int .i64 e,.bool (decide (u=v∧be=ce))] w fun r w'=>r=.returned (errV 0)∧∃q',XS w w' b N lv tl' q' B D ky E∧FQ (ph (lay tl e u be v ce) N) q'∧¬LK q' D (2*e) (2*e+1):=by
 refine (Qpv _ _ _ _ _ _ (fun v' w'=>v'=errV 0∧∃q',XS w w' b N lv tl' q' B D ky E∧FQ (ph (lay tl e u be v ce) N) q'∧¬LK q' D (2*e) (2*e+1)) ?_).mono (by rintro e w' ⟨v,rfl,rfl,k⟩;exact ⟨rfl,k⟩)
 unfold Qlz
 have hM:=cb.mp
 have hsz:=h.sz
 have hto:=hM.Qi6 he
 have n1:∀{z},LK q D z (2*e)→z=2*e:=cb.alone he
 have n2:∀{z},LK q D z (2*e+1)→z=2*e+1:=cb.alone hto
 have out:∀{z},2*N+z∉dl tl N:=fun k=>by have:=hM.lt _ k;omega
 simp only [wrap64_in (x:=2*(e:Int)) (by omega) (by omega),wrap64_in (x:=2*(e:Int)+1) (by omega) (by omega)]
 rw [show (2:Int)*e=((2*e:Nat):Int) by omega,show ((2*e:Nat):Int)+1=((2*e+1:Nat):Int) by omega]
 refine (x_own h).mono ?_
 rintro r w4 ⟨rfl,rfl⟩
 refine ⟨_,rfl,Qag (fun k=>?_) (fun k=>?_)⟩
 ·have k:=of_decide_eq_true k
  rcases hcu.lk (N:=N) with ⟨rfl,h1,h3⟩ | ⟨s,h1,rfl,h3⟩
  ·rw [h3] at hs
   have h4:=cb.alone (out (z:=u)) (LK.sf hs.symm)
   rcases hcv.lk (N:=N) with ⟨rfl,h5,h6⟩ | ⟨s,h5,rfl,h6⟩
   ·obtain rfl:v=u:=by omega
    exact ⟨rfl,q,h.start,cb.fq.congr fun _ _ z _=>hM.phL_own he heN hv h1 rfl z,fun j=>by have:=n2 j;omega⟩
   ·have:=hM.lt _ (hM.Qeo (Qbq.2 ⟨v,hv,h5⟩)).1
    omega
  ·have:=hM.lt _ (hM.Qeo (Qbq.2 ⟨u,hu,h1⟩)).1
   omega
 have k:=of_decide_eq_false k
 rcases hcu.lk (N:=N) with ⟨rfl,h1,h3⟩ | ⟨s,h1,rfl,h3⟩
 ·omega
 rcases hcv.lk (N:=N) with ⟨rfl,h5,h6⟩ | ⟨t,h5,rfl,h6⟩
 ·rw [h6] at hs
  have:=cb.alone (out (z:=v)) (LK.sf hs)
  omega
 rw [h3,h6] at *
 obtain ⟨x1,x2,x3⟩:=hM.Qsy he hu h1
 obtain ⟨y1,y2,y3⟩:=hM.Qsy he hv h5
 have hx:=hM.lt _ x1
 have hy:=hM.lt _ y1
 refine Qag (fun j=>pt_i ?_) (fun j=>pt_i ?_)
 ·obtain ⟨rfl,j⟩:=of_decide_eq_true j
  obtain rfl:s=t:=by omega
  rw [Qaf]
  refine Qa7 h.r rfl ((Qow (x:=sg tl N s) (y:=2*e+1) h (by omega) (by omega) fun k=>x3 (n2 k)).mono ?_)
  rintro r w5 ⟨rfl,q',xs,mg⟩
  refine ⟨_,rfl,rfl,q',xs,(mg.f _ cb.fq).congr fun _ _ z _=>hM.phL_same he heN hu h1 rfl z,fun j=>?_⟩
  rcases (mg.l _ _ _).1 j with j | ⟨j,_⟩ | ⟨j,_⟩
  ·have:=n2 j;omega
  ·exact x2 (n1 j.symm)
  ·have:=n2 j;omega
 have hst:s≠t:=by
  rintro rfl
  exact of_decide_eq_false j ⟨hM.uniq hu hv h1 h5,rfl⟩
 have hxy:sg tl N s≠sg tl N t:=fun k=>hst (hM.Qtl (Qbq.2 ⟨u,hu,h1⟩) (Qbq.2 ⟨v,hv,h5⟩) k)
 have c5:Chg Qac w4 w4.drew:=(Chg.refl _ _).drew
 have h5':=h.nob c5
 have hof:=h.of c5
 generalize w4.drew=w5 at *
 simp only [Qaf]
 refine Qa7 h5'.r rfl (pt_i ?_)
 rw [Qaf]
 refine Qa7 h5'.r rfl (pt_i ?_)
 rw [Qaf]
 refine Qa7 h5'.r rfl ((f_Split (x:=sg tl N s) (y:=sg tl N t) h5' hs hxy).mono ?_)
 rintro r w6 ⟨rfl,q1,xs1,sp,hno⟩
 have less:∀{u v},LK q1 D u v→LK q D u v:=fun j=>(sp.l _ _ _).2 (.inl j)
 refine ⟨_,rfl,by rw [xs1.a.r.cell];rfl,by rw [xs1.a.r.cell];rfl,(Qow (x:=sg tl N s) (y:=2*e+1) xs1.a (by omega) (by omega) fun k=>x3 (n2 (less k))).mono ?_⟩
 rintro r w7 ⟨rfl,q2,xs2,mg2⟩
 refine ⟨_,rfl,by rw [xs2.a.r.cell];rfl,(Qow (x:=sg tl N t) (y:=2*e) xs2.a (by omega) (by omega) fun k=>?_).mono ?_⟩
 ·rcases (mg2.l _ _ _).1 k with j | ⟨_,j⟩ | ⟨j,_⟩
  ·exact y2 (n1 (less j))
  ·have:=n1 (less j);omega
  ·exact y3 (n2 (less j))
 rintro r w8 ⟨rfl,q3,xs3,mg3⟩
 refine ⟨_,rfl,Qxl fun w9 c9=>⟨rfl,q3,(((hof.trans xs1).trans xs2).trans xs3).nob c9,(mg3.f _ (mg2.f _ (sp.f _ cb.fq))).congr fun _ _ z _=>(hM.phL he heN hu hv h1 rfl h5 rfl hst z).1,fun j=>?_⟩⟩
 have f2:∀{z},LK q2 D z (2*e)→z=2*e:=fun j=>by
  rcases (mg2.l _ _ _).1 j with j | ⟨_,j⟩ | ⟨_,j⟩
  ·exact n1 (less j)
  ·have:=n1 (less j);omega
  ·exact absurd (n1 (less j)) x2
 have g2:∀{z},LK q2 D z (2*e+1)→z=2*e+1∨LK q1 D z (sg tl N s):=fun j=>by
  rcases (mg2.l _ _ _).1 j with j | ⟨j,_⟩ | ⟨j,_⟩
  ·exact .inl (n2 (less j))
  ·exact .inr j
  ·exact .inl (n2 (less j))
 rcases (mg3.l _ _ _).1 j with j | ⟨j,_⟩ | ⟨_,j⟩
 ·have:=f2 j.symm;omega
 ·exact y2 (f2 j.symm |> fun k=>k)
 ·rcases g2 j with j | j
  ·exact y3 j
  ·exact hno j.symm
theorem x_bind (h:MX w.heap b N lv tl' q B D ky E) (cb:CB lim N tl q B D) (he:¬Laid tl N e) (heN:e<N) (hu:u<N) (hv:v<N) (hcu:Cn tl u be) (hcv:Cn tl v ce) (huv:u≠v) (hs:¬LK q D (itm' tl N u be) (itm' tl N v ce)) :
  Calls Pg Qjy #[.pointer (some ⟨b.M,0,none⟩),.int .i64 (itm' tl N u be:Nat),.int .i64 (itm' tl N v ce:Nat),.int .i64 e] w fun r w'=>r=.returned (errV 0)∧∃q',XS w w' b N lv tl' q' B D ky E∧FQ (ph (lay tl e u be v ce) N) q':=by
 refine (Qrt _ _ _ _ _ (fun v' w'=>v'=errV 0∧∃q',XS w w' b N lv tl' q' B D ky E∧FQ (ph (lay tl e u be v ce) N) q') ?_).mono (by rintro e w' ⟨v,rfl,rfl,k⟩;exact ⟨rfl,k⟩)
 unfold Qn6
 have hM:=cb.mp
 have hsz:=h.sz
 have hto:=hM.Qi6 he
 have n1:∀{z},LK q D z (2*e)→z=2*e:=cb.alone he
 have n2:∀{z},LK q D z (2*e+1)→z=2*e+1:=cb.alone hto
 have hd3:2*e<3*N:=by omega
 have ht3:2*e+1<3*N:=by omega
 have hX3:=Qvi hM hu hcu
 have hY3:=Qvi hM hv hcv
 simp only [wrap64_in (x:=2*(e:Int)) (by omega) (by omega),wrap64_in (x:=2*(e:Int)+1) (by omega) (by omega)]
 rw [show (2:Int)*e=((2*e:Nat):Int) by omega,show ((2*e:Nat):Int)+1=((2*e+1:Nat):Int) by omega]
 refine ⟨fun vs w'=>∃(X:Nat) (q1:List (List Nat)),vs=[.int .i64 X]∧XS w w' b N lv tl' q1 B D ky E∧((2*N≤itm' tl N u be∧X=2*e∧q1=q)∨(¬2*N≤itm' tl N u be∧X=itm' tl N u be∧Mg q q1 (itm' tl N u be) (2*e))),(x_own h).mono ?_,?_⟩
 ·rintro r w4 ⟨rfl,rfl⟩
  refine ⟨_,rfl,Qag (fun k=>⟨_,q,rfl,h.start,.inl ⟨of_decide_eq_true k,rfl,rfl⟩⟩) (fun k=>pt_i ?_)⟩
  have k:=of_decide_eq_false k
  rw [Qaf]
  refine Qa7 h.r rfl ((Qow h hX3 hd3 fun j=>?_).mono ?_)
  ·rcases hcu.lk (N:=N) with ⟨rfl,h1,h3⟩ | ⟨s,h1,rfl,h3⟩
   ·omega
   ·rw [h3] at j;exact (hM.Qsy he hu h1).2.1 (n1 j)
  rintro r w5 ⟨rfl,q1,xs,mg⟩
  exact ⟨_,rfl,Qan (fun k=>absurd rfl k) fun _=>⟨_,q1,rfl,xs,.inr ⟨k,rfl,mg⟩⟩⟩
 rintro _ X w4 ⟨X',q1,hX,xs1,hq1⟩
 simp only [List.cons.injEq,Value.int.injEq,and_true,true_and] at hX
 subst hX
 have l1:∀{z},LK q1 D z (2*e+1)→z=2*e+1:=fun {z} j=>by
  rcases hq1 with ⟨_,_,rfl⟩ | ⟨_,_,mg⟩
  ·exact n2 j
  ·rcases (mg.l _ _ _).1 j with j | ⟨_,j⟩ | ⟨_,j⟩
   ·exact n2 j
   ·have:=n2 j;omega
   ·have:=n2 j
    rcases hcu.lk (N:=N) with ⟨rfl,h1,h3⟩ | ⟨s,h1,rfl,h3⟩
    ·omega
    ·rw [h3] at this;exact absurd this (hM.Qsy he hu h1).2.2
 have l2:¬LK q1 D X' (itm' tl N v ce):=fun j=>by
  rcases hq1 with ⟨_,rfl,rfl⟩ | ⟨_,rfl,mg⟩
  ·have:=n1 j.symm
   rcases hcv.lk (N:=N) with ⟨rfl,h1,h3⟩ | ⟨s,h1,rfl,h3⟩
   ·omega
   ·rw [h3] at this;exact absurd this (hM.Qsy he hv h1).2.1
  ·rcases (mg.l _ _ _).1 j with j | ⟨_,j⟩ | ⟨_,j⟩
   ·exact hs j
   ·have:=n1 j.symm
    rcases hcv.lk (N:=N) with ⟨rfl,h1,h3⟩ | ⟨s,h1,rfl,h3⟩
    ·omega
    ·rw [h3] at this;exact absurd this (hM.Qsy he hv h1).2.1
   ·exact hs j
 have hX3':X' < 3*N:=by rcases hq1 with ⟨_,rfl,_⟩ | ⟨_,rfl,_⟩<;>assumption
 have hXt:X'≠2*e+1:=fun j=>by
  rcases hq1 with ⟨_,rfl,_⟩ | ⟨k1,rfl,_⟩
  ·omega
  ·rcases hcu.lk (N:=N) with ⟨rfl,h1,h3⟩ | ⟨s,h1,rfl,h3⟩
   ·omega
   ·rw [h3] at j;exact absurd j (hM.Qsy he hu h1).2.2
 refine (x_own xs1.a).mono ?_
 rintro r w5 ⟨rfl,rfl⟩
 refine ⟨_,rfl,Qag (fun k=>pt_i ?_) (fun k=>pt_i ?_)⟩
 ·have k:=of_decide_eq_true k
  rcases (hcv.lk (N:=N)).symm with ⟨t,h5,rfl,h6⟩ | ⟨rfl,h5,h6⟩
  ·have:=hM.lt _ (hM.Qeo (Qbq.2 ⟨v,hv,h5⟩)).1;omega
  rw [Qaf]
  refine Qa7 xs1.a.r rfl ((Qow xs1.a hX3' ht3 fun j=>hXt (l1 j)).mono ?_)
  rintro r w6 ⟨rfl,q2,xs2,mg2⟩
  refine ⟨_,rfl,rfl,q2,xs1.trans xs2,?_⟩
  rcases hq1 with ⟨k1,rfl,rfl⟩ | ⟨k1,rfl,mg⟩
  ·rcases hcu.lk (N:=N) with ⟨rfl,h1,h3⟩ | ⟨s,h1,rfl,h3⟩
   ·exact (mg2.f _ cb.fq).congr fun _ _ z _=>hM.phL_ab he heN hu hv (Ne.symm huv) h1 h5 z
   ·have:=hM.lt _ (hM.Qeo (Qbq.2 ⟨u,hu,h1⟩)).1;omega
  ·rcases hcu.lk (N:=N) with ⟨rfl,h1,h3⟩ | ⟨s,h1,rfl,h3⟩
   ·omega
   ·rw [h3] at mg mg2
    exact (mg2.f _ (mg.f _ cb.fq)).congr fun _ _ z _=>hM.phL_b he heN hu hv h1 rfl h5 z
 ·have k:=of_decide_eq_false k
  rcases hcv.lk (N:=N) with ⟨rfl,h5,h6⟩ | ⟨t,h5,rfl,h6⟩
  ·omega
  obtain ⟨y1,y2,y3⟩:=hM.Qsy he hv h5
  rw [h6] at *
  rw [Qaf]
  refine Qa7 xs1.a.r rfl ((Qow xs1.a hY3 ht3 fun j=>y3 (l1 j)).mono ?_)
  rintro r w6 ⟨rfl,q2,xs2,mg2⟩
  refine ⟨_,rfl,Qan (fun k=>absurd rfl k) fun _=>pt_i ?_⟩
  rw [Qaf]
  refine Qa7 xs2.a.r rfl ((Qow xs2.a hX3' hY3 fun j=>?_).mono ?_)
  ·rcases (mg2.l _ _ _).1 j with j | ⟨j,_⟩ | ⟨j,_⟩
   ·exact l2 j
   ·exact l2 j
   ·exact hXt (l1 j)
  rintro r w7 ⟨rfl,q3,xs3,mg3⟩
  refine ⟨_,rfl,rfl,q3,(xs1.trans xs2).trans xs3,?_⟩
  rcases hq1 with ⟨k1,rfl,rfl⟩ | ⟨k1,rfl,mg⟩
  ·rcases hcu.lk (N:=N) with ⟨rfl,h1,h3⟩ | ⟨s,h1,rfl,h3⟩
   ·exact (mg3.f _ (mg2.f _ cb.fq)).congr fun _ _ z _=>hM.phL_a he heN hu hv h1 h5 rfl z
   ·have:=hM.lt _ (hM.Qeo (Qbq.2 ⟨u,hu,h1⟩)).1;omega
  ·rcases hcu.lk (N:=N) with ⟨rfl,h1,h3⟩ | ⟨s,h1,rfl,h3⟩
   ·omega
   ·rw [h3] at mg mg3
    have hst:s≠t:=by rintro rfl;exact huv (hM.uniq hu hv h1 h5)
    exact (mg3.f _ (mg2.f _ (mg.f _ cb.fq))).congr fun _ _ z _=>(hM.phL he heN hu hv h1 rfl h5 rfl hst z).2
end
end Core
end Go.Proofs.YtpmicakdjhoafaaGreatDoor
namespace Go.Proofs.YtpmicakdjhoafaaGreatDoor
open Go Go.RowKit
namespace Core
open Go.Proofs.YtpmicakdjhoafaaGreatDoor.Seq Go.Proofs.YtpmicakdjhoafaaGreatDoor.Cut Go.Proofs.YtpmicakdjhoafaaGreatDoor.Web
structure GM (h:Array Obj) (b:Bk) (N:Nat) (lv:Nat→Bool) (tl:Nat→List Nat) (q:List (List Nat)) (B D:Nat→Option (Nat × Nat)) (ky:Nat→Int):Prop extends MR h b N lv tl q B D ky where
 cb:CB (fun _=>False) N tl q B D
 mm:MM N tl B D ky fun _=>False
 ll:∀v,v<N→tl v≠[]→lv v=true
 ki:∀e,Laid tl N e→∃w:Int,-2147483648≤w∧w≤2147483647∧ky e=w*1048576+e
structure GS (w₀ w:World) (b:Bk) (N:Nat) (lv:Nat→Bool) (tl:Nat→List Nat) (q:List (List Nat)) (B D:Nat→Option (Nat × Nat)) (ky:Nat→Int):Prop where
 c:Chg b.ch w₀ w
 a:GM w.heap b N lv tl q B D ky
def GC (tl:Nat→List Nat) (N:Nat):Nat→Nat→Prop:=RT fun x y=>∃e,Laid tl N e∧((x=og tl N (2*e)∧y=og tl N (2*e+1))∨(x=og tl N (2*e+1)∧y=og tl N (2*e)))
def PF (tl:Nat→List Nat) (N:Nat):Nat→Nat→Prop:=RT fun x y=>y=ph tl N x
def Lgl (tl:Nat→List Nat) (N u:Nat) (be:Int) (v:Nat) (ce:Int):Prop:=PF tl N (itm' tl N u be) (itm' tl N v ce)∨¬GC tl N u v
open Classical in
noncomputable def jE (lv:Nat→Bool) (tl:Nat→List Nat) (N:Nat) (e u be v ce:Int):Int:=
 if 0≤e∧e<N then (if Laid tl N e.toNat then 20 else if k2E lv tl N u be v ce=0 then (if Lgl tl N u.toNat be v.toNat ce then 0 else 15) else k2E lv tl N u be v ce) else 12
section
variable {w₀ w w':World} {b:Bk} {N g x y z a c s:Nat} {E E':Int} {lv lv':Nat→Bool} {tl tl':Nat→List Nat} {q q':List (List Nat)} {A C:List Nat} {B B' D D':Nat→Option (Nat × Nat)} {ky ky':Nat→Int} {f:Nat→Nat} {lim:Nat→Prop}
theorem GM.start (h:GM w.heap b N lv tl q B D ky):GS w w b N lv tl q B D ky:=⟨Chg.refl _ _,h⟩
theorem GM.xs (h:GM w.heap b N lv tl q B D ky) (k:XS w w' b N lv tl q B D ky (cE tl N)):GS w w' b N lv tl q B D ky:=⟨k.c,k.a.m,h.cb,h.mm,h.ll,h.ki⟩
theorem GM.nob (h:GM w.heap b N lv tl q B D ky) (c:Chg Qac w w'):GS w w' b N lv tl q B D ky:=h.xs (h.toMR.x.of c)
theorem GM.keep {S:Nat→Prop} (h:GM w.heap b N lv tl q B D ky) (c:Chg S w w') (hS:∀k,S k→¬b.has k):GM w'.heap b N lv tl q B D ky:=⟨h.toMR.keep c hS,h.cb,h.mm,h.ll,h.ki⟩
theorem GS.trans (h:GS w₀ w b N lv tl q B D ky) (k:GS w w' b N lv' tl' q' B' D' ky'):GS w₀ w' b N lv' tl' q' B' D' ky':=⟨h.c.trans k.c,k.a⟩
theorem GM.cj (h:GM w.heap b N lv tl q B D ky):CJ (fun _=>False) N tl q B D:=h.toMR.x.cj h.cb
theorem GM.kI (h:GM w.heap b N lv tl q B D ky):KI N tl ky:=fun i j hi hj e=>by
 obtain ⟨w1,_,_,e1⟩:=h.ki i hi
 obtain ⟨w2,_,_,e2⟩:=h.ki j hj
 have:=h.sz
 have:=h.cb.mp.Qcb hi
 have:=h.cb.mp.Qcb hj
 omega
theorem cy_rt (hx:x∈A) (hy:y∈A):RT (Cy A) x y:=by
 obtain ⟨p,s,rfl⟩:=List.append_of_mem hx
 have hr:∀{u v},Cy (x::(s++p)) u v→Cy (p++x::s) u v:=fun k=>Qq3.2 (by simpa using k)
 refine RT.mono (fun u v k=>hr k) ?_
 have hy:=Qf6.1 hy
 generalize s++p=l at *
 have key:∀(m:List Nat) (pre:List Nat) (u:Nat),x::l=pre++u::m→RT (Cy (x::l)) x u→y∈u::m→RT (Cy (x::l)) x y:=by
  intro m
  induction m with
  | nil=>intro pre u _ h1 h2;obtain rfl:=List.mem_singleton.1 h2;exact h1
  | cons v m ih=>
   intro pre u h1 h2 h3
   rcases List.mem_cons.1 h3 with rfl | h3
   ·exact h2
   ·refine ih (pre++[u]) v (by simp [h1]) (h2.step ?_) h3
    rw [h1]
    exact .inl (Web.Nx.append.2 (.inr (.inl (.inl ⟨rfl,rfl⟩))))
 exact key l [] x rfl .refl hy
theorem CB.pf (h:CB lim N tl q B D) (hx:x<3*N):SF q x y↔PF tl N x y:=by
 constructor
 ·rintro ⟨A,hA,h1,h2⟩
  exact RT.mono (fun u v k=>(h.fq A hA u v k).symm) (cy_rt h1 h2)
 ·intro k
  induction k with
  | refl=>obtain ⟨A,hA,k⟩:=h.al x hx;exact ⟨A,hA,k,k⟩
  | step _ k ih=>
   subst k
   have h1:=ih
   obtain ⟨A,hA,_,h2⟩:=h1
   exact Qnc h.nd ih (h.sf_ph (h.lt _ (List.mem_flatten.2 ⟨A,hA,h2⟩)))
theorem CJ.gc (h:CJ (fun _=>False) N tl q B D):LK [] B x y↔GC tl N x y:=by
 constructor
 ·refine RT.mono fun u v k=>?_
  rcases k with ⟨A,hA,_⟩ | ⟨i,k⟩
  ·cases hA
  ·rcases k with k | k
   ·obtain ⟨k1,k2,_⟩:=h.bB i _ k;cases k2;exact ⟨i,k1,.inl ⟨rfl,rfl⟩⟩
   ·obtain ⟨k1,k2,_⟩:=h.bB i _ k;cases k2;exact ⟨i,k1,.inr ⟨rfl,rfl⟩⟩
 ·refine RT.bind fun u v k=>?_
  obtain ⟨i,hi,⟨rfl,rfl⟩ | ⟨rfl,rfl⟩⟩:=k
  ·exact h.hang hi
  ·exact (h.hang hi).symm
theorem Qq6 {v:Int} (h:GM w.heap b N lv tl q B D ky):Calls Pg Qbk #[.pointer (some ⟨b.M,0,none⟩),.int .i64 v] w fun r w'=>(0≤v∧v<N∧lv v.toNat=false∧r=.returned (errV 0)∧GS w w' b N (upd lv v.toNat true) tl q B D ky)∨(¬(0≤v∧v<N∧lv v.toNat=false)∧r=.returned (errV (if vE lv N v=0 then 20 else 12))∧w'=w):=by
 by_cases hc:0≤v∧v<N∧lv v.toNat=false
 ·obtain ⟨x,rfl⟩:∃x:Nat,v=x:=⟨v.toNat,by omega⟩
  obtain ⟨_,h1,h2⟩:=hc
  rw [Int.toNat_natCast] at *
  refine (Qyv h.toMR (by omega) h2).mono ?_
  rintro r w' ⟨rfl,ms⟩
  refine .inl ⟨by omega,h1,h2,rfl,ms.c,ms.a,h.cb,h.mm,fun u hu k=>?_,h.ki⟩
  by_cases hux:u=x
  ·rw [hux,Qab]
  ·rw [Qak _ _ hux];exact h.ll u hu k
 ·refine (Qhu _ _ _ (fun v' w'=>v'=errV (if vE lv N v=0 then 20 else 12)∧w'=w) ?_).mono (by rintro e w' ⟨v,rfl,k1,k2⟩;exact .inr ⟨hc,by rw [k1],k2⟩)
  unfold Qf5 vE
  refine (Qvt h.toMR.x).mono ?_
  rintro r w3 ⟨rfl,rfl⟩
  by_cases h0:0≤v∧v<N
  ·rw [if_pos h0,if_pos h0]
   obtain ⟨x,rfl⟩:∃x:Nat,v=x:=⟨v.toNat,by omega⟩
   have hx:x<N:=by omega
   rw [Int.toNat_natCast] at *
   have hl:lv x=true:=by cases hh:lv x<;>simp_all
   refine ⟨_,rfl,Qan (fun e=>absurd rfl e) (fun _=>pt_i (Qba h.r rfl (Qb3 hx ?_)))⟩
   rw [Nat.zero_add,Nat.mul_one]
   exact ldB_r (n:=lv x) h.v (Qvr hx) (Qag (fun _=>⟨by rw [if_pos hl,if_pos rfl];rfl,rfl⟩) (fun k=>by rw [hl] at k;cases k))
  ·rw [if_neg h0,if_neg h0]
   exact ⟨_,rfl,Qan (fun _=>⟨rfl,rfl⟩) (fun e=>by cases e)⟩
def drE (lv:Nat→Bool) (tl:Nat→List Nat) (N:Nat) (v:Int):Int:=if vE lv N v=0 then (if tl v.toNat=[] then 0 else 14) else vE lv N v
theorem Qtg {v:Int} (h:GM w.heap b N lv tl q B D ky):Calls Pg Qfm #[.pointer (some ⟨b.M,0,none⟩),.int .i64 v] w fun r w'=>r=.returned (errV (drE lv tl N v))∧(drE lv tl N v≠0→w'=w)∧(drE lv tl N v=0→GS w w' b N (upd lv v.toNat false) tl q B D ky):=by
 generalize hk:drE lv tl N v=er
 refine (Qmm _ _ _ (fun v' w'=>v'=errV er∧(er≠0→w'=w)∧(er=0→GS w w' b N (upd lv v.toNat false) tl q B D ky)) ?_).mono (by rintro e w' ⟨v,rfl,rfl,k⟩;exact ⟨rfl,k⟩)
 unfold Qiw
 have hx0:=h.toMR.x
 refine (Qy1 hx0).mono ?_
 rintro r w3 ⟨rfl,rfl⟩
 unfold drE at hk
 refine ⟨_,rfl,Qan (fun k=>?_) (fun k=>?_)⟩
 ·rw [if_neg k] at hk;subst hk
  exact ⟨rfl,fun _=>rfl,fun j=>absurd j k⟩
 rw [if_pos k] at hk
 obtain ⟨x,rfl,hx,hl⟩:∃x:Nat,v=x∧x<N∧lv x=true:=by
  unfold vE at k
  split at k
  ·refine ⟨v.toNat,by omega,by omega,?_⟩
   split at k
   ·assumption
   ·cases k
  ·cases k
 rw [Int.toNat_natCast] at *
 refine ⟨fun _ w'=>w'=w3∧tl x=[],pt_i ?_,?_⟩
 ·rw [Qaf]
  refine Qa7 h.r rfl ((t_Degree h.t hx).mono ?_)
  rintro r w4 ⟨rfl,rfl⟩
  refine ⟨_,_,rfl,Qan (fun k=>absurd rfl k) fun _=>Qag (fun j=>?_) (fun j=>?_)⟩<;>simp only [b1s] at j
  ·rw [if_neg (fun k=>by rw [k] at j;simp at j)] at hk;subst hk
   exact ⟨rfl,fun _=>rfl,fun k=>by cases k⟩
  ·exact ⟨rfl,List.length_eq_zero_iff.1 (by omega)⟩
 rintro _ w4 ⟨rfl,h0⟩
 rw [if_pos h0] at hk
 subst hk
 have hsz:=h.sz
 have hne:b.LV≠b.KB∧b.LV≠b.M∧b.KB≠b.M:=by obtain ⟨x,y,z,_,_,_,_,h1⟩:=h.o;exact h1
 refine pt_i ?_
 rw [Qaf]
 refine Qba h.r rfl (Qb3 hx ?_)
 rw [Nat.zero_add,Nat.mul_one]
 refine Qdb h.v (by rw [Qaq _ Q0d];omega) rfl fun w5 c1 rv=>pt_i ?_
 rw [bc_set hx] at rv
 have hr1:=c1.row (fun e=>hne.2.1 e.symm) h.r
 have e1:cV (upd lv x false) N=cV lv N-1:=by
  have h2:=sm_at (n:=N) (f:=fun u=>if upd lv x false u then (1:Int) else 0) (g:=fun u=>if lv u then 1 else 0) hx fun i hi=>by rw [Qak _ _ hi]
  unfold cV
  rw [h2,Qab,hl];simp
 have b1:=cV_bd (lv:=lv) (N:=N)
 have b2:=cB_bd (B:=B) (N:=N)
 rw [Qaf]
 refine Qaj (n:=cV lv N) hr1 rfl (pt_i ?_)
 rw [Qaf,wrap64_in (by omega) (by omega)]
 refine Qdb hr1 (by simp [mrow]) rfl fun w6 c2 hr2=>pt_i ?_
 rw [Qaf,Qaf]
 refine Qaj (n:=cV lv N-cB B N) hr2 rfl (pt_i ?_)
 rw [Qaf,Qaf,wrap64_in (by omega) (by omega)]
 refine Qdb hr2 (by simp [mrow]) rfl fun w7 c3 hr3=>⟨rfl,fun k=>absurd rfl k,fun _=>?_⟩
 have cc:Chg (fun k=>k=b.LV∨k=b.KB∨k=b.M) w4 w7:=(c1.mono fun _ _ e=>.inl e).trans ((c2.trans c3).mono fun _ _ e=>.inr (.inr e))
 obtain ⟨k1,k2,k3⟩:=h.toMP0.low cc
 have c23:=c2.trans c3
 refine ⟨cc.mono fun i _ e=>?_,⟨⟨c23.row (fun e=>hne.2.1 e) rv,c23.row (fun e=>hne.2.2 e) (c1.row (fun e=>hne.1 e.symm) h.k),k1,k2,k3,h.o,h.kb⟩,?_⟩,h.cb,h.mm,fun u hu k=>?_,h.ki⟩
 ·rcases e with e | e | e
  ·exact .inr (.inl e)
  ·exact .inr (.inr (.inl e))
  ·exact .inl e
 ·rw [e1,show cV lv N-1-cB B N=cV lv N-cB B N-1 by omega];exact hr3
 ·by_cases hux:u=x
  ·subst hux;contradiction
  ·rw [Qak _ _ hux];exact h.ll u hu (by assumption)
theorem e_Key {z:Int} {e:Nat} (hz:-2147483648≤z∧z≤2147483647) (he:e<1048576):Calls Pg Ql9 #[.int .i32 z,.int .i64 e] w fun r w'=>r=.returned (.tuple #[.int .i64 (z*1048576+e),errV 0])∧w'=w:=by
 refine (Quv _ _ _ (fun v' w'=>v'=.tuple #[.int .i64 (z*1048576+e),errV 0]∧w'=w) ?_).mono (by rintro e w' ⟨v,rfl,rfl,k⟩;exact ⟨rfl,k⟩)
 unfold Qtj
 refine Qag (fun k=>?_) (fun _=>Qag (fun k=>?_) (fun _=>⟨by omega,?_⟩))
 ·simp only [b1s] at k;omega
 ·simp only [b1s] at k;omega
 rw [show (min (Int.toNat (20:Int)) (IntKind.bits .i64))=20 from rfl,show (2:Int) ^ 20=1048576 by decide,wrap64_in (x:=z) (by omega) (by omega),wrap64_in (x:=z*1048576) (by omega) (by omega),wrap64_in (x:=z*1048576+e) (by omega) (by omega)]
 exact ⟨rfl,rfl⟩
theorem cE_lay {e u v:Nat} {be ce:Int} (hu:u<N) (hv:v<N) (he:¬Laid tl N e) (heN:e<N):cE (lay tl e u be v ce) N=cE tl N+1:=by
 have hi:∀i,Laid (lay tl e u be v ce) N i↔i=e∨Laid tl N i:=fun i=>by
  unfold Laid;rw [Qi7 hu hv]
  constructor
  ·rintro (k | k | k)
   ·omega
   ·exact .inl (by omega)
   ·exact .inr k
  ·rintro (rfl | k)
   ·exact .inr (.inl rfl)
   ·exact .inr (.inr k)
 have h2:=sm_at (n:=N) (f:=fun i=>if Laid (lay tl e u be v ce) N i then (1:Int) else 0) (g:=fun i=>if Laid tl N i then 1 else 0) heN fun i hie=>by
  simp only [hi,hie,false_or]
 unfold cE
 rw [h2,if_neg he,if_pos ((hi e).2 (.inl rfl))];omega
theorem cE_lift (hM:MP N tl) {e:Nat} (he:Laid tl N e):cE (lift tl N e) N=cE tl N-1:=by
 have heN:=hM.Qcb he
 have hi:∀i,Laid (lift tl N e) N i↔i≠e∧Laid tl N i:=fun i=>by
  unfold Laid;rw [(hM.liftM he).2]
  constructor
  ·rintro ⟨k1,k2,k3⟩;exact ⟨by omega,k3⟩
  ·rintro ⟨k1,k3⟩;exact ⟨by omega,by omega,k3⟩
 have h2:=sm_at (n:=N) (f:=fun i=>if Laid (lift tl N e) N i then (1:Int) else 0) (g:=fun i=>if Laid tl N i then 1 else 0) heN fun i hie=>by
  simp only [hi,ne_eq,hie,not_false_eq_true,true_and]
 unfold cE
 rw [h2,if_pos he,if_neg (fun k=>((hi e).1 k).1 rfl)];omega
theorem MM.lay {e u v:Nat} {be ce z:Int} (h:MM N tl B D ky fun _=>False) (cb:CB (fun _=>False) N tl q B D) (he:¬Laid tl N e) (heN:e<N) (hu:u<N) (hv:v<N):MM N (lay tl e u be v ce) B D (upd ky e z) fun _=>False:=by
 intro g f p r _ hg hf k
 have hge:g≠e:=by rintro rfl;exact he (cb.bB _ p hg).1
 have hfe:f≠e:=by rintro rfl;exact he (cb.bD _ r hf).1
 rw [cb.mp.Qq1 he heN hu hv,cb.mp.Qq1 he heN hu hv,if_neg (by omega),if_neg (by omega),if_neg (by omega),if_neg (by omega)] at k
 rw [Qak _ _ hge,Qak _ _ hfe]
 exact h g f p r (fun h=>h) hg hf k
theorem MX.cnt (h:MX w.heap b N lv tl q B D ky E) (c:Chg (·=b.M) w w') (r:Row w'.heap b.M Qhv (mrow b N (cV lv N) E' (cV lv N-cB B N) (sB B ky N))):XS w w' b N lv tl q B D ky E':=
 ⟨c.mono fun _ _ e=>.inl e,h.toMP0.row c,r⟩
theorem Qy5 {e u be v ce z:Int} (h:GM w.heap b N lv tl q B D ky) (hz:-2147483648≤z∧z≤2147483647) :
  Calls Pg Qcq #[.pointer (some ⟨b.M,0,none⟩),.int .i64 e,.agg #[.int .i64 u,.int .i64 be],.agg #[.int .i64 v,.int .i64 ce],.int .i32 z] w fun r w'=>r=.returned (errV (jE lv tl N e u be v ce))∧(jE lv tl N e u be v ce≠0→GS w w' b N lv tl q B D ky)∧
   (jE lv tl N e u be v ce=0→∃q' B' D',GS w w' b N lv (lay tl e.toNat u.toNat be v.toNat ce) q' B' D' (upd ky e.toNat (z*1048576+e.toNat))):=by
 generalize hk:jE lv tl N e u be v ce=er
 refine (Qrv _ _ _ _ _ _ _ _ (fun v' w'=>v'=errV er∧(er≠0→GS w w' b N lv tl q B D ky)∧
   (er=0→∃q' B' D',GS w w' b N lv (lay tl e.toNat u.toNat be v.toNat ce) q' B' D' (upd ky e.toNat (z*1048576+e.toNat)))) ?_).mono (by rintro e w' ⟨v,rfl,rfl,k⟩;exact ⟨rfl,k⟩)
 unfold Qn8
 have hsz:=h.sz
 have cb:=h.cb
 have hM:=cb.mp
 have hx0:=h.toMR.x
 unfold jE at hk
 refine Qa2 fun A1 w1 hA1 c1 ra=>Qa2 fun A2 w2 hA2 c2 rb=>?_
 replace hA2:=Nat.le_trans c1.size hA2
 have c3:=c1.trans c2
 have h3:=hx0.nob c3
 have ra3:=c2.row (fun h=>h) ra
 clear c1 c2 ra
 refine (Qvt h3).mono ?_
 rintro r w3 ⟨rfl,rfl⟩
 by_cases he:0≤e∧e<N
 ·rw [if_pos he] at hk ⊢
  obtain ⟨e,rfl⟩:∃x:Nat,e=x:=⟨e.toNat,by omega⟩
  have heN:e<N:=by omega
  rw [Int.toNat_natCast] at *
  refine ⟨_,rfl,Qan (fun e=>absurd rfl e) (fun _=>pt_i ?_)⟩
  rw [Qaf]
  refine Qa7 h3.r rfl ((t_Has h3.t heN).mono ?_)
  rintro r w4 ⟨rfl,rfl⟩
  refine ⟨_,rfl,Qag (fun k=>?_) (fun k=>?_)⟩
  ·rw [if_pos (of_decide_eq_true k)] at hk
   subst hk
   exact ⟨rfl,fun _=>h.nob c3,fun k=>by cases k⟩
  have hla:=of_decide_eq_false k
  rw [if_neg hla] at hk
  rw [Qaf,Qaf]
  refine Qaj (n:=u) ra3 rfl (Qaj (n:=be) ra3 rfl (Qaj (n:=v) rb rfl (Qaj (n:=ce) rb rfl ((x_looks h3 cb).mono ?_))))
  rintro r w5 ⟨X,Y,is,rfl,xs,hok,_⟩
  have hlow:=hx0.low
  have hcA:∀{A},w.heap.size≤A→¬b.ch A:=fun k j=>Nat.lt_irrefl _ (Nat.lt_of_lt_of_le (hlow _ j) k)
  have ra5:=xs.c.row (hcA hA1) ra3
  have rb5:=xs.c.row (hcA hA2) rb
  have xs5:=(hx0.of c3).trans xs
  refine ⟨_,_,_,_,rfl,Qan (fun k=>?_) (fun k=>?_)⟩
  ·rw [if_neg k] at hk;subst hk
   exact ⟨rfl,fun _=>h.xs xs5,fun j=>absurd j k⟩
  rw [if_pos k] at hk
  obtain ⟨rfl,rfl,his⟩:=hok k
  have hk1:kE lv tl N u be=0:=Classical.byContradiction fun j=>by unfold k2E at k;rw [if_neg j] at k;exact j k
  have hk2:kE lv tl N v ce=0:=by unfold k2E at k;rwa [if_pos hk1] at k
  obtain ⟨u,rfl,hu,hlu,hcu⟩:=kE_0 hk1
  obtain ⟨v,rfl,hv,hlv,hcv⟩:=kE_0 hk2
  rw [Int.toNat_natCast,Int.toNat_natCast] at *
  have hX3:=Qvi hM hu hcu
  have hY3:=Qvi hM hv hcv
  have hlg:is=true↔Lgl tl N u be v ce:=by rw [his];unfold Lgl;rw [cb.pf hX3,h.cj.gc]
  refine (e_Key hz (by omega)).mono ?_
  rintro r w6 ⟨rfl,rfl⟩
  refine ⟨_,_,rfl,Qan (fun k=>absurd rfl k) fun _=>Qag (fun j=>?_) (fun j=>pt_i ?_)⟩
  ·have:¬Lgl tl N u be v ce:=fun l=>by rw [hlg.2 l] at j;cases j
   rw [if_neg this] at hk;subst hk
   exact ⟨rfl,fun _=>h.xs xs5,fun k=>by cases k⟩
  have hlgl:Lgl tl N u be v ce:=hlg.1 (by cases is<;>simp_all)
  rw [if_pos hlgl] at hk
  subst hk
  suffices hg:∀{r:Value} {w':World},(r=errV 0∧∃q' B' D',GS w w' b N lv (lay tl e u be v ce) q' B' D' (upd ky e (z*1048576+e)))→r=errV 0∧((0:Int)≠0→GS w w' b N lv tl q B D ky)∧((0:Int)=0→∃q' B' D',GS w w' b N lv (lay tl e u be v ce) q' B' D' (upd ky e (z*1048576+e))) by
   rw [Qaf]
   refine Qa7 xs5.a.r rfl ((Qvm xs5.a hX3 hY3).mono ?_)
   rintro r w7 ⟨one,rfl,hone,xs7⟩
   refine ⟨_,_,rfl,Qan (fun k=>absurd rfl k) fun _=>pt_i ?_⟩
   have c8:=(Chg.refl Qac w7).drew
   have xs8:=(xs5.trans xs7).nob c8
   have ra8:=c8.row (fun h=>h) (xs7.c.row (hcA hA1) ra5)
   have rb8:=c8.row (fun h=>h) (xs7.c.row (hcA hA2) rb5)
   generalize w7.drew=w8 at *
   rw [Qaf]
   refine Qa7 xs8.a.r rfl (Qaj (n:=(u:Int)) ra8 rfl (Qaj (n:=be) ra8 rfl (Qaj (n:=(v:Int)) rb8 rfl (Qaj (n:=ce) rb8 rfl ((t_Lay xs8.a.t hM heN hla hu hv ?_ ?_).mono ?_)))))
   ·unfold kE at hk1;split at hk1
    ·exact hk1
    ·contradiction
   ·unfold kE at hk2;split at hk2
    ·exact hk2
    ·contradiction
   rintro r w9 ⟨rfl,ts⟩
   have xs9:=xs8.trans (xs8.a.turn ts)
   have ra9:=((xs8.a.turn ts).c).row (hcA hA1) ra8
   have rb9:=((xs8.a.turn ts).c).row (hcA hA2) rb8
   have hBe:B e=none:=by
    cases hB:B e with
    | none=>rfl
    | some p=>exact absurd (cb.bB e p hB).1 hla
   have hDe:D e=none:=by
    cases hD:D e with
    | none=>rfl
    | some p=>exact absurd (cb.bD e p hD).1 hla
   refine ⟨_,rfl,Qan (fun k=>absurd rfl k) fun _=>pt_i ?_⟩
   rw [Qaf]
   refine Qba xs9.a.r rfl (Qb3 heN ?_)
   rw [Nat.zero_add,Nat.mul_one]
   refine Qdb xs9.a.k (by rw [Qaq _ Qxj];omega) rfl fun w10 c10 rk=>pt_i ?_
   rw [kc_set heN] at rk
   have xs10':=xs9.a.keyed c10 rk hBe hDe (by omega)
   have xs10:=xs9.trans xs10'
   have ra10:=xs10'.c.row (hcA hA1) ra9
   have rb10:=xs10'.c.row (hcA hA2) rb9
   have b1:=cE_bd (tl:=tl) (N:=N)
   rw [Qaf,Qaf]
   refine Qaj (n:=cE tl N) xs10.a.r rfl (pt_i ?_)
   rw [Qaf,Qaf,wrap64_in (by omega) (by omega)]
   refine Qdb xs10.a.r (by simp [mrow]) rfl fun w11 c11 rm=>?_
   have xs11':=xs10.a.cnt (E':=cE tl N+1) c11 rm
   have xs11:=xs10.trans xs11'
   have ra11:=xs11'.c.row (hcA hA1) ra10
   have rb11:=xs11'.c.row (hcA hA2) rb10
   clear xs9 ra9 rb9 xs10 xs10' ra10 rb10 xs8 ra8 rb8 ts xs7 xs5 ra5 rb5 xs11' rk rm
   have hM':=hM.layM (be:=be) (ce:=ce) hla heN hu hv
   have hle:Laid (lay tl e u be v ce) N e:=(Qi7 hu hv).2 (.inr (.inl rfl))
   have hmm:=h.mm.lay (be:=be) (ce:=ce) (z:=z*1048576+e) cb hla heN hu hv
   have og1:og (lay tl e u be v ce) N (2*e)=u:=by rw [hM.Qq1 hla heN hu hv,if_neg (by omega),if_pos rfl]
   have og2:og (lay tl e u be v ce) N (2*e+1)=v:=by rw [hM.Qq1 hla heN hu hv,if_pos rfl]
   have hll:∀x,x<N→lay tl e u be v ce x≠[]→lv x=true:=fun x hx k=>by
    unfold lay at k
    by_cases hxv:x=v
    ·rw [hxv];exact hlv
    ·rw [Qoq hxv] at k
     by_cases hxu:x=u
     ·rw [hxu];exact hlu
     ·rw [Qoq hxu] at k;exact h.ll x hx k
   have hki:∀i,Laid (lay tl e u be v ce) N i→∃w:Int,-2147483648≤w∧w≤2147483647∧upd ky e (z*1048576+e) i=w*1048576+i:=fun i hi=>by
    by_cases hie:i=e
    ·subst hie;exact ⟨z,hz.1,hz.2,Qab _ _ _⟩
    ·rw [Qak _ _ hie]
     refine h.ki i ?_
     rcases (Qi7 hu hv).1 hi with k | k | k
     ·omega
     ·omega
     ·exact k
   have fin:∀{q' B' D'} {w':World},XS w w' b N lv (lay tl e u be v ce) q' B' D' (upd ky e (z*1048576+e)) (cE tl N+1)→CB (fun _=>False) N (lay tl e u be v ce) q' B' D'→MM N (lay tl e u be v ce) B' D' (upd ky e (z*1048576+e)) (fun _=>False)→GS w w' b N lv (lay tl e u be v ce) q' B' D' (upd ky e (z*1048576+e)):=fun xs k1 k2=>by
    rw [←cE_lay (be:=be) (ce:=ce) hu hv hla heN] at xs
    exact ⟨xs.c,xs.a.m,k1,k2,hll,hki⟩
   have kI':KI N (lay tl e u be v ce) (upd ky e (z*1048576+e)):=fun i j hi hj k=>by
    obtain ⟨w1,_,_,e1⟩:=hki i hi
    obtain ⟨w2,_,_,e2⟩:=hki j hj
    have:=hM'.Qcb hi
    have:=hM'.Qcb hj
    omega
   have cbl:∀{q'} {w':World},XS w w' b N lv (lay tl e u be v ce) q' B D (upd ky e (z*1048576+e)) (cE tl N+1)→FQ (ph (lay tl e u be v ce) N) q'→CB (fun i=>i=e) N (lay tl e u be v ce) q' B D:=fun xs hf=>by
    obtain ⟨nd,lt,_,al⟩:=xs.a.w.nodup
    exact cb.lay hla heN hu hv hf nd al lt
   refine Qag (fun k=>?_) (fun k=>?_)
   ·have hsf:=hone.1 k
    refine Qaj (n:=(u:Int)) ra11 rfl (Qaj (n:=be) ra11 rfl (Qaj (n:=(v:Int)) rb11 rfl (Qaj (n:=ce) rb11 rfl ⟨_,_,(Qv5 (k:=.i64) (offs:=[0,1]) (X:=fun o=>if o=0 then (u:Int) else be) (Y:=fun o=>if o=0 then (v:Int) else ce) (by kernel_rfl) (by kernel_rfl) (by kernel_rfl) (by kernel_rfl) (by kernel_rfl) ?_).1,?_⟩)))
    ·intro o ho
     simp only [List.mem_cons,List.not_mem_nil,or_false] at ho
     rcases ho with rfl | rfl<;>exact ⟨rfl,rfl⟩
    have ed:([0,1].all fun o=>(if o=0 then (u:Int) else be)==(if o=0 then (v:Int) else ce))=decide (u=v∧be=ce):=by
     rw [Bool.eq_iff_iff,decide_eq_true_iff]
     simp only [List.all_cons,List.all_nil,Bool.and_true,Bool.and_eq_true,beq_iff_eq,if_pos,if_neg,Nat.one_ne_zero]
     simp only [if_true,if_false]
     omega
    rw [ed]
    refine (x_divide xs11.a cb hla heN hu hv hcu hcv hsf).mono ?_
    rintro r w12 ⟨rfl,q',xs12,hf,hno⟩
    have xs13:=xs11.trans xs12
    refine ⟨_,rfl,(Qy3 xs12.a (cbl xs13 hf) hmm kI' hle ?_ hno).mono ?_⟩
    ·rw [og1,og2]
     have hn:=h.cj.near (LK.sf hsf)
     have ho:∀{x:Nat} {be:Int},x<N→Cn tl x be→org tl N (itm' tl N x be)=x:=fun {x be} hx hc=>by
      rcases hc.lk (N:=N) with ⟨_,_,h3⟩ | ⟨s,h1,_,h3⟩<;>rw [h3]<;>unfold org
      ·rw [if_pos (by omega)];omega
      ·have hm:=Qbq.2 ⟨x,hx,h1⟩
       have:=hM.lt _ (hM.Qeo hm).1
       rw [if_neg (by omega),(hM.Qeo hm).2,hM.ogE hx h1]
     rwa [ho hu hcu,ho hv hcv] at hn
    rintro r w14 ⟨rfl,B',D',xs14,cb14,mm14⟩
    exact ⟨_,rfl,Qsd fun w15 c15=>hg ⟨rfl,q',B',D',fin ((xs13.trans xs14).nob c15) cb14 mm14⟩⟩
   ·have hsf:¬SF q (itm' tl N u be) (itm' tl N v ce):=fun j=>by rw [hone.2 j] at k;cases k
    have hnB:¬LK [] B u v:=by
     rcases hlgl with j | j
     ·exact absurd ((cb.pf hX3).2 j) hsf
     ·rwa [h.cj.gc]
    have hnD:¬LK q D (itm' tl N u be) (itm' tl N v ce):=fun j=>by
     have hn:=h.cj.near j
     have ho:∀{x:Nat} {be:Int},x<N→Cn tl x be→org tl N (itm' tl N x be)=x:=fun {x be} hx hc=>by
      rcases hc.lk (N:=N) with ⟨_,_,h3⟩ | ⟨s,h1,_,h3⟩<;>rw [h3]<;>unfold org
      ·rw [if_pos (by omega)];omega
      ·have hm:=Qbq.2 ⟨x,hx,h1⟩
       have:=hM.lt _ (hM.Qeo hm).1
       rw [if_neg (by omega),(hM.Qeo hm).2,hM.ogE hx h1]
     rw [ho hu hcu,ho hv hcv] at hn
     exact hnB hn
    refine (x_bind xs11.a cb hla heN hu hv hcu hcv (fun j=>hnB (j ▸ LK.refl)) hnD).mono ?_
    rintro r w12 ⟨rfl,q',xs12,hf⟩
    have xs13:=xs11.trans xs12
    have cb13:=cbl xs13 hf
    refine ⟨_,rfl,(Qwy xs12.a hM' hle hBe cb13.bd (by rw [og1,og2];exact hnB)).mono ?_⟩
    rintro r w14 ⟨rfl,xs14⟩
    refine ⟨_,rfl,Qsd fun w15 c15=>hg ⟨rfl,q',_,_,fin ((xs13.trans xs14).nob c15) ((cb13.mark rfl hle (by rw [og1,og2];rintro rfl;exact hnB LK.refl)).lim0 fun i k=>k.2 k.1) ?_⟩⟩
    intro g f p r _ hgB hfD kk
    have hfe:f≠e:=by rintro rfl;rw [hDe] at hfD;cases hfD
    by_cases hge:g=e
    ·subst hge
     rw [Qoi,Qr0 hBe] at kk
     rw [hM.Qq1 hla heN hu hv,hM.Qq1 hla heN hu hv,if_neg (by omega),if_neg (by omega),if_neg (by omega),if_neg (by omega)] at kk
     exact absurd (h.cj.hang (cb.bD f r hfD).1) kk
    ·rw [Qak _ _ hge] at hgB
     refine hmm g f p r (fun h=>h) hgB hfD fun j=>kk (j.mono (fun _ _ h=>h) fun i p' hi=>?_)
     obtain ⟨hig,hi⟩:=Qdq hi
     rw [Qak _ _ hig]
     have hie:i≠e:=by rintro rfl;rw [hBe] at hi;cases hi
     rw [Qak _ _ hie];exact hi
  rintro r w' ⟨k1,k2⟩
  exact ⟨k1,fun k=>absurd rfl k,fun _=>k2⟩
 ·rw [if_neg he] at hk ⊢
  subst hk
  exact ⟨_,rfl,Qan (fun _=>⟨rfl,fun _=>h.nob c3,fun k=>by cases k⟩) (fun k=>by cases k)⟩
theorem Qy4 {e:Int} (h:GM w.heap b N lv tl q B D ky) :
  Calls Pg Qfh #[.pointer (some ⟨b.M,0,none⟩),.int .i64 e] w fun r w'=>r=.returned (errV (eE tl N e))∧(eE tl N e≠0→w'=w)∧
   (eE tl N e=0→∃q' B' D',GS w w' b N lv (lift tl N e.toNat) q' B' D' ky∧((SF q (2*e.toNat) (2*e.toNat+1)→cB B' N=cB B N-1)∧(¬SF q (2*e.toNat) (2*e.toNat+1)→cB B' N=cB B N))):=by
 generalize hk:eE tl N e=er
 refine (Qru _ _ _ (fun v' w'=>v'=errV er∧(er≠0→w'=w)∧
   (er=0→∃q' B' D',GS w w' b N lv (lift tl N e.toNat) q' B' D' ky∧((SF q (2*e.toNat) (2*e.toNat+1)→cB B' N=cB B N-1)∧(¬SF q (2*e.toNat) (2*e.toNat+1)→cB B' N=cB B N)))) ?_).mono (by rintro e w' ⟨v,rfl,rfl,k⟩;exact ⟨rfl,k⟩)
 unfold Qn7
 have hsz:=h.sz
 have cb:=h.cb
 have hM:=cb.mp
 have hx0:=h.toMR.x
 refine (Qva hx0).mono ?_
 rintro r w3 ⟨rfl,rfl⟩
 rw [hk]
 refine ⟨_,rfl,Qan (fun k=>⟨rfl,fun _=>rfl,fun j=>absurd j k⟩) (fun k=>?_)⟩
 subst k
 obtain ⟨e,rfl,he⟩:∃x:Nat,e=x∧Laid tl N x:=by
  unfold eE at hk
  split at hk
  ·refine ⟨e.toNat,by omega,?_⟩
   split at hk
   ·assumption
   ·cases hk
  ·cases hk
 rw [Int.toNat_natCast] at *
 have heN:=hM.Qcb he
 refine (x_loose hx0 cb h.mm h.kI he).mono ?_
 rintro r w4 ⟨one,rfl,hone,B',D',xs4,cb4,mm4,hno,hcB⟩
 refine ⟨_,_,rfl,Qan (fun k=>absurd rfl k) fun _=>(x_undo xs4.a hM he cb4.fq (fun k=>hone.1 k) hno).mono ?_⟩
 rintro r w5 ⟨rfl,q',xs5,hf⟩
 refine ⟨_,rfl,Qan (fun k=>absurd rfl k) fun _=>pt_i ?_⟩
 have xs6:=xs4.trans xs5
 have b1:=cE_bd (tl:=tl) (N:=N)
 rw [Qaf,Qaf]
 refine Qaj (n:=cE tl N) xs6.a.r rfl (pt_i ?_)
 rw [Qaf,Qaf,wrap64_in (by omega) (by omega)]
 refine Qdb xs6.a.r (by simp [mrow]) rfl fun w7 c7 rm=>pt_i ?_
 have xs7:=xs6.trans (xs6.a.cnt (E':=cE tl N-1) c7 rm)
 rw [Qaf]
 refine Qa7 xs7.a.r rfl ((t_Lift xs7.a.t hM he).mono ?_)
 rintro r w8 ⟨rfl,ts⟩
 have xs8:=xs7.trans (xs7.a.turn ts)
 obtain ⟨nd,lt,_,al⟩:=xs8.a.w.nodup
 have hlaid:∀{i},Laid (lift tl N e) N i↔i≠e∧Laid tl N i:=fun {i}=>by
  unfold Laid;rw [(hM.liftM he).2]
  constructor
  ·rintro ⟨k1,k2,k3⟩;exact ⟨by omega,k3⟩
  ·rintro ⟨k1,k3⟩;exact ⟨by omega,by omega,k3⟩
 refine ⟨_,rfl,rfl,fun k=>absurd rfl k,fun _=>⟨q',B',D',⟨xs8.c,?_,cb4.lift he hf nd al lt,?_,fun x hx k=>?_,fun i hi=>h.ki i (hlaid.1 hi).2⟩,fun j=>?_,fun j=>?_⟩⟩
 ·have:=xs8.a
  rw [←cE_lift hM he] at this
  exact this.m
 ·intro g f p r _ hg hfD k
  have hfe:f≠e:=by rintro rfl;have:=(cb4.li _ rfl).2;rw [hfD] at this;cases this
  obtain ⟨h3,_⟩:=hM.Qs2 he
  rw [h3 _ (by omega) (by omega),h3 _ (by omega) (by omega)] at k
  exact mm4 g f p r (fun h=>h) hg hfD k
 ·refine h.ll x hx fun j=>k ?_
  have sub:∀{tl:Nat→List Nat} {v d:Nat},tl x=[]→lift1 tl v d x=[]:=fun {tl v d} j=>by
   by_cases hxv:x=v
   ·subst hxv;rw [Qos,j];rfl
   ·rw [Qrg hxv];exact j
  exact sub (sub j)
 ·rw [hcB,if_pos (hone.2 j)]
 ·rw [hcB,if_neg (fun k=>j (hone.1 k))];omega
theorem MM.key {e:Nat} {z:Int} (h:MM N tl B D ky fun i=>i=e) (hD:D e=none):MM N tl B D (upd ky e z) fun i=>i=e:=fun g f p r hge hg hf k=>by
 have hfe:f≠e:=by rintro rfl;rw [hD] at hf;cases hf
 rw [Qak _ _ hge,Qak _ _ hfe]
 exact h g f p r hge hg hf k
theorem Qvu {e z:Int} (h:GM w.heap b N lv tl q B D ky) (hz:-2147483648≤z∧z≤2147483647) :
  Calls Pg Qe0 #[.pointer (some ⟨b.M,0,none⟩),.int .i64 e,.int .i32 z] w fun r w'=>r=.returned (errV (eE tl N e))∧(eE tl N e≠0→w'=w)∧
   (eE tl N e=0→∃B' D',GS w w' b N lv tl q B' D' (upd ky e.toNat (z*1048576+e.toNat))):=by
 generalize hk:eE tl N e=er
 refine (Qqw _ _ _ _ (fun v' w'=>v'=errV er∧(er≠0→w'=w)∧(er=0→∃B' D',GS w w' b N lv tl q B' D' (upd ky e.toNat (z*1048576+e.toNat)))) ?_).mono (by rintro e w' ⟨v,rfl,rfl,k⟩;exact ⟨rfl,k⟩)
 unfold Qm0
 have hsz:=h.sz
 have cb:=h.cb
 have hM:=cb.mp
 have hx0:=h.toMR.x
 refine (Qva hx0).mono ?_
 rintro r w3 ⟨rfl,rfl⟩
 rw [hk]
 refine ⟨_,rfl,Qan (fun k=>⟨rfl,fun _=>rfl,fun j=>absurd j k⟩) (fun k=>?_)⟩
 subst k
 obtain ⟨e,rfl,he⟩:∃x:Nat,e=x∧Laid tl N x:=by
  unfold eE at hk
  split at hk
  ·refine ⟨e.toNat,by omega,?_⟩
   split at hk
   ·assumption
   ·cases hk
  ·cases hk
 rw [Int.toNat_natCast] at *
 have heN:=hM.Qcb he
 have hki:∀i,Laid tl N i→∃w:Int,-2147483648≤w∧w≤2147483647∧upd ky e (z*1048576+e) i=w*1048576+i:=fun i hi=>by
  by_cases hie:i=e
  ·subst hie;exact ⟨z,hz.1,hz.2,Qab _ _ _⟩
  ·rw [Qak _ _ hie];exact h.ki i hi
 have kI':KI N tl (upd ky e (z*1048576+e)):=fun i j hi hj k=>by
  obtain ⟨w1,_,_,e1⟩:=hki i hi
  obtain ⟨w2,_,_,e2⟩:=hki j hj
  have:=hM.Qcb hi
  have:=hM.Qcb hj
  omega
 have fin:∀{B' D'} {w':World},XS w3 w' b N lv tl q B' D' (upd ky e (z*1048576+e)) (cE tl N)→CB (fun _=>False) N tl q B' D'→MM N tl B' D' (upd ky e (z*1048576+e)) (fun _=>False)→GS w3 w' b N lv tl q B' D' (upd ky e (z*1048576+e)):=fun xs k1 k2=>⟨xs.c,xs.a.m,k1,k2,h.ll,hki⟩
 refine (e_Key hz (by omega)).mono ?_
 rintro r w4 ⟨rfl,rfl⟩
 refine ⟨_,_,rfl,Qan (fun k=>absurd rfl k) fun _=>pt_i ?_⟩
 rw [Qaf]
 refine Qa7 hx0.r rfl ((Qt5 hx0.w heN).mono ?_)
 rintro r w5 ⟨rfl,rfl⟩
 refine ⟨_,rfl,Qag (fun k=>pt_i ?_) (fun k=>?_)⟩
 ·obtain ⟨p,hD⟩:=Option.isSome_iff_exists.1 k
  obtain ⟨_,rfl⟩:=cb.bD e p hD
  rw [Qaf]
  refine Qa7 hx0.r rfl ((Qvx hx0.w heN hD).mono ?_)
  rintro r w6 ⟨rfl,ws⟩
  have xs6:=hx0.web ws
  have cb6:CB (fun i=>i=e) N tl q B (upd D e none):=(cb.untie hD).lims fun i=>⟨fun k=>k.elim False.elim id,.inr⟩
  obtain ⟨hBe,hDe⟩:=cb6.li e rfl
  refine ⟨_,rfl,Qan (fun k=>absurd rfl k) fun _=>pt_i ?_⟩
  rw [Qaf]
  refine Qba xs6.a.r rfl (Qb3 heN ?_)
  rw [Nat.zero_add,Nat.mul_one]
  refine Qdb xs6.a.k (by rw [Qaq _ Qxj];omega) rfl fun w7 c7 rk=>?_
  rw [kc_set heN] at rk
  have xs7:=xs6.trans (xs6.a.keyed c7 rk hBe hDe (by omega))
  refine (Qy3 xs7.a cb6 ?_ kI' he (h.cj.hang he) (h.cj.fD e _ _ hD)).mono ?_
  ·intro g f p r _ hg hf k
   obtain ⟨hfe,hf⟩:=Qdq hf
   have hge:g≠e:=by rintro rfl;rw [hBe] at hg;cases hg
   rw [Qak _ _ hge,Qak _ _ hfe]
   exact h.mm g f p r (fun h=>h) hg hf k
  rintro r w8 ⟨rfl,B',D',xs8,cb8,mm8⟩
  exact ⟨_,rfl,rfl,fun k=>absurd rfl k,fun _=>⟨B',D',fin (xs7.trans xs8) cb8 mm8⟩⟩
 ·have hDe:D e=none:=by cases hD:D e with
   | none=>rfl
   | some p=>rw [hD] at k;cases k
  obtain ⟨p,hB⟩:∃p,B e=some p:=by
   rcases cb.cov e he with j | j | j
   ·exact j.elim
   ·exact Option.isSome_iff_exists.1 j
   ·rw [hDe] at j;cases j
  obtain ⟨_,rfl,hne⟩:=cb.bB e p hB
  refine (Qtu hx0 hM he hB cb.bd hne).mono ?_
  rintro r w6 ⟨rfl,xs6⟩
  have cb6:CB (fun i=>i=e) N tl q (upd B e none) D:=(cb.Qy8 hB).lims fun i=>⟨fun k=>k.elim False.elim id,.inr⟩
  refine ⟨_,rfl,Qan (fun k=>absurd rfl k) fun _=>pt_i ?_⟩
  rw [Qaf]
  refine Qba xs6.a.r rfl (Qb3 heN ?_)
  rw [Nat.zero_add,Nat.mul_one]
  refine Qdb xs6.a.k (by rw [Qaq _ Qxj];omega) rfl fun w7 c7 rk=>?_
  rw [kc_set heN] at rk
  have xs7:=xs6.trans (xs6.a.keyed c7 rk (Qab _ _ _) hDe (by omega))
  refine (x_open xs7.a cb6 hB h.cj.fB ((h.mm.mono fun _ h=>h.elim).key hDe) kI' he (h.cj.link he)).mono ?_
  rintro r w8 ⟨rfl,B',D',xs8,cb8,mm8⟩
  exact ⟨_,rfl,rfl,fun k=>absurd rfl k,fun _=>⟨B',D',fin (xs7.trans xs8) cb8 mm8⟩⟩
end
end Core
end Go.Proofs.YtpmicakdjhoafaaGreatDoor
namespace Go.Proofs.YtpmicakdjhoafaaGreatDoor
open Go Go.RowKit
namespace Core
open Go.Proofs.YtpmicakdjhoafaaGreatDoor.Seq Go.Proofs.YtpmicakdjhoafaaGreatDoor.Cut Go.Proofs.YtpmicakdjhoafaaGreatDoor.Web
section
variable {w₀ w w':World} {b:Bk} {N:Nat} {lv:Nat→Bool} {tl:Nat→List Nat} {q:List (List Nat)} {B D:Nat→Option (Nat × Nat)} {ky:Nat→Int}
theorem err_j {c:Int} {X Y:Prop} (h:c=0→X) (k:c≠0→Y):isI (errV c)∧bif (nilI (errV c)) then X else Y:=by
 refine ⟨Qio c,?_⟩
 have e:=Qin c
 by_cases hc:c=0
 ·rw [show nilI (errV c)=true by rw [hc];rfl];exact h hc
 ·rw [show nilI (errV c)=false by rw [e];simp [hc]];exact k hc
theorem Qwm {e:Int} (hk:eE tl N e=0):∃x:Nat,e=x∧Laid tl N x:=by
 unfold eE at hk
 split at hk
 ·refine ⟨e.toNat,by omega,?_⟩
  split at hk
  ·assumption
  ·cases hk
 ·cases hk
theorem eE_of {e:Nat} (hN:e<N) (h:Laid tl N e):eE tl N e=0:=by unfold eE;rw [if_pos (by omega),Int.toNat_natCast,if_pos h]
theorem Qvv {e:Int} (h:GM w.heap b N lv tl q B D ky):Calls Pg Qed #[.pointer (some ⟨b.M,0,none⟩),.int .i64 e] w fun r w'=>w'=w∧∃z,r=.returned (.tuple #[.bool z,errV (eE tl N e)])∧(eE tl N e≠0→z=false)∧(eE tl N e=0→z=(B e.toNat).isSome):=by
 refine (Qpy _ _ _ (fun v' w'=>w'=w∧∃z,v'=.tuple #[.bool z,errV (eE tl N e)]∧(eE tl N e≠0→z=false)∧(eE tl N e=0→z=(B e.toNat).isSome)) ?_).mono (by rintro r w' ⟨v,rfl,k,z,rfl,j⟩;exact ⟨k,z,rfl,j⟩)
 unfold Ql2
 have hx0:=h.toMR.x
 refine (Qva hx0).mono ?_
 rintro r w3 ⟨rfl,rfl⟩
 refine ⟨_,rfl,Qan (fun k=>⟨rfl,_,rfl,fun _=>rfl,fun j=>absurd j k⟩) (fun k=>pt_i ?_)⟩
 obtain ⟨x,rfl,hl⟩:=Qwm k
 have hN:=h.cb.mp.Qcb hl
 rw [Qaf]
 refine Qa7 hx0.r rfl ((Qt5 hx0.w hN).mono ?_)
 rintro r w4 ⟨rfl,rfl⟩
 refine ⟨_,rfl,rfl,!(D x).isSome,by rw [k];rfl,fun j=>absurd k j,fun _=>?_⟩
 rw [Int.toNat_natCast]
 rcases h.cb.cov x hl with j | j | j
 ·exact j.elim
 ·rw [j]
  rcases h.cb.ex x with i | i
  ·rw [i] at j;cases j
  ·rw [i];rfl
 ·rw [j]
  rcases h.cb.ex x with i | i
  ·rw [i];rfl
  ·rw [i] at j;cases j
theorem x_Weight {e:Int} (h:GM w.heap b N lv tl q B D ky):Calls Pg Qim #[.pointer (some ⟨b.M,0,none⟩),.int .i64 e] w fun r w'=>w'=w∧∃z,r=.returned (.tuple #[.int .i32 z,errV (eE tl N e)])∧(eE tl N e≠0→z=0)∧(eE tl N e=0→z=ky e.toNat/1048576):=by
 refine (Qpx _ _ _ (fun v' w'=>w'=w∧∃z,v'=.tuple #[.int .i32 z,errV (eE tl N e)]∧(eE tl N e≠0→z=0)∧(eE tl N e=0→z=ky e.toNat/1048576)) ?_).mono (by rintro r w' ⟨v,rfl,k,z,rfl,j⟩;exact ⟨k,z,rfl,j⟩)
 unfold Ql1
 have hx0:=h.toMR.x
 refine (Qva hx0).mono ?_
 rintro r w3 ⟨rfl,rfl⟩
 refine ⟨_,rfl,Qan (fun k=>⟨rfl,_,rfl,fun _=>rfl,fun j=>absurd j k⟩) (fun k=>pt_i ?_)⟩
 obtain ⟨x,rfl,hl⟩:=Qwm k
 have hN:=h.cb.mp.Qcb hl
 rw [Qaf]
 refine Qba h.r rfl (Qb3 hN ?_)
 rw [Nat.zero_add,Nat.mul_one]
 refine Qaj (n:=ky x) h.k (Qsc hN) ((Qwl (h.kb x)).mono ?_)
 rintro r w4 ⟨rfl,rfl⟩
 exact ⟨_,rfl,rfl,_,by rw [k];rfl,fun j=>absurd k j,fun _=>by rw [Int.toNat_natCast]⟩
theorem x_Sum (h:GM w.heap b N lv tl q B D ky):Calls Pg Qe1 #[.pointer (some ⟨b.M,0,none⟩)] w fun r w'=>r=.returned (.int .i64 (sB B ky N))∧w'=w:=by
 refine (Qsp _ _ (fun v' w'=>v'=.int .i64 (sB B ky N)∧w'=w) ?_).mono (by rintro e w' ⟨v,rfl,rfl,k⟩;exact ⟨rfl,k⟩)
 unfold Qop
 refine Qag (fun k=>by cases k) fun _=>pt_i ?_
 rw [Qaf]
 exact Qaj h.r rfl ⟨rfl,rfl⟩
end
end Core
end Go.Proofs.YtpmicakdjhoafaaGreatDoor
