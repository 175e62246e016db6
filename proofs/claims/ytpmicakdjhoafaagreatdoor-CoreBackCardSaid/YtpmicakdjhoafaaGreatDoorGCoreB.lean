/-
What stands round places (layer 10's program): corners, darts put and taken, edges laid and lifted.
Conditions: those that each theorem states.
-/
import Derived.Test.YtpmicakdjhoafaaGreatDoorGTurn
set_option linter.unusedVariables false
set_option linter.unusedSimpArgs false
namespace Go.Proofs.YtpmicakdjhoafaaGreatDoor
open Go Go.RowKit
theorem Qdb {b o:Nat} {e:TypeId} {cs:List Value} {v:Value} {w:World} {K:World→Prop} (r:Row w.heap b e cs) (h:o<cs.length) (hv:oneC v=true) (k:∀w',Chg (·=b) w w'→Row w'.heap b e (cs.set o v)→K w'):sto ⟨b,o,none⟩ v w K:=
 Qdu r h hv fun r'=>k _ ((Chg.refl _ _).setCell _ _ (.inl rfl)) r'
theorem Qa2 {cs:Array Value} {e:TypeId} {w:World} {K:Addr→World→Prop} (k:∀A w',w.heap.size≤A→Chg Qac w w'→Row w'.heap A e cs.toList→K ⟨A,0,none⟩ w'):alo cs e w K:=
 Qa9 fun r=>k _ _ (Nat.le_refl _) ((Chg.refl _ _).alloc _) r
namespace Core
open Go.Proofs.YtpmicakdjhoafaaGreatDoor.Seq Go.Proofs.YtpmicakdjhoafaaGreatDoor.Cut Go.Proofs.YtpmicakdjhoafaaGreatDoor.Web
section
variable {w₀ w w':World} {T TD TL TM N d e u v b:Nat} {be ce:Int} {tl tl':Nat→List Nat} {o nx pv ls ms o' nx' pv' ls' ms':Nat→Int}
def oE (tl:Nat→List Nat) (N:Nat) (v be:Int):Int:=if 0≤v∧v<N then (if (be=-1∧tl v.toNat=[])∨(0≤be∧be.toNat∈tl v.toNat) then 0 else 13) else 12
theorem TQ.at_iff (hq:TQ N tl o nx pv ls ms) (hv:v<N) (hd:d<2*N):o d=v↔d∈tl v:=by
 constructor
 ·intro h
  have hm:d∈dl tl N:=Classical.byContradiction fun k=>by have:=hq.of d hd k;omega
  have:=(hq.on d hm).1
  have h2:=(Qcc hm).2
  rwa [show og tl N d=v by omega] at h2
 ·intro h
  have hm:d∈dl tl N:=Qbq.2 ⟨v,hv,h⟩
  rw [(hq.on d hm).1,hq.nd.ogE hv h]
theorem Qx6 {v be:Int} (h:TB w.heap T TD TL TM N tl):Calls Pg Qdn #[.pointer (some ⟨T,0,none⟩),.agg #[.int .i64 v,.int .i64 be]] w fun r w'=>r=.returned (errV (oE tl N v be))∧Chg Qac w w':=by
 refine (Qob _ _ _ _ (fun v' w'=>v'=errV (oE tl N v be)∧Chg Qac w w') ?_).mono (by rintro e w' ⟨v,rfl,rfl,k⟩;exact ⟨rfl,k⟩)
 unfold Qkj
 refine Qa2 fun A w1 _ c1 ra=>Qaj (n:=v) ra rfl ((Qza (h.nob c1)).mono ?_)
 rintro r w3 ⟨rfl,rfl⟩
 unfold oE
 refine ⟨_,rfl,Qan (fun e=>?_) (fun e=>?_)⟩
 ·split at e
  ·exact absurd rfl e
  ·rename_i h0;rw [if_neg h0,if_neg h0];exact ⟨rfl,c1⟩
 have h0:0≤v∧v<N:=Classical.byContradiction fun k=>by rw [if_neg k] at e;cases e
 rw [if_pos h0]
 clear e
 obtain ⟨v,rfl⟩:∃x:Nat,v=x:=⟨v.toNat,by omega⟩
 have hv:v<N:=by omega
 rw [Int.toNat_natCast]
 obtain ⟨o,nx,pv,ls,ms,hr,hq⟩:=h
 have hsz:=hr.sz
 have c2:Chg Qac w3 w3.drew:=(Chg.refl _ _).drew
 refine ⟨fun vs w'=>vs=[.bool (decide (be=-1∧tl v=[]))]∧Chg Qac w3 w',?_,?_⟩
 ·have hr2:=(hr.nob c1).nob c2
  have ra2:=c2.row (fun h=>h) ra
  generalize w3.drew=w4 at *
  refine Qaj (n:=be) ra2 rfl (Qag (fun hb=>pt_i (Qba hr2.r rfl (Qaj (n:=v) ra2 rfl (Qb3 hv (Qaj (n:=ms v) hr2.m (by rw [Nat.zero_add,Nat.mul_one];exact Qun hv) ⟨?_,c2⟩))))) (fun hb=>⟨?_,c2⟩))<;>simp only [b1s] at hb
  ·have h1:=hq.m v hv
   have h2:tl v=[]↔(tl v).length=0:=List.length_eq_zero_iff.symm
   congr 2
   rw [Bool.eq_iff_iff,beq_iff_eq,decide_eq_true_iff,h2]
   omega
  ·rw [decide_eq_false (fun k=>hb k.1)]
 rintro _ b w4 ⟨hb,c3⟩
 simp only [List.cons.injEq,Value.bool.injEq,and_true] at hb
 subst hb
 refine Qag (fun hb=>?_) (fun hb=>?_)
 ·rw [if_pos (.inl (of_decide_eq_true hb))];exact ⟨rfl,c1.trans c3⟩
 have hb':=of_decide_eq_false hb
 have c4:Chg Qac w3 w4.drew:=c3.drew
 have hr2:=(hr.nob c1).nob c4
 have ra2:=c4.row (fun h=>h) ra
 generalize w4.drew=w5 at *
 have c5:=c1.trans c4
 rw [Qaf]
 refine Qaj (n:=be) ra2 rfl (Qag (fun h1=>?_) (fun h1=>Qaj (n:=be) ra2 rfl (pt_i (Qba hr2.r rfl (Qag (fun h2=>?_) (fun h2=>?_))))))<;>simp only [b1s] at *
 ·rw [if_neg (fun k=>k.elim hb' fun k=>by omega)];exact ⟨rfl,c5⟩
 ·rw [if_neg]
  ·exact ⟨rfl,c5⟩
  rintro (k | ⟨k1,k2⟩)
  ·exact hb' k
  ·have:=hq.nd.lt _ (Qbq.2 ⟨v,hv,k2⟩)
   omega
 ·obtain ⟨x,rfl⟩:∃x:Nat,be=x:=⟨be.toNat,by omega⟩
  have hx:x<2*N:=by omega
  have ho:-1≤o x∧o x<1048576:=by
   by_cases hm:x∈dl tl N
   ·have:=(hq.on x hm).1
    have:=(Qcc hm).1
    omega
   ·have:=hq.of x hx hm
    omega
  refine pt_i (Qba hr2.r rfl (Qaj (n:=x) ra2 rfl (Qb3 hx ?_)))
  rw [Nat.zero_add]
  refine Qaj (n:=o x) hr2.d (Qsh (k:=0) hx (by omega)) (Qaj (n:=v) ra2 rfl ?_)
  rw [wrap64_in (by omega) (by omega),Int.toNat_natCast]
  refine Qag (fun h3=>?_) (fun h3=>?_)<;>simp only [b1s] at h3
  ·rw [if_neg]
   ·exact ⟨rfl,c5⟩
   rintro (k | ⟨_,k⟩)
   ·omega
   ·exact h3 ((hq.at_iff hv hx).2 k)
  ·rw [if_pos (.inr ⟨by omega,(hq.at_iff hv hx).1 h3⟩)];exact ⟨rfl,c5⟩
theorem TR.inM (h:TR w.heap T TD TL TM N o nx pv ls ms) (c:Chg (·=TM) w w') (r:Row w'.heap TM Qbb (recs (ic ms') N)):TR w'.heap T TD TL TM N o nx pv ls ms':=
 ⟨c.row h.ne.2.2.1 h.r,c.row h.ne.2.2.2.2.1 h.d,c.row h.ne.2.2.2.2.2 h.l,r,h.ne,h.sz⟩
theorem TR.inL (h:TR w.heap T TD TL TM N o nx pv ls ms) (c:Chg (·=TL) w w') (r:Row w'.heap TL Qbb (recs (ic ls') N)):TR w'.heap T TD TL TM N o nx pv ls' ms:=
 ⟨c.row h.ne.2.1 h.r,c.row h.ne.2.2.2.1 h.d,r,c.row (fun e=>h.ne.2.2.2.2.2 e.symm) h.m,h.ne,h.sz⟩
theorem TR.inD (h:TR w.heap T TD TL TM N o nx pv ls ms) (c:Chg (·=TD) w w') (r:Row w'.heap TD Qb5 (recs (dc o' nx' pv') (2*N))):TR w'.heap T TD TL TM N o' nx' pv' ls ms:=
 ⟨c.row h.ne.1 h.r,r,c.row (fun e=>h.ne.2.2.2.1 e.symm) h.l,c.row (fun e=>h.ne.2.2.2.2.1 e.symm) h.m,h.ne,h.sz⟩
theorem ins_len:(ins be d (tl v)).length=(tl v).length+1:=by rw [Qh8.length_eq];rfl
theorem ins_ne:ins be d (tl v)≠[]:=fun h=>by have:=congrArg List.length h;rw [ins_len] at this;simp at this
theorem Qxd:put1 tl v be d v=ins be d (tl v):=Qab _ _ _
theorem Qoq {u:Nat} (h:u≠v):put1 tl v be d u=tl u:=Qak _ _ h
theorem TQ.put (hq:TQ N tl o nx pv ls ms) (hv:v<N) (hd:d∉dl tl N) (hd2:d<2*N)
  (hn:∀x,x∈dl (put1 tl v be d) N→nx' x=sg (put1 tl v be d) N x∧∃p,p∈dl (put1 tl v be d) N∧pv' x=(p:Nat)∧sg (put1 tl v be d) N p=x) (hl:∀u,u≠v→ls' u=ls u) (hl2:∃x,x∈put1 tl v be d v∧ls' v=(x:Nat)) :
  TQ N (put1 tl v be d) (upd o d v) nx' pv' ls' (upd ms v (ms v+1)):=by
 refine ⟨hq.nd.putM hv hd hd2,fun x hx hn=>?_,fun x hx=>⟨?_,hn x hx⟩,fun u hu h0=>?_,fun u hu h0=>?_,fun u hu=>?_⟩
 ·rw [Qhi hv,not_or] at hn
  rw [Qak _ _ hn.1];exact hq.of x hx hn.2
 ·rw [hq.nd.og_put hv hd hd2]
  by_cases hxd:x=d
  ·rw [hxd,Qab,if_pos rfl]
  ·rw [Qak _ _ hxd,if_neg hxd]
   exact (hq.on x (((Qhi hv).1 hx).resolve_left hxd)).1
 ·by_cases huv:u=v
  ·subst huv;rw [Qxd] at h0;exact absurd h0 ins_ne
  ·rw [Qoq huv] at h0;rw [hl u huv];exact hq.l0 u hu h0
 ·by_cases huv:u=v
  ·subst huv;exact hl2
  ·rw [Qoq huv] at h0 ⊢;rw [hl u huv];exact hq.l1 u hu h0
 ·by_cases huv:u=v
  ·subst huv;rw [Qab,Qxd,ins_len,hq.m u hu];omega
  ·rw [Qak _ _ huv,Qoq huv];exact hq.m u hu
theorem t_put (h:TB w.heap T TD TL TM N tl) (hv:v<N) (hd:d∉dl tl N) (hd2:d<2*N) (hb:(∃b,b∈tl v∧(b:Int)=be)∨(be=-1∧(tl v=[]∨∃b,tl v=[b]))) :
  Calls Pg Qgr #[.pointer (some ⟨T,0,none⟩),.int .i32 d,.agg #[.int .i64 v,.int .i64 be]] w fun r w'=>r=.returned (.tuple #[])∧TS w w' T TD TL TM N (put1 tl v be d):=by
 refine (Qqk _ _ _ _ _ (fun v' w'=>v'=.tuple #[]∧TS w w' T TD TL TM N (put1 tl v be d)) ?_).mono (by rintro e w' ⟨v,rfl,rfl,k⟩;exact ⟨rfl,k⟩)
 unfold Qmo
 obtain ⟨o,nx,pv,ls,ms,hr,hq⟩:=h
 have hsz:=hr.sz
 have hne:=hr.ne
 have hbd:∀{b},b∈tl v→b<2*N:=fun h=>hq.nd.lt _ (Qbq.2 ⟨v,hv,h⟩)
 have hbe:-1≤be∧be<2*N:=by
  rcases hb with ⟨b,h1,rfl⟩ | ⟨rfl,_⟩
  ·have:=hbd h1;omega
  ·omega
 have key:(tl v=[]∧(if be=-1 then ls v else be)=-1)∨∃b,b∈tl v∧(if be=-1 then ls v else be)=(b:Nat)∧∀z,sg (put1 tl v be d) N z=sw d (sg tl N b) (sg tl N z):=by
  rcases hb with ⟨b,h1,rfl⟩ | ⟨rfl,h1 | ⟨b,h1⟩⟩
  ·exact .inr ⟨b,h1,if_neg (by omega),fun z=>hq.nd.Qub hv hd hd2 h1 rfl⟩
  ·exact .inl ⟨h1,by rw [if_pos rfl];exact hq.l0 v hv h1⟩
  ·obtain ⟨x,hx,e1⟩:=hq.l1 v hv (by rw [h1];simp)
   rw [h1,List.mem_singleton] at hx
   subst hx
   have hm:x∈tl v:=by rw [h1];simp
   have e2:sg tl N x=x:=by rw [hq.nd.sgE hv hm,h1,Quh]
   exact .inr ⟨x,hm,by rw [if_pos rfl];exact e1,fun z=>by rw [e2];exact hq.nd.sg_put1 hv hd hd2 h1 (by omega)⟩
 have hms:0≤ms v∧ms v≤2097152:=by
  have h1:=hq.m v hv
  have h2:=deg_le ⟨o,nx,pv,ls,ms,hr,hq⟩ hv
  omega
 refine Qa2 fun A w5 hA c5 ra=>?_
 rw [Qaf]
 refine Qaj (n:=be) ra rfl ?_
 rw [wrap32_in (by omega) (by omega)]
 refine ⟨fun vs w'=>vs=[.int .i32 (if be=-1 then ls v else be)]∧Chg Qac w5 w',?_,?_⟩
 ·refine Qag (fun k=>pt_i ?_) (fun k=>?_)<;>simp only [b1s] at k
  ·have c6:Chg Qac w5 w5.drew:=(Chg.refl _ _).drew
   have hr2:=(hr.nob c5).nob c6
   have ra2:=c6.row (fun h=>h) ra
   generalize w5.drew=w6 at *
   rw [Qaf]
   refine Qba hr2.r rfl (Qaj (n:=v) ra2 rfl (Qb3 hv (Qaj (n:=ls v) hr2.l (by rw [Nat.zero_add,Nat.mul_one];exact Qun hv) ⟨?_,c6⟩)))
   rw [if_pos k]
  ·exact ⟨by rw [if_neg k],Chg.refl _ _⟩
 rintro _ b' w7 ⟨hb',c7⟩
 simp only [List.cons.injEq,Value.int.injEq,and_true,true_and] at hb'
 subst hb'
 generalize (if be=-1 then ls v else be)=b' at *
 have c8:Chg Qac w w7.drew:=c5.trans c7.drew
 have hr2:=hr.nob c8
 have ra2:=(c7.drew).row (fun h=>h) ra
 generalize w7.drew=w8 at *
 clear hb c7 c5
 have hA2:A≠TM∧A≠TD∧A≠TL:=by
  have:=hr.m.lt;have:=hr.d.lt;have:=hr.l.lt
  omega
 refine pt_i ?_
 rw [Qaf]
 refine Qba hr2.r rfl (Qaj (n:=v) ra2 rfl (Qb3 hv (Qaj (n:=ms v) hr2.m (by rw [Nat.zero_add,Nat.mul_one];exact Qun hv) (Qb3 hv ?_))))
 rw [Nat.zero_add,Nat.mul_one,wrap32_in (by omega) (by omega)]
 refine Qdb hr2.m (by rw [Qaq _ Qtr];omega) rfl fun w9 c9 rm=>?_
 rw [Qvj hv] at rm
 have hr3:=hr2.inM c9 rm
 have ra3:=c9.row hA2.1 ra2
 have c10:Chg (fun k=>k=TD∨k=TL∨k=TM) w w9:=c8.weak.trans (c9.mono fun _ _ e=>.inr (.inr e))
 clear hr2 ra2 c8 c9 rm
 have hdn:∀x,x∈dl tl N→x≠d:=fun x hx e=>hd (e ▸ hx)
 have hvi:IntKind.i32.wrap (v:Int)=v:=wrap32_in (by omega) (by omega)
 refine Qag (fun k=>pt_i ?_) (fun k=>pt_i ?_)<;>simp only [b1s] at k
 ·obtain ⟨h0,_⟩:=key.resolve_right (by rintro ⟨b,_,h,_⟩;omega)
  have c11:Chg Qac w9 w9.drew:=(Chg.refl _ _).drew
  have hr4:=hr3.nob c11
  have ra4:=c11.row (fun h=>h) ra3
  have c12:=c10.trans c11.weak
  generalize w9.drew=w10 at *
  refine Qba hr4.r rfl (Qaj (n:=v) ra4 rfl (Qb3 hd2 ?_))
  rw [Nat.zero_add,Qaf,Qaf,hvi]
  refine Qdb hr4.d (by rw [Qaq _ Qiy];omega) rfl fun w11 c13 r1=>?_
  rw [Qs9 hd2] at r1
  refine Qdb r1 (by rw [Qaq _ Qiy];omega) rfl fun w12 c14 r2=>?_
  rw [Qwo hd2] at r2
  refine Qdb r2 (by rw [Qaq _ Qiy];omega) rfl fun w13 c15 r3=>pt_i ?_
  rw [Qwn hd2] at r3
  have c16:=(c13.trans c14).trans c15
  have hr5:=hr4.inD c16 r3
  have ra5:=c16.row hA2.2.1 ra4
  have c17:Chg Qac w13 w13.drew:=(Chg.refl _ _).drew
  have hr6:=hr5.nob c17
  have ra6:=c17.row (fun h=>h) ra5
  have c18:=(c12.trans (c16.mono fun _ _ e=>.inl e)).trans c17.weak
  generalize w13.drew=w14 at *
  rw [Qaf]
  refine Qba hr6.r rfl (Qaj (n:=v) ra6 rfl (Qb3 hv ?_))
  rw [Nat.zero_add,Nat.mul_one]
  refine Qdb hr6.l (by rw [Qaq _ Qtr];omega) rfl fun w15 c19 r4=>⟨rfl,c18.trans (c19.mono fun _ _ e=>.inr (.inl e)),?_⟩
  rw [Qvj hv] at r4
  refine ⟨_,_,_,_,_,hr6.inL c19 r4,hq.put hv hd hd2 (fun x hx=>?_) (fun u hu=>Qak _ _ hu) ⟨d,?_,Qab _ _ _⟩⟩
  ·have e1:∀z,sg (put1 tl v be d) N z=sg tl N z:=fun z=>hq.nd.Qrc hv hd hd2 h0
   simp only [e1]
   rcases (Qhi hv).1 hx with rfl | hx
   ·rw [Qab,Qab,Qtk hd];exact ⟨rfl,x,(Qhi hv).2 (.inl rfl),rfl,Qtk hd⟩
   ·rw [Qak _ _ (hdn x hx),Qak _ _ (hdn x hx)]
    obtain ⟨_,h2,p,h3,h4⟩:=hq.on x hx
    exact ⟨h2,p,(Qhi hv).2 (.inr h3),h4⟩
  ·rw [Qxd,Qh8.mem_iff];simp
 ·obtain ⟨b,hbm,e1,hsg⟩:=key.resolve_left (fun h=>k h.2)
  subst e1
  have hb2:=hbd hbm
  have hbl:b∈dl tl N:=Qbq.2 ⟨v,hv,hbm⟩
  have hs2:=hq.nd.lt _ (hq.nd.Qeo hbl).1
  have hsl:=(hq.nd.Qeo hbl).1
  have e2:=(hq.on b hbl).2.1
  refine Qba hr3.r rfl (Qb3 hb2 ?_)
  rw [Nat.zero_add,Qaf]
  refine Qaj (n:=nx b) hr3.d (Qsh (k:=1) hb2 (by omega)) (pt_i ?_)
  rw [e2]
  have c11:Chg Qac w9 w9.drew:=(Chg.refl _ _).drew
  have hr4:=hr3.nob c11
  have ra4:=c11.row (fun h=>h) ra3
  have c12:=c10.trans c11.weak
  generalize w9.drew=w10 at *
  refine Qba hr4.r rfl (Qaj (n:=v) ra4 rfl (Qb3 hd2 ?_))
  rw [Nat.zero_add,Qaf,Qaf,hvi]
  refine Qdb hr4.d (by rw [Qaq _ Qiy];omega) rfl fun w11 c13 r1=>?_
  rw [Qs9 hd2] at r1
  refine Qdb r1 (by rw [Qaq _ Qiy];omega) rfl fun w12 c14 r2=>?_
  rw [Qwo hd2] at r2
  refine Qdb r2 (by rw [Qaq _ Qiy];omega) rfl fun w13 c15 r3=>pt_i ?_
  rw [Qwn hd2] at r3
  have c16:=(c13.trans c14).trans c15
  have hr5:=hr4.inD c16 r3
  have c17:Chg Qac w13 w13.drew:=(Chg.refl _ _).drew
  have hr6:=hr5.nob c17
  have c18:=(c12.trans (c16.mono fun _ _ e=>.inl e)).trans c17.weak
  generalize w13.drew=w14 at *
  refine Qba hr6.r rfl (pt_i (Qba hr6.r rfl (Qb3 hb2 ?_)))
  rw [Nat.zero_add,Qaf]
  refine Qdb hr6.d (by rw [Qaq _ Qiy];omega) rfl fun w15 c19 r4=>Qb3 hs2 ?_
  rw [Qwo hb2] at r4
  rw [Nat.zero_add,Qaf]
  refine Qdb r4 (by rw [Qaq _ Qiy];omega) rfl fun w16 c20 r5=>⟨rfl,c18.trans ((c19.trans c20).mono fun _ _ e=>.inl e),?_⟩
  rw [Qwn hs2] at r5
  refine ⟨_,_,_,_,_,hr6.inD (c19.trans c20) r5,hq.put hv hd hd2 (fun x hx=>?_) (fun u hu=>rfl) ?_⟩
  ·rw [hsg]
   have hsd:sg tl N d=d:=Qtk hd
   have hsbd:=hdn _ hsl
   rcases (Qhi hv).1 hx with rfl | hx
   ·rw [Qak _ _ (hdn b hbl).symm,Qab,hsd,sw_l,Qak _ _ hsbd.symm,Qab]
    exact ⟨rfl,b,(Qhi hv).2 (.inr hbl),rfl,by rw [hsg,sw_r]⟩
   ·have hxd:=hdn x hx
    obtain ⟨_,h2,p,h3,h4,h5⟩:=hq.on x hx
    constructor
    ·by_cases hxb:x=b
     ·rw [hxb,Qab,sw_r]
     ·rw [Qak _ _ hxb,Qak _ _ hxd,h2,sw_o (hdn _ (hq.nd.Qeo hx).1) (fun e=>hxb (hq.nd.Qtl hx hbl e))]
    ·by_cases hxs:x=sg tl N b
     ·refine ⟨d,(Qhi hv).2 (.inl rfl),by rw [hxs,Qab],?_⟩
      rw [hsg,hsd,sw_l,hxs]
     ·refine ⟨p,(Qhi hv).2 (.inr h3),?_,?_⟩
      ·rw [Qak _ _ hxs,Qak _ _ hxd];exact h4
      ·rw [hsg,h5,sw_o hxd hxs]
  ·obtain ⟨x,hx,h1⟩:=hq.l1 v hv (fun e=>by rw [e] at hbm;cases hbm)
   exact ⟨x,by rw [Qxd,Qh8.mem_iff];simp [hx],h1⟩
def Cn (tl:Nat→List Nat) (v:Nat) (be:Int):Prop:=(be=-1∧tl v=[])∨∃b,b∈tl v∧(b:Int)=be
theorem Cn.of (hv:v<N) (h:oE tl N v be=0):Cn tl v be:=by
 unfold oE at h
 rw [if_pos (by omega),Int.toNat_natCast] at h
 split at h
 ·rename_i k
  rcases k with k | ⟨k1,k2⟩
  ·exact .inl k
  ·exact .inr ⟨be.toNat,k2,by omega⟩
 ·cases h
theorem t_Lay (h:TB w.heap T TD TL TM N tl) (hM:MP N tl) (he:e<N) (hn:¬Laid tl N e) (hu:u<N) (hv:v<N) (hb:oE tl N u be=0) (hc:oE tl N v ce=0) :
  Calls Pg Qi9 #[.pointer (some ⟨T,0,none⟩),.int .i64 e,.agg #[.int .i64 u,.int .i64 be],.agg #[.int .i64 v,.int .i64 ce]] w fun r w'=>r=.returned (errV 0)∧TS w w' T TD TL TM N (lay tl e u be v ce):=by
 refine (Qql _ _ _ _ _ _ _ (fun v' w'=>v'=errV 0∧TS w w' T TD TL TM N (lay tl e u be v ce)) ?_).mono (by rintro e w' ⟨v,rfl,rfl,k⟩;exact ⟨rfl,k⟩)
 unfold Qmp
 have hsz:=h.sz
 refine Qa2 fun A w1 hA c1 ra=>Qa2 fun B w2 hB c2 rb=>?_
 have c3:=c1.trans c2
 have ra2:=c2.row (fun h=>h) ra
 have h2:=h.nob c3
 have hB2:w.heap.size≤B:=Nat.le_trans c1.size hB
 clear c1 c2 ra
 refine (Qzb h2).mono ?_
 rintro r w4 ⟨rfl,rfl⟩
 rw [if_pos (by omega)]
 refine ⟨_,rfl,Qan (fun e=>absurd rfl e) (fun _=>(t_Has h2 he).mono ?_)⟩
 rintro r w5 ⟨rfl,rfl⟩
 refine ⟨_,rfl,Qag (fun k=>absurd (of_decide_eq_true k) hn) (fun _=>?_)⟩
 simp only [Qaf]
 refine Qaj (n:=u) ra2 rfl (Qaj (n:=be) ra2 rfl ((Qx6 h2).mono ?_))
 rintro r w6 ⟨rfl,c4⟩
 rw [hb]
 refine ⟨_,rfl,Qan (fun e=>absurd rfl e) (fun _=>?_)⟩
 have ra3:=c4.row (fun h=>h) ra2
 have rb3:=c4.row (fun h=>h) rb
 refine Qaj (n:=v) rb3 rfl (Qaj (n:=ce) rb3 rfl ((Qx6 (h2.nob c4)).mono ?_))
 rintro r w7 ⟨rfl,c5⟩
 rw [hc]
 refine ⟨_,rfl,Qan (fun e=>absurd rfl e) (fun _=>?_)⟩
 have ra4:=c5.row (fun h=>h) ra3
 have rb4:=c5.row (fun h=>h) rb3
 have h4:=(h2.nob c4).nob c5
 have c6:=(c3.trans c4).trans c5
 clear ra2 rb ra3 rb3 h2 c3 c4 c5
 rw [wrap64_in (x:=2*(e:Int)) (by omega) (by omega),wrap64_in (x:=2*(e:Int)+1) (by omega) (by omega),wrap32_in (x:=2*(e:Int)) (by omega) (by omega),wrap32_in (x:=2*(e:Int)+1) (by omega) (by omega),show (2:Int)*e=((2*e:Nat):Int) by omega,show ((2*e:Nat):Int)+1=((2*e+1:Nat):Int) by omega]
 have hcb:=Cn.of hu hb
 have hcc:=Cn.of hv hc
 refine Qaj (n:=u) ra4 rfl (Qaj (n:=be) ra4 rfl ((t_put h4 hu hn (by omega) (hcb.symm.imp_right fun k=>⟨k.1,.inl k.2⟩)).mono ?_))
 rintro r w8 ⟨rfl,ts⟩
 have hlt:=h.lt
 have rb5:=ts.c.row (by intro k;omega) rb4
 obtain ⟨_,hn2⟩:=hM.Quk (be:=be) hn he hu
 refine ⟨rfl,Qaj (n:=v) rb5 rfl (Qaj (n:=ce) rb5 rfl ((t_put ts.a hv hn2 (by omega) ?_).mono ?_))⟩
 ·rcases hcc with ⟨rfl,k⟩ | ⟨c,k1,k2⟩
  ·right
   refine ⟨rfl,?_⟩
   by_cases huv:v=u
   ·subst huv;right;refine ⟨2*e,?_⟩;rw [Qxd,k];rfl
   ·left;rw [Qoq huv];exact k
  ·exact .inl ⟨c,Qyi k1,k2⟩
 ·rintro r w9 ⟨rfl,ts2⟩
  exact ⟨rfl,rfl,(c6.weak.trans ts.c).trans ts2.c,ts2.a⟩
end
end Core
end Go.Proofs.YtpmicakdjhoafaaGreatDoor
namespace Go.Proofs.YtpmicakdjhoafaaGreatDoor
open Go Go.RowKit
namespace Core
open Go.Proofs.YtpmicakdjhoafaaGreatDoor.Seq Go.Proofs.YtpmicakdjhoafaaGreatDoor.Cut Go.Proofs.YtpmicakdjhoafaaGreatDoor.Web
structure MX (h:Array Obj) (b:Bk) (N:Nat) (lv:Nat→Bool) (tl:Nat→List Nat) (q:List (List Nat)) (B D:Nat→Option (Nat × Nat)) (ky:Nat→Int) (E:Int):Prop extends MP0 h b N lv tl q B D ky where
 r:Row h b.M Qhv (mrow b N (cV lv N) E (cV lv N-cB B N) (sB B ky N))
structure XS (w₀ w:World) (b:Bk) (N:Nat) (lv:Nat→Bool) (tl:Nat→List Nat) (q:List (List Nat)) (B D:Nat→Option (Nat × Nat)) (ky:Nat→Int) (E:Int):Prop where
 c:Chg b.ch w₀ w
 a:MX w.heap b N lv tl q B D ky E
section
variable {w₀ w w':World} {b:Bk} {N e g v:Nat} {E E':Int} {lv lv':Nat→Bool} {tl tl':Nat→List Nat} {q q':List (List Nat)} {B B' D D':Nat→Option (Nat × Nat)} {ky ky':Nat→Int}
theorem MR.x {h:Array Obj} (k:MR h b N lv tl q B D ky):MX h b N lv tl q B D ky (cE tl N):=⟨k.toMP0,k.r⟩
theorem MX.m {h:Array Obj} (k:MX h b N lv tl q B D ky (cE tl N)):MR h b N lv tl q B D ky:=⟨k.toMP0,k.r⟩
theorem MX.keep {S:Nat→Prop} (h:MX w.heap b N lv tl q B D ky E) (c:Chg S w w') (hS:∀k,S k→¬b.has k):MX w'.heap b N lv tl q B D ky E:=⟨h.toMP0.keep c hS,c.row (fun s=>hS _ s (by simp [Bk.has])) h.r⟩
theorem MX.nob (h:MX w.heap b N lv tl q B D ky E) (c:Chg Qac w w'):MX w'.heap b N lv tl q B D ky E:=h.keep c fun _ h=>h.elim
theorem MX.start (h:MX w.heap b N lv tl q B D ky E):XS w w b N lv tl q B D ky E:=⟨Chg.refl _ _,h⟩
theorem XS.trans (h:XS w₀ w b N lv tl q B D ky E) (k:XS w w' b N lv' tl' q' B' D' ky' E'):XS w₀ w' b N lv' tl' q' B' D' ky' E':=⟨h.c.trans k.c,k.a⟩
theorem XS.nob (h:XS w₀ w b N lv tl q B D ky E) (c:Chg Qac w w'):XS w₀ w' b N lv tl q B D ky E:=⟨h.c.trans c.weak,h.a.nob c⟩
theorem MX.of (h:MX w.heap b N lv tl q B D ky E) (c:Chg Qac w w'):XS w w' b N lv tl q B D ky E:=h.start.nob c
theorem WB.key {h:Array Obj} {W R F L CF CL EB n t:Nat} (k:WB h W R F L CF CL EB n t q D ky) (hk:∀e p,D e=some p→ky' e=ky e):WB h W R F L CF CL EB n t q D ky':=by
 obtain ⟨v,f,g1,g2⟩:=k.f
 exact ⟨k.r,k.e,k.a,⟨v,f,g1,fun e a b he=>(g2 e a b he).trans (hk e _ he).symm⟩,fun e a b he=>by rw [hk e _ he];exact k.d e a b he,k.nW,k.nE,k.nL,k.sz⟩
theorem MX.web (h:MX w.heap b N lv tl q B D ky E) (k:WS w w' b.W b.R b.F b.L b.CF b.CL b.EB (3*N) N q' D' ky):XS w w' b N lv tl q' B D' ky E:=by
 have c:=k.c
 obtain ⟨x,y,z,h1,h2,h3,h4,h5⟩:=h.o
 obtain ⟨val,f1,f2⟩:=h.f
 exact ⟨c.mono fun _ _ e=>.inr (.inr (.inr (.inr (.inl e)))),⟨c.row (by omega) h.v,c.row (by omega) h.k,h.t.keep c fun k s=>(by omega),k.a,⟨val,f1.keep c (by omega) (by omega),f2⟩,h.o,h.kb⟩,c.row (by omega) h.r⟩
theorem MX.turn (h:MX w.heap b N lv tl q B D ky E) (k:TS w w' b.T b.TD b.TL b.TM N tl'):XS w w' b N lv tl' q B D ky E:=by
 have c:=k.c
 obtain ⟨x,y,z,h1,h2,h3,h4,h5⟩:=h.o
 obtain ⟨val,f1,f2⟩:=h.f
 exact ⟨c.mono fun _ _ e=>.inr (.inr (.inr (.inl e))),⟨c.row (by omega) h.v,c.row (by omega) h.k,k.a,h.w.keep c fun k s=>(by omega),⟨val,f1.keep c (by omega) (by omega),f2⟩,h.o,h.kb⟩,c.row (by omega) h.r⟩
theorem MP0.row (h:MP0 w.heap b N lv tl q B D ky) (c:Chg (·=b.M) w w'):MP0 w'.heap b N lv tl q B D ky:=by
 obtain ⟨x,y,z,h1,h2,h3,h4,h5⟩:=h.o
 obtain ⟨val,f1,f2⟩:=h.f
 exact ⟨c.row (by omega) h.v,c.row (by omega) h.k,h.t.keep c fun k s=>(by omega),h.w.keep c fun k s=>(by omega),⟨val,f1.keep c (by omega) (by omega),f2⟩,h.o,h.kb⟩
theorem MX.keyed {z:Int} (h:MX w.heap b N lv tl q B D ky E) (c:Chg (·=b.KB) w w') (r:Row w'.heap b.KB Qfc (recs (kc (upd ky e z)) N)) (hB:B e=none) (hD:D e=none) (hz:-2251799813685248≤z∧z<2251799813685248):XS w w' b N lv tl q B D (upd ky e z) E:=by
 obtain ⟨x,y,z',h1,h2,h3,h4,h5⟩:=h.o
 obtain ⟨val,f1,f2,f3⟩:=h.f
 have ne:∀{D:Nat→Option (Nat × Nat)} {i p},D e=none→D i=some p→upd ky e z i=ky i:=fun h1 h2=>Qak _ _ (by rintro rfl;rw [h1] at h2;cases h2)
 have e1:sB B (upd ky e z) N=sB B ky N:=by
  unfold sB
  refine Qk2 fun i _=>?_
  split
  ·rename_i hi
   obtain ⟨p,hp⟩:=Option.isSome_iff_exists.1 hi
   rw [ne hB hp]
  ·rfl
 refine ⟨c.mono fun _ _ e=>.inr (.inr (.inl e)),⟨c.row (by omega) h.v,r,h.t.keep c fun k s=>(by omega),WB.key (h.w.keep c fun k s=>(by omega)) fun i p hi=>ne hD hi,⟨val,f1.keep c (by omega) (by omega),f2,fun i p hi=>by rw [ne hB hi];exact f3 i p hi⟩,h.o,fun i=>?_⟩,?_⟩
 ·unfold upd;split
  ·exact hz
  ·exact h.kb i
 ·rw [e1];exact c.row (by omega) h.r
theorem first_l {K:Value→World→Prop} {g:Nat} {es:List Int} {z:Int} (r:Row w.heap g Qdp (es.map errV)) (hl:es.length≤1000) (hz:((∀x∈es,x=0)∧z=0)∨∃pre post,es=pre++z::post∧z≠0∧∀x∈pre,x=0) (k:K (errV z) w) :
  Calls Pg Qa3 #[.slice (some ⟨g,0,none⟩) es.length es.length] w fun e w'=>∃v,e=.returned v∧K v w':=by
 refine (Qtt _ _ _ _ (fun v' w'=>v'=errV z∧w'=w) ?_).mono (by rintro e w' ⟨v,rfl,rfl,rfl⟩;exact ⟨_,rfl,k⟩)
 unfold Qr3
 let J:Nat→List Value→World→Prop:=fun j vs w'=>∃i:Nat,vs=[.int .i64 i]∧w'=w∧i≤es.length∧j=es.length-i∧∀x∈es.take i,x=0
 refine ⟨LI J,LM J,⟨_,0,rfl,rfl,by omega,rfl,by simp⟩,?_⟩
 intro _ i w' hJ
 obtain ⟨i,hvs,rfl,hi,hj,h0⟩:=hJ.at
 simp only [List.cons.injEq,Value.int.injEq,and_true,true_and] at hvs
 subst hvs
 refine Qag (fun h=>?_) (fun h=>?_)<;>simp only [b1s] at h
 ·have hi':i<es.length:=by omega
  refine Qb3 hi' ?_
  rw [Nat.zero_add,Nat.mul_one]
  refine ldV_r (n:=errV es[i]) r (by rw [List.getElem?_map,List.getElem?_eq_getElem hi'];rfl) (Qan (fun hne=>?_) (fun he=>?_))
  ·refine ⟨?_,rfl⟩
   rcases hz with ⟨hz,_⟩ | ⟨pre,post,hz,hz0,hp⟩
   ·exact absurd (hz _ (List.getElem_mem hi')) hne
   ·have h1:pre.length=i:=by
     rcases Nat.lt_trichotomy pre.length i with k | k | k
     ·have:z∈es.take i:=by
       rw [hz,List.take_append,List.mem_append];right
       rw [List.mem_take_iff_getElem]
       exact ⟨0,by simp;omega,rfl⟩
      exact absurd (h0 _ this) hz0
     ·exact k
     ·refine absurd (hp es[i] ?_) hne
      simp only [hz]
      rw [List.getElem_append_left k];exact List.getElem_mem _
    subst h1
    simp [hz]
  ·rw [wrap64_in (by omega) (by omega)]
   refine LI.again (k:=es.length-(i+1)) ⟨i+1,rfl,rfl,by omega,rfl,fun x hx=>?_⟩ (by rw [hj];omega)
   rw [List.take_add_one,List.getElem?_eq_getElem hi',List.mem_append] at hx
   rcases hx with hx | hx
   ·exact h0 x hx
   ·simp at hx;rw [hx];exact he
 ·have:i=es.length:=by omega
  subst this
  rw [List.take_length] at h0
  rcases hz with ⟨_,hz⟩ | ⟨pre,post,hz,hz0,hp⟩
  ·rw [hz];exact ⟨rfl,rfl⟩
  ·exact absurd (h0 z (by rw [hz];simp)) hz0
theorem ocm_e {x:Int} {K:Prop} (k:K):ocm (errV x) K:=by unfold errV;split<;>exact k
theorem Qsd {x y:Int} {K:Value→World→Prop} (k:∀w',Chg Qac w w'→K (errV (if x=0 then y else x)) w'):ocm (errV x) (ocm (errV y) (alo #[errV x,errV y] Qdp w fun a w1=>Calls Pg Qa3 #[.slice (some a) 2 2] w1 fun e w2=>∃v,e=.returned v∧K v w2)):=by
 refine ocm_e (ocm_e (Qa2 fun A w1 _ c r=>first_l (es:=[x,y]) r (by simp) ?_ (k _ c)))
 by_cases hx:x=0
 ·rw [if_pos hx]
  by_cases hy:y=0
  ·left;simp [hx,hy]
  ·right;exact ⟨[x],[],rfl,hy,by simp [hx]⟩
 ·rw [if_neg hx];right;exact ⟨[],[y],rfl,hx,by simp⟩
theorem Qxl {K:Value→World→Prop} (k:∀w',Chg Qac w w'→K (errV 0) w'):ocm (errV 0) (ocm (errV 0) (ocm (errV 0) (alo #[errV 0,errV 0,errV 0] Qdp w fun a w1=>Calls Pg Qa3 #[.slice (some a) 3 3] w1 fun e w2=>∃v,e=.returned v∧K v w2))):=
 ocm_e (ocm_e (ocm_e (Qa2 fun A w1 _ c r=>first_l (es:=[0,0,0]) r (by simp) (.inl (by simp)) (k _ c))))
theorem Qvt {x:Int} (h:MX w.heap b N lv tl q B D ky E):Calls Pg Qb9 #[.pointer (some ⟨b.M,0,none⟩),.int .i64 x] w fun r w'=>r=.returned (errV (if 0≤x∧x<N then 0 else 12))∧w'=w:=by
 refine (Qg5 _ _ _ (fun v' w'=>v'=errV (if 0≤x∧x<N then 0 else 12)∧w'=w) ?_).mono (by rintro e w' ⟨v,rfl,rfl,k⟩;exact ⟨rfl,k⟩)
 unfold Qgo
 refine Qag (fun h=>by cases h) (fun _=>Qag (fun h1=>?_) (fun h1=>pt_i (Qaj h.r rfl (Qag (fun h2=>?_) (fun h2=>?_)))))<;>simp only [b1s] at *
 ·rw [if_neg (by omega)];exact ⟨rfl,trivial⟩
 ·rw [if_neg (by omega)];exact ⟨rfl,trivial⟩
 ·rw [if_pos (by omega)];exact ⟨rfl,trivial⟩
def vE (lv:Nat→Bool) (N:Nat) (v:Int):Int:=if 0≤v∧v<N then (if lv v.toNat then 0 else 13) else 12
def eE (tl:Nat→List Nat) (N:Nat) (e:Int):Int:=if 0≤e∧e<N then (if Laid tl N e.toNat then 0 else 13) else 12
theorem Qy1 {v:Int} (h:MX w.heap b N lv tl q B D ky E):Calls Pg Qcm #[.pointer (some ⟨b.M,0,none⟩),.int .i64 v] w fun r w'=>r=.returned (errV (vE lv N v))∧w'=w:=by
 refine (Qpt _ _ _ (fun v' w'=>v'=errV (vE lv N v)∧w'=w) ?_).mono (by rintro e w' ⟨v,rfl,rfl,k⟩;exact ⟨rfl,k⟩)
 unfold Qlx vE
 refine (Qvt h).mono ?_
 rintro r w3 ⟨rfl,rfl⟩
 by_cases h0:0≤v∧v<N
 ·rw [if_pos h0,if_pos h0]
  obtain ⟨v,rfl⟩:∃x:Nat,v=x:=⟨v.toNat,by omega⟩
  have hv:v<N:=by omega
  rw [Int.toNat_natCast]
  refine ⟨_,rfl,Qan (fun e=>absurd rfl e) (fun _=>pt_i (Qba h.r rfl (Qb3 hv ?_)))⟩
  rw [Nat.zero_add,Nat.mul_one]
  refine ldB_r (n:=lv v) h.v (Qvr hv) (Qag (fun k=>?_) (fun k=>?_))
  ·rw [if_neg (by intro e;rw [e] at k;cases k)];exact ⟨rfl,rfl⟩
  ·rw [if_pos (by cases hh:lv v<;>simp_all)];exact ⟨rfl,rfl⟩
 ·rw [if_neg h0,if_neg h0]
  exact ⟨_,rfl,Qan (fun _=>⟨rfl,rfl⟩) (fun e=>by cases e)⟩
theorem Qva {e:Int} (h:MX w.heap b N lv tl q B D ky E):Calls Pg Qcp #[.pointer (some ⟨b.M,0,none⟩),.int .i64 e] w fun r w'=>r=.returned (errV (eE tl N e))∧w'=w:=by
 refine (Qrr _ _ _ (fun v' w'=>v'=errV (eE tl N e)∧w'=w) ?_).mono (by rintro e w' ⟨v,rfl,rfl,k⟩;exact ⟨rfl,k⟩)
 unfold Qn4 eE
 refine (Qvt h).mono ?_
 rintro r w3 ⟨rfl,rfl⟩
 by_cases h0:0≤e∧e<N
 ·rw [if_pos h0,if_pos h0]
  obtain ⟨e,rfl⟩:∃x:Nat,e=x:=⟨e.toNat,by omega⟩
  have he:e<N:=by omega
  rw [Int.toNat_natCast]
  refine ⟨_,rfl,Qan (fun e=>absurd rfl e) (fun _=>pt_i (Qa7 h.r rfl ((t_Has h.t he).mono ?_)))⟩
  rintro r w4 ⟨rfl,rfl⟩
  refine ⟨_,rfl,Qag (fun k=>?_) (fun k=>?_)⟩
  ·rw [if_neg (by intro e;simp [e] at k)];exact ⟨rfl,rfl⟩
  ·rw [if_pos (by simpa using k)];exact ⟨rfl,rfl⟩
 ·rw [if_neg h0,if_neg h0]
  exact ⟨_,rfl,Qan (fun _=>⟨rfl,rfl⟩) (fun e=>by cases e)⟩
def kE (lv:Nat→Bool) (tl:Nat→List Nat) (N:Nat) (v be:Int):Int:=if vE lv N v=0 then oE tl N v be else vE lv N v
theorem x_Check {v be:Int} (h:MX w.heap b N lv tl q B D ky E):Calls Pg Qgv #[.pointer (some ⟨b.M,0,none⟩),.agg #[.int .i64 v,.int .i64 be]] w fun r w'=>r=.returned (errV (kE lv tl N v be))∧Chg Qac w w':=by
 refine (Qqx _ _ _ _ (fun v' w'=>v'=errV (kE lv tl N v be)∧Chg Qac w w') ?_).mono (by rintro e w' ⟨v,rfl,rfl,k⟩;exact ⟨rfl,k⟩)
 unfold Qm1 kE
 refine Qa2 fun A w1 _ c1 ra=>Qaj (n:=v) ra rfl ((Qy1 (h.nob c1)).mono ?_)
 rintro r w3 ⟨rfl,rfl⟩
 refine ⟨_,rfl,Qan (fun e=>?_) (fun e=>?_)⟩
 ·rw [if_neg e];exact ⟨rfl,c1⟩
 rw [if_pos e]
 have c2:Chg Qac w3 w3.drew:=(Chg.refl _ _).drew
 have h2:=(h.nob c1).nob c2
 have ra2:=c2.row (fun h=>h) ra
 have c3:=c1.trans c2
 generalize w3.drew=w4 at *
 rw [Qaf]
 refine pt_i ?_
 rw [Qaf]
 refine Qa7 h2.r rfl (Qaj (n:=v) ra2 rfl (Qaj (n:=be) ra2 rfl ((Qx6 h2.t).mono ?_)))
 rintro r w5 ⟨rfl,c4⟩
 exact ⟨_,rfl,rfl,c3.trans c4⟩
theorem x_ends (h:MX w.heap b N lv tl q B D ky E) (hM:MP N tl) (he:Laid tl N e):Calls Pg Qfg #[.pointer (some ⟨b.M,0,none⟩),.int .i64 e] w fun r w'=>r=.returned (.tuple #[.int .i64 (og tl N (2*e)),.int .i64 (og tl N (2*e+1))])∧Chg Qac w w':=by
 refine (Qrq _ _ _ (fun v' w'=>v'=.tuple #[.int .i64 (og tl N (2*e)),.int .i64 (og tl N (2*e+1))]∧Chg Qac w w') ?_).mono (by rintro e w' ⟨v,rfl,rfl,k⟩;exact ⟨rfl,k⟩)
 unfold Qn3
 have heN:=hM.Qcb he
 have hsz:=h.sz
 rw [wrap64_in (x:=2*(e:Int)) (by omega) (by omega),wrap64_in (x:=2*(e:Int)+1) (by omega) (by omega),show (2:Int)*e=((2*e:Nat):Int) by omega,show ((2*e:Nat):Int)+1=((2*e+1:Nat):Int) by omega]
 refine pt_i (Qa7 h.r rfl ((Qtv h.t he).mono ?_))
 rintro r w4 ⟨rfl,c1⟩
 refine ⟨_,_,rfl,Qan (fun e=>absurd rfl e) (fun _=>pt_i (Qa7 (h.nob c1).r rfl ((Qtv (h.nob c1).t (hM.odd he)).mono ?_)))⟩
 rintro r w5 ⟨rfl,c2⟩
 exact ⟨_,_,rfl,Qan (fun e=>absurd rfl e) (fun _=>⟨rfl,c1.trans c2⟩)⟩
theorem Qxw {p:Option (Nat × Nat)} (he:e<N):cB (upd B e p) N=cB B N-(if (B e).isSome then 1 else 0)+(if p.isSome then 1 else 0):=by
 have h2:=sm_at (n:=N) (f:=fun i=>if (upd B e p i).isSome then (1:Int) else 0) (g:=fun i=>if (B i).isSome then 1 else 0) he fun i hi=>by rw [Qak _ _ hi]
 unfold cB;rw [h2,Qab]
theorem sB_upd {p:Option (Nat × Nat)} (he:e<N):sB (upd B e p) ky N=sB B ky N-(if (B e).isSome then ky e/1048576 else 0)+(if p.isSome then ky e/1048576 else 0):=by
 have h2:=sm_at (n:=N) (f:=fun i=>if (upd B e p i).isSome then ky i/1048576 else 0) (g:=fun i=>if (B i).isSome then ky i/1048576 else 0) he fun i hi=>by rw [Qak _ _ hi]
 unfold sB;rw [h2,Qab]
theorem fdiv_key (n:Int):Int.fdiv n (2 ^ (min (Int.toNat (20:Int)) (IntKind.bits .i64)))=n/1048576:=by
 rw [show (min (Int.toNat (20:Int)) (IntKind.bits .i64))=20 from rfl,show (2:Int) ^ 20=1048576 by decide,Int.fdiv_eq_ediv_of_nonneg _ (by omega)]
theorem Qwl {z:Int} (hz:-2251799813685248≤z∧z<2251799813685248):Calls Pg Qf9 #[.int .i64 z] w fun r w'=>r=.returned (.int .i32 (z/1048576))∧w'=w:=by
 refine (Qsl _ _ (fun v' w'=>v'=.int .i32 (z/1048576)∧w'=w) ⟨by omega,?_⟩).mono (by rintro e w' ⟨v,rfl,rfl,k⟩;exact ⟨rfl,k⟩)
 rw [fdiv_key,wrap32_in (by omega) (by omega)];exact ⟨rfl,rfl⟩
theorem Qwy (h:MX w.heap b N lv tl q B D ky E) (hM:MP N tl) (he:Laid tl N e) (hB:B e=none) (hB1:∀i a c,B i=some (a,c)→a<N∧c<N) (hn:¬LK [] B (og tl N (2*e)) (og tl N (2*e+1))) :
  Calls Pg Qb1 #[.pointer (some ⟨b.M,0,none⟩),.int .i64 e] w fun r w'=>r=.returned (errV 0)∧XS w w' b N lv tl q (upd B e (some (og tl N (2*e),og tl N (2*e+1)))) D ky E:=by
 refine (Qro _ _ _ (fun v' w'=>v'=errV 0∧XS w w' b N lv tl q (upd B e (some (og tl N (2*e),og tl N (2*e+1)))) D ky E) ?_).mono (by rintro e w' ⟨v,rfl,rfl,k⟩;exact ⟨rfl,k⟩)
 unfold Qn1
 have heN:=hM.Qcb he
 have hsz:=h.sz
 have hb:=h.sB_bd
 have hkb:=h.kb e
 have hcV:=cV_bd (lv:=lv) (N:=N)
 have hcB:=cB_bd (B:=B) (N:=N)
 have ha:=Qcc he
 have hc:=Qcc (hM.odd he)
 generalize hx:og tl N (2*e)=x at *
 generalize hy:og tl N (2*e+1)=y at *
 refine (x_ends h hM he).mono ?_
 rintro r w4 ⟨rfl,c1⟩
 rw [hx,hy]
 refine ⟨_,_,rfl,pt_i ?_⟩
 clear hM
 have c2:Chg Qac w w4.drew:=c1.drew
 have h2:=h.nob c2
 generalize w4.drew=w5 at *
 clear c1
 rw [Qaf]
 refine Qaj (n:=sB B ky N) h2.r rfl (pt_i ?_)
 rw [Qaf]
 refine Qba h2.r rfl (Qb3 heN ?_)
 rw [Nat.zero_add,Nat.mul_one]
 refine Qaj (n:=ky e) h2.k (Qsc heN) ((Qwl hkb).mono ?_)
 rintro r w13 ⟨rfl,rfl⟩
 refine ⟨_,rfl,by rw [h2.r.cell];rfl,pt_i ?_⟩
 rw [Qaf,wrap64_in (x:=ky e/1048576) (by omega) (by omega),wrap64_in (x:=sB B ky N+ky e/1048576) (by omega) (by omega)]
 refine Qdb h2.r (by simp [mrow]) rfl fun w6 c6 r6=>pt_i ?_
 rw [Qaf,Qaf]
 refine Qaj (n:=cV lv N-cB B N) r6 rfl (pt_i ?_)
 rw [Qaf,Qaf,wrap64_in (by omega) (by omega)]
 refine Qdb r6 (by simp [mrow]) rfl fun w7 c7 r7=>pt_i (Qaj (n:=(N:Int)) r7 rfl (pt_i ?_))
 have c8:Chg (·=b.M) w13 w7.drew:=(c6.trans c7).drew
 have r8:Row w7.drew.heap b.M Qhv _:=r7
 have h8:=h2.toMP0.row c8
 generalize w7.drew=w8 at *
 clear c6 r6 c7 r7
 simp only [Qaf]
 refine Qa7 r8 rfl (pt_i (Qba r8 rfl (Qb3 heN ?_)))
 rw [Nat.zero_add,Nat.mul_one]
 refine Qaj (n:=ky e) h8.k (Qsc heN) (pt_i (Qa7 r8 rfl (pt_i (Qa7 r8 rfl ?_))))
 rw [wrap64_in (x:=(N:Int)+e) (by omega) (by omega),show (N:Int)+e=((N+e:Nat):Int) by omega]
 obtain ⟨z1,z2,z3,o1,o2,o3,o4,o5⟩:=h.o
 obtain ⟨val,f1,f2,f3⟩:=h8.f
 have hMT:b.M≠b.TN:=by omega
 have hal1:∀u,¬EW [] B N u (N+e):=fun u=>Qse hB (by simp) hB1
 refine (Cut.c_Set f1 (a:=N+e) (z:=ky e) (by omega) (by omega)).mono ?_
 rintro r w9 ⟨rfl,k1⟩
 have r9:=k1.c.row hMT r8
 have hw1:¬∃l,Cut.Way (EW [] B N) x (N+e) l:=by
  rw [Qet]
  intro hr
  rcases Qye hr with k | ⟨u,k⟩
  ·omega
  ·exact hal1 u k
 refine ⟨_,rfl,by rw [Qaf,r9.cell];rfl,by rw [Qaf,r9.cell];rfl,?_⟩
 refine (Cut.Qux k1.a (a:=x) (b:=N+e) (by omega) (by omega) hw1).mono ?_
 rintro r w10 ⟨rfl,k2⟩
 have r10:=k2.c.row hMT r9
 refine ⟨_,rfl,by rw [Qaf,r10.cell];rfl,(Cut.Qux k2.a (a:=N+e) (b:=y) (by omega) (by omega) ?_).mono ?_⟩
 ·rw [Qet]
  intro hr
  rcases rt_add (fun u=>⟨fun k=>hal1 u k.symm,hal1 u⟩) hr with k | k
  ·omega
  ·exact hn ((Qu5 (by simp) hB1 ha.1 hc.1).1 k)
 rintro r w11 ⟨rfl,k3⟩
 refine ⟨_,rfl,Qxl fun w12 c12=>⟨rfl,?_⟩⟩
 have r11:=k3.c.row hMT r10
 have cc:=(k1.c.trans k2.c).trans k3.c
 refine XS.nob ⟨(c2.weak.trans (c8.mono fun _ _ e=>.inl e)).trans (cc.mono fun _ _ e=>.inr (.inr (.inr (.inr (.inr e))))),⟨cc.row (by omega) h8.v,cc.row (by omega) h8.k,h8.t.keep cc fun k s=>(by omega),h8.w.keep cc fun k s=>(by omega),⟨_,k3.a.congr fun u v=>(ew_tie hB).symm,fun u hu=>?_,fun i p hi=>?_⟩,h8.o,h8.kb⟩,?_⟩ c12
 ·rw [Qak _ _ (by omega)];exact f2 u hu
 ·by_cases hie:i=e
  ·subst hie;rw [Qab]
  ·rw [Qak _ _ hie] at hi;rw [Qak _ _ (by omega)];exact f3 i p hi
 ·rw [Qxw heN,sB_upd heN,hB]
  have e1:cV lv N-(cB B N-(if (none:Option (Nat × Nat)).isSome then 1 else 0)+(if (some (x,y)).isSome then 1 else 0))=cV lv N-cB B N-1:=by simp;omega
  have e2:sB B ky N-(if (none:Option (Nat × Nat)).isSome then ky e/1048576 else 0)+(if (some (x,y)).isSome then ky e/1048576 else 0)=sB B ky N+ky e/1048576:=by simp
  rw [e1,e2];exact r11
theorem Qtu (h:MX w.heap b N lv tl q B D ky E) (hM:MP N tl) (he:Laid tl N e) (hB:B e=some (og tl N (2*e),og tl N (2*e+1))) (hB1:∀i a c,B i=some (a,c)→a<N∧c<N) (hn:og tl N (2*e)≠og tl N (2*e+1)) :
  Calls Pg Qda #[.pointer (some ⟨b.M,0,none⟩),.int .i64 e] w fun r w'=>r=.returned (errV 0)∧XS w w' b N lv tl q (upd B e none) D ky E:=by
 refine (Qpu _ _ _ (fun v' w'=>v'=errV 0∧XS w w' b N lv tl q (upd B e none) D ky E) ?_).mono (by rintro e w' ⟨v,rfl,rfl,k⟩;exact ⟨rfl,k⟩)
 unfold Qly
 have heN:=hM.Qcb he
 have hsz:=h.sz
 have hb:=h.sB_bd
 have hkb:=h.kb e
 have hcV:=cV_bd (lv:=lv) (N:=N)
 have hcB:=cB_bd (B:=B) (N:=N)
 have ha:=Qcc he
 have hc:=Qcc (hM.odd he)
 generalize hx:og tl N (2*e)=x at *
 generalize hy:og tl N (2*e+1)=y at *
 refine (x_ends h hM he).mono ?_
 rintro r w4 ⟨rfl,c1⟩
 rw [hx,hy]
 refine ⟨_,_,rfl,pt_i ?_⟩
 clear hM
 have c2:Chg Qac w w4.drew:=c1.drew
 have h2:=h.nob c2
 generalize w4.drew=w5 at *
 clear c1
 rw [Qaf]
 refine Qaj (n:=sB B ky N) h2.r rfl (pt_i ?_)
 rw [Qaf]
 refine Qba h2.r rfl (Qb3 heN ?_)
 rw [Nat.zero_add,Nat.mul_one]
 refine Qaj (n:=ky e) h2.k (Qsc heN) ((Qwl hkb).mono ?_)
 rintro r w13 ⟨rfl,rfl⟩
 refine ⟨_,rfl,by rw [h2.r.cell];rfl,pt_i ?_⟩
 rw [Qaf,wrap64_in (x:=ky e/1048576) (by omega) (by omega),wrap64_in (x:=sB B ky N-ky e/1048576) (by omega) (by omega)]
 refine Qdb h2.r (by simp [mrow]) rfl fun w6 c6 r6=>pt_i ?_
 rw [Qaf,Qaf]
 refine Qaj (n:=cV lv N-cB B N) r6 rfl (pt_i ?_)
 rw [Qaf,Qaf,wrap64_in (by omega) (by omega)]
 refine Qdb r6 (by simp [mrow]) rfl fun w7 c7 r7=>pt_i (Qaj (n:=(N:Int)) r7 rfl (pt_i ?_))
 have c8:Chg (·=b.M) w13 w7.drew:=(c6.trans c7).drew
 have r8:Row w7.drew.heap b.M Qhv _:=r7
 have h8:=h2.toMP0.row c8
 generalize w7.drew=w8 at *
 clear c6 r6 c7 r7
 simp only [Qaf]
 refine Qa7 r8 rfl (pt_i (Qa7 r8 rfl ?_))
 rw [wrap64_in (x:=(N:Int)+e) (by omega) (by omega),show (N:Int)+e=((N+e:Nat):Int) by omega]
 obtain ⟨z1,z2,z3,o1,o2,o3,o4,o5⟩:=h.o
 obtain ⟨val,f1,f2,f3⟩:=h8.f
 have hMT:b.M≠b.TN:=by omega
 refine (Cut.Qyu f1 (a:=x) (b:=N+e) (by omega) (by omega) (.inr ⟨e,x,y,hB,.inl ⟨rfl,.inl rfl⟩⟩)).mono ?_
 rintro r w9 ⟨rfl,k1⟩
 have r9:=k1.c.row hMT r8
 refine ⟨_,rfl,by rw [Qaf,r9.cell];rfl,(Cut.Qyu k1.a (a:=N+e) (b:=y) (by omega) (by omega) ⟨.inr ⟨e,x,y,hB,.inr ⟨rfl,.inr rfl⟩⟩,by omega⟩).mono ?_⟩
 rintro r w10 ⟨rfl,k2⟩
 refine ⟨_,rfl,Qsd fun w12 c12=>⟨rfl,?_⟩⟩
 have r11:=k2.c.row hMT r9
 have cc:=k1.c.trans k2.c
 refine XS.nob ⟨(c2.weak.trans (c8.mono fun _ _ e=>.inl e)).trans (cc.mono fun _ _ e=>.inr (.inr (.inr (.inr (.inr e))))),⟨cc.row (by omega) h8.v,cc.row (by omega) h8.k,h8.t.keep cc fun k s=>(by omega),h8.w.keep cc fun k s=>(by omega),⟨_,k2.a.congr fun u v=>?_,f2,fun i p hi=>f3 i p (Qdq hi).2⟩,h8.o,h8.kb⟩,?_⟩ c12
 ·rw [←Qz2 hB (by simp) hB1]
  constructor
  ·rintro ⟨⟨k1,k2⟩,k3⟩;exact ⟨⟨k1,fun k=>k2 k.symm⟩,fun k=>k3 (by omega)⟩
  ·rintro ⟨⟨k1,k2⟩,k3⟩;exact ⟨⟨k1,fun k=>k2 k.symm⟩,fun k=>k3 (by omega)⟩
 ·rw [Qxw heN,sB_upd heN,hB]
  have e1:cV lv N-(cB B N-(if (some (x,y)).isSome then 1 else 0)+(if (none:Option (Nat × Nat)).isSome then 1 else 0))=cV lv N-cB B N+1:=by simp;omega
  have e2:sB B ky N-(if (some (x,y)).isSome then ky e/1048576 else 0)+(if (none:Option (Nat × Nat)).isSome then ky e/1048576 else 0)=sB B ky N-ky e/1048576:=by simp
  rw [e1,e2];exact r11
theorem MP0.lkw {h:Array Obj} {x y:Nat} (k:MP0 h b N lv tl q B D ky) (hx:x<3*N) (hy:y<3*N):RT (EW q D (3*N)) x y↔LK q D x y:=
 Qu5 k.w.nodup.2.1 (fun e a b he=>by have:=k.w.d e a b he;omega) hx hy
theorem x_tie (h:MX w.heap b N lv tl q B D ky E) (he:e<N) (hD:D e=none) (hn:¬LK q D (2*e) (2*e+1)) :
  Calls Pg Qez #[.pointer (some ⟨b.M,0,none⟩),.int .i64 e] w fun r w'=>r=.returned (errV 0)∧XS w w' b N lv tl q B (upd D e (some (2*e,2*e+1))) ky E:=by
 refine (Qsn _ _ _ (fun v' w'=>v'=errV 0∧XS w w' b N lv tl q B (upd D e (some (2*e,2*e+1))) ky E) ?_).mono (by rintro e w' ⟨v,rfl,rfl,k⟩;exact ⟨rfl,k⟩)
 unfold Qon
 have hsz:=h.sz
 have hkb:=h.kb e
 have c2:Chg Qac w w.drew:=(Chg.refl _ _).drew
 have h2:=h.nob c2
 generalize w.drew=w1 at *
 simp only [Qaf,wrap64_in (x:=2*(e:Int)) (by omega) (by omega),wrap64_in (x:=2*(e:Int)+1) (by omega) (by omega)]
 rw [show (2:Int)*e=((2*e:Nat):Int) by omega,show ((2*e:Nat):Int)+1=((2*e+1:Nat):Int) by omega]
 refine pt_i ?_
 rw [Qaf]
 refine Qa7 h2.r rfl (pt_i ?_)
 rw [Qaf]
 refine Qba h2.r rfl (Qb3 he ?_)
 rw [Nat.zero_add,Nat.mul_one]
 refine Qaj (n:=ky e) h2.k (Qsc he) ((w_Tie h2.w he (a:=2*e) (b:=2*e+1) (by omega) (by omega) (by omega) ?_ hD).mono ?_)
 ·rw [h.toMP0.lkw (by omega) (by omega)];exact hn
 rintro r w2 ⟨rfl,hw⟩
 rw [Qp5] at hw
 obtain ⟨k1,k2⟩:=h2.web hw
 exact ⟨_,rfl,rfl,c2.weak.trans k1,k2⟩
end
end Core
end Go.Proofs.YtpmicakdjhoafaaGreatDoor
namespace Go.Proofs.YtpmicakdjhoafaaGreatDoor
open Go Go.RowKit
namespace Core
open Go.Proofs.YtpmicakdjhoafaaGreatDoor.Seq Go.Proofs.YtpmicakdjhoafaaGreatDoor.Cut Go.Proofs.YtpmicakdjhoafaaGreatDoor.Web
section
variable {w₀ w w':World} {b:Bk} {N e g v x y z a c:Nat} {E E':Int} {lv lv':Nat→Bool} {tl tl':Nat→List Nat} {q q':List (List Nat)} {A C:List Nat} {B B' D D':Nat→Option (Nat × Nat)} {ky ky':Nat→Int} {f:Nat→Nat}
theorem Qmf:SF (A::q) x y↔(x∈A∧y∈A)∨SF q x y:=by simp [SF]
theorem lk_same (h:∀u v,SF q u v↔SF q' u v):LK q D x y↔LK q' D x y:=⟨LK.mono (fun u v=>(h u v).1) fun _ _ h=>h,LK.mono (fun u v=>(h u v).2) fun _ _ h=>h⟩
theorem sf_uniq (nd:q.flatten.Nodup) (hA:A∈q) (hC:C∈q) (h1:x∈A) (h2:x∈C):A=C:=by
 induction q with
 | nil=>cases hA
 | cons X q ih=>
  rw [List.flatten_cons,List.nodup_append] at nd
  rcases List.mem_cons.1 hA with rfl | jA<;>rcases List.mem_cons.1 hC with rfl | jC
  ·rfl
  ·exact absurd rfl (nd.2.2 x h1 x (List.mem_flatten.2 ⟨C,jC,h2⟩))
  ·exact absurd rfl (nd.2.2 x h2 x (List.mem_flatten.2 ⟨A,jA,h1⟩))
  ·exact ih nd.2.1 jA jC
theorem Qnc (nd:q.flatten.Nodup) (h:SF q x y) (k:SF q y z):SF q x z:=by
 obtain ⟨A,h1,h2,h3⟩:=h
 obtain ⟨C,k1,k2,k3⟩:=k
 obtain rfl:=sf_uniq nd h1 k1 h3 k2
 exact ⟨A,h1,h2,k3⟩
theorem Qf6 {p s:List Nat}:z∈p++x::s↔z∈x::(s++p):=by
 rw [show x::(s++p)=(x::s)++p by simp];simp only [List.mem_append];exact or_comm
theorem Qzi {p s:List Nat} (h:FQ f ((p++x::s)::q)):FQ f ((x::(s++p))::q):=h.rot
structure Mg (q q':List (List Nat)) (x y:Nat):Prop where
 f:∀f,FQ f q→FQ (fun z=>sw x y (f z)) q'
 l:∀D a b,LK q' D a b↔LK q D a b∨(LK q D a x∧LK q D y b)∨(LK q D a y∧LK q D x b)
structure Sp (q q':List (List Nat)) (x y:Nat):Prop where
 f:∀f,FQ f q→FQ (fun z=>sw x y (f z)) q'
 l:∀D a b,LK q D a b↔LK q' D a b∨(LK q' D a x∧LK q' D y b)∨(LK q' D a y∧LK q' D x b)
theorem Qow (h:MX w.heap b N lv tl q B D ky E) (hx:x<3*N) (hy:y<3*N) (hn:¬LK q D x y) :
  Calls Pg Qbc #[.pointer (some ⟨b.W,0,none⟩),.int .i64 x,.int .i64 y] w fun r w'=>r=.returned (errV 0)∧∃q',XS w w' b N lv tl q' B D ky E∧Mg q q' x y:=by
 have hbd:=fun e a c he=>(by have:=h.w.d e a c he;omega:a<3*N∧c<3*N)
 rcases h.w.a.a.find2 hx hy with ⟨A,q0,hp,h1,h2⟩ | ⟨A,C,q0,hp,h1,h2,_⟩
 ·exact absurd (LK.sf ⟨A,hp.mem_iff.2 (by simp),h1,h2⟩) hn
 obtain ⟨pa,oa,rfl⟩:=List.append_of_mem h1
 obtain ⟨pb,ob,rfl⟩:=List.append_of_mem h2
 have hw:=h.w.perm hp
 refine (w_Merge hw fun k=>hn ((Qym hp).2 ((Qu5 hw.nodup.2.1 hbd hx hy).1 k))).mono ?_
 rintro r w' ⟨rfl,ws⟩
 have nd:(x::oa++pa++(y::ob++pb)++q0.flatten).Nodup:=by have:=ws.a.nodup.1;simpa [List.flatten_cons] using this
 refine ⟨rfl,_,h.web ws,fun f hf=>?_,fun D a b=>?_⟩
 ·have h3:=Qzi (hf.perm hp)
  have h4:=Qzi (h3.perm (List.Perm.swap _ _ _))
  exact (FQ.join (A:=x::oa++pa) (B:=y::ob++pb) rfl rfl nd).2 (h4.perm (List.Perm.swap _ _ _))
 ·rw [lk_join (x:=x) (y:=y) (by simp) (by simp)]
  have e0:∀u v,LK ((x::oa++pa)::(y::ob++pb)::q0) D u v↔LK q D u v:=fun u v=>by
   rw [Qym hp]
   refine lk_same fun s t=>?_
   rw [Qmf,Qmf,Qmf,Qmf,Qf6,Qf6,Qf6,Qf6];rfl
  simp only [e0]
theorem f_Split (h:MX w.heap b N lv tl q B D ky E) (hs:SF q x y) (hxy:x≠y) :
  Calls Pg Qbu #[.pointer (some ⟨b.W,0,none⟩),.int .i64 x,.int .i64 y] w fun r w'=>r=.returned (errV 0)∧∃q',XS w w' b N lv tl q' B D ky E∧Sp q q' x y∧¬LK q' D x y:=by
 obtain ⟨A,hA,h1,h2⟩:=hs
 have hbd:=fun e a c he=>(by have:=h.w.d e a c he;omega:a<3*N∧c<3*N)
 obtain ⟨q0,hp⟩:∃q0,q.Perm (A::q0):=⟨_,List.perm_cons_erase hA⟩
 have hlt:=h.w.nodup.2.1
 have hx:x<3*N:=hlt x (List.mem_flatten.2 ⟨A,hA,h1⟩)
 have hy:y<3*N:=hlt y (List.mem_flatten.2 ⟨A,hA,h2⟩)
 obtain ⟨pa,oa,rfl⟩:=List.append_of_mem h1
 have h3:y∈oa++pa:=by
  rcases List.mem_cons.1 (Qf6.1 h2) with k | k
  ·exact absurd k.symm hxy
  ·exact k
 obtain ⟨mid,rest,e1⟩:=List.append_of_mem h3
 have hw:=h.w.perm hp
 refine (Qy6 hw e1).mono ?_
 rintro r w' ⟨rfl,ws,hno⟩
 have nd:((x::mid)++(y::rest)++q0.flatten).Nodup:=by have:=ws.a.nodup.1;simpa [List.flatten_cons] using this
 refine ⟨rfl,_,h.web ws,⟨fun f hf=>?_,fun D a b=>?_⟩,fun k=>hno ((Qu5 ws.a.nodup.2.1 hbd hx hy).2 k)⟩
 ·have h4:=Qzi (hf.perm hp)
  rw [e1] at h4
  exact FQ.cut (A:=x::mid) (B:=y::rest) rfl rfl nd h4
 ·have e0:LK q D a b↔LK (((x::mid)++(y::rest))::q0) D a b:=by
   rw [Qym hp]
   refine lk_same fun s t=>?_
   rw [Qmf,Qmf,Qf6,Qf6,e1];rfl
  rw [e0,lk_join (x:=x) (y:=y) (by simp) (by simp)]
structure Ap (f:Nat→Nat) (q q':List (List Nat)) (x:Nat):Prop where
 f:FQ (fun z=>sw x (f x) (f z)) q'
 s:∀u v,SF q' u v↔(u=x∧v=x)∨(u≠x∧v≠x∧SF q u v)
theorem Ap.lk (h:Ap f q q' x) (hx:∃A∈q,x∈A) (k:LK q' D a c):LK q D a c:=by
 refine k.mono (fun u v s=>?_) fun _ _ h=>h
 rcases (h.s u v).1 s with ⟨rfl,rfl⟩ | ⟨_,_,k⟩
 ·obtain ⟨A,hA,k⟩:=hx;exact ⟨A,hA,k,k⟩
 ·exact k
theorem sf_out {p s:List Nat} {q0:List (List Nat)} (hp:q.Perm ((p++x::s)::q0)) (nd:q.flatten.Nodup) (u v:Nat):((u∈s++p∧v∈s++p)∨SF q0 u v)↔u≠x∧v≠x∧SF q u v:=by
 have hn:((p++x::s)::q0).flatten.Nodup:=(hp.flatten.nodup_iff).1 nd
 have e0:SF q u v↔SF ((p++x::s)::q0) u v:=⟨SF.perm hp,SF.perm hp.symm⟩
 have hn2:(p++x::s++q0.flatten).Nodup:=by simpa [List.flatten_cons] using hn
 have hxs:x∉s++p:=by
  have:=(List.perm_append_comm (l₁:=p) (l₂:=x::s)).nodup_iff.1 (List.nodup_append.1 hn2).1
  simpa using (List.nodup_cons.1 (show (x::(s++p)).Nodup by simpa using this)).1
 have hxq:∀{z},z∈q0.flatten→z≠x:=fun hz e=>(List.nodup_append.1 hn2).2.2 x (by simp) _ hz e.symm
 rw [e0,Qmf,Qf6,Qf6]
 constructor
 ·rintro (⟨h1,h2⟩ | ⟨A,hA,h1,h2⟩)
  ·exact ⟨fun e=>hxs (e ▸ h1),fun e=>hxs (e ▸ h2),.inl ⟨List.mem_cons_of_mem _ h1,List.mem_cons_of_mem _ h2⟩⟩
  ·exact ⟨hxq (List.mem_flatten.2 ⟨A,hA,h1⟩),hxq (List.mem_flatten.2 ⟨A,hA,h2⟩),.inr ⟨A,hA,h1,h2⟩⟩
 ·rintro ⟨h1,h2,⟨h3,h4⟩ | h3⟩
  ·exact .inl ⟨(List.mem_cons.1 h3).resolve_left h1,(List.mem_cons.1 h4).resolve_left h2⟩
  ·exact .inr h3
theorem f_Ap {R:Value→World→Prop} {X:World→Prop} (h:MX w.heap b N lv tl q B D ky E) (hf:FQ f q) (hx:x<3*N) (k:∀q' w',XS w w' b N lv tl q' B D ky E→Ap f q q' x→X w') :
  pt (some ⟨b.M,0,none⟩) fun a22=>ldP (a22.add 3) w fun p23=>Calls Pg Qem #[.pointer p23,.int .i64 x] w fun e27 w26=>∃n24 v25,e27=.returned (.tuple #[.int .i64 n24,v25])∧
   ∃J28:JP,(isI v25∧bif (nilI v25) then (J28 [.bool (decide (n24>1))] w26) else (J28 [.bool false] w26))∧∀_:Env,∀b29 w30,J28 [.bool b29] w30→
   bif b29 then (pt (some ⟨b.M,0,none⟩) fun a31=>ldP (a31.add 3) w30 fun p32=>Calls Pg Qco #[.pointer p32,.int .i64 x] w30 fun e35 w34=>∃v33,e35=.returned v33∧isI v33∧bif (!(nilI v33)) then (R v33 w34) else (X w34))
   else (isI v25∧bif (!(nilI v25)) then (R v25 w30) else (X w30)):=by
 obtain ⟨A,q0,hp,hA⟩:=h.w.a.a.find hx
 obtain ⟨p,s,rfl⟩:=List.append_of_mem hA
 have nd:=h.w.nodup.1
 have so:=sf_out hp nd
 have hw:=h.w.perm hp
 refine pt_i ?_
 rw [Qaf]
 refine Qa7 h.r rfl ((w_Len hw (by simp)).mono ?_)
 rintro r w3 ⟨rfl,ws⟩
 have xs:=h.web (ws.perm hp.symm)
 refine ⟨_,_,rfl,fun vs w'=>w'=w3∧vs=[.bool (decide (s++p≠[]))],⟨Qio _,Qag (fun _=>⟨rfl,?_⟩) (fun k=>by simp [Qin] at k)⟩,?_⟩
 ·congr 2
  refine decide_eq_decide.2 ⟨fun h0 h1=>?_,fun h0=>?_⟩
  ·obtain ⟨rfl,rfl⟩:=List.append_eq_nil_iff.1 h1;simp at h0
  ·have:0<(s++p).length:=List.length_pos_iff.2 h0
   simp at this ⊢;omega
 rintro _ b4 w4 ⟨rfl,hb⟩
 simp only [List.cons.injEq,Value.bool.injEq,and_true] at hb
 subst hb
 have hf':=Qzi (hf.perm hp)
 refine Qag (fun hb=>?_) (fun hb=>⟨Qio _,Qag (fun k=>by simp [Qin] at k) fun _=>k q _ xs ?_⟩)
 ·have hne:=of_decide_eq_true hb
  obtain ⟨y,rest,hyr⟩:=List.exists_cons_of_ne_nil hne
  rw [hyr] at hf'
  have hfx:f x=y:=hf' (x::y::rest) (by simp) x y (.inl (.inl ⟨rfl,rfl⟩))
  refine pt_i ?_
  rw [Qaf]
  refine Qa7 xs.a.r rfl ((w_Apart (xs.a.w.perm hp) hyr).mono ?_)
  rintro r w5 ⟨rfl,ws2⟩
  refine ⟨_,rfl,Qio _,Qag (fun k=>by simp [Qin] at k) fun _=>k _ _ (xs.trans (xs.a.web ws2)) ⟨?_,fun u v=>?_⟩⟩
  ·rw [hfx]
   exact FQ.cut (A:=[x]) (B:=y::rest) rfl rfl (by have:=ws2.a.nodup.1;simpa [List.flatten_cons] using this) hf'
  ·rw [←so,Qmf,Qmf,hyr];simp
 ·have h0:s++p=[]:=Classical.not_not.1 (of_decide_eq_false hb)
  rw [h0] at hf'
  have hfx:f x=x:=hf' [x] (by simp) x x (.inr ⟨rfl,rfl⟩)
  refine ⟨?_,fun u v=>?_⟩
  ·rw [hfx];exact hf.congr fun _ _ z _=>Qsu
  ·rw [←so,h0,show SF q u v↔SF ((p++x::s)::q0) u v from ⟨SF.perm hp,SF.perm hp.symm⟩,Qmf,Qf6,Qf6,h0];simp
theorem Qvm (h:MX w.heap b N lv tl q B D ky E) (hx:x<3*N) (hy:y<3*N) :
  Calls Pg Qbn #[.pointer (some ⟨b.W,0,none⟩),.int .i64 x,.int .i64 y] w fun r w'=>∃z,r=.returned (.tuple #[.bool z,errV 0])∧(z=true↔SF q x y)∧XS w w' b N lv tl q B D ky E:=by
 have nd:=h.w.nodup.1
 rcases h.w.a.a.find2 hx hy with ⟨A,q0,hp,h1,h2⟩ | ⟨A,C,q0,hp,h1,h2,h3⟩
 ·exact (Qst (h.w.perm hp) h1 h2).mono fun e w' ⟨k1,k2⟩=>⟨true,k1,⟨fun _=>⟨A,hp.mem_iff.2 (by simp),h1,h2⟩,fun _=>rfl⟩,h.web (k2.perm hp.symm)⟩
 ·refine (Qw0 (h.w.perm hp) h1 h2).mono fun e w' ⟨k1,k2⟩=>⟨false,k1,⟨fun k=>by (cases k),fun ⟨X,hX,k3,k4⟩=>?_⟩,h.web (k2.perm hp.symm)⟩
  obtain rfl:=sf_uniq nd hX (hp.mem_iff.2 (by simp)) k3 h1
  exact absurd k4 h3
theorem Qxm (h:MX w.heap b N lv tl q B D ky E) (hx:x<3*N) (hy:y<3*N) (hl:LK q D x y) (hs:¬SF q x y) :
  Calls Pg Qcd #[.pointer (some ⟨b.W,0,none⟩),.int .i64 x,.int .i64 y] w fun r w'=>∃o p,D o=some p∧¬LK q (upd D o none) x y∧(∀i r,D i=some r→¬LK q (upd D i none) x y→ky o≤ky i)∧r=.returned (.tuple #[.int .i64 (o:Nat),errV 0])∧XS w w' b N lv tl q B D ky E:=by
 obtain ⟨nd,lt,_,al⟩:=h.w.nodup
 have hbd:=fun e a c he=>(by have:=h.w.d e a c he;omega:a<3*N∧c<3*N)
 obtain ⟨l,hw⟩:=Qet.2 ((Qu5 lt hbd hx hy).2 hl)
 obtain ⟨val,hae,f1,f2⟩:=h.w.f
 have hno:∀i,3*N+i∈l↔¬LK q (upd D i none) x y:=fun i=>way_no hae (by omega) lt hbd hx hy hw
 refine (w_Weakest h.w hx hy hw).mono ?_
 rintro r w3 ⟨v,z,v1,v2,⟨pre,post,e1,m1,m2⟩,rfl,ws⟩
 have hzl:z∈l:=by rw [e1];simp
 have hin:∀i,3*N+i∈l→∃p,D i=some p:=fun i hi=>by
  cases hD:D i with
  | some p=>exact ⟨p,rfl⟩
  | none=>
   refine absurd ?_ ((hno i).1 hi)
   rw [Qr0 hD];exact hl
 have hex:∃i,3*N+i∈l:=Classical.byContradiction fun k=>by
  have hall:∀u∈l,u<3*N:=fun u hu=>Classical.byContradiction fun c=>k ⟨u-3*N,by rw [show 3*N+(u-3*N)=u by omega];exact hu⟩
  have key:∀(l:List Nat) (u:Nat),l.head?=some u→(∀z∈l,z<3*N)→Lk (EW q D (3*N)) l→∀z,l.getLast?=some z→SF q u z:=by
   intro l
   induction l with
   | nil=>intro u hu;cases hu
   | cons c l ih=>
    intro u hu ha hk z hz
    cases hu
    obtain ⟨A,hA,hc⟩:=al c (ha c (by simp))
    cases l with
    | nil=>cases hz;exact ⟨A,hA,hc,hc⟩
    | cons d l=>
     have h1:=ih d rfl (fun z hz=>ha z (List.mem_cons_of_mem _ hz)) hk.2 z (by rwa [List.getLast?_cons_cons] at hz)
     rcases hk.1 d rfl with ⟨X,hX,k⟩ | ⟨i,a,b,_,k⟩
     ·refine Qnc nd ⟨X,hX,?_⟩ h1
      rcases k with k | k
      ·exact ⟨k.mem.1,k.mem.2⟩
      ·exact ⟨k.mem.2,k.mem.1⟩
     ·have:=ha c (by simp);have:=ha d (by simp)
      omega
  exact hs (key l x hw.hd hall hw.lk y hw.la)
 obtain ⟨i0,hi0⟩:=hex
 obtain ⟨⟨a0,b0⟩,hD0⟩:=hin i0 hi0
 have hz0:¬z<3*N:=fun hz=>by
  have k1:=m1 _ hi0
  rw [v1 z hz,v2 i0 a0 b0 hD0] at k1
  have:=(h.w.d i0 a0 b0 hD0).2.2.2.2
  omega
 obtain ⟨o,rfl⟩:∃o,z=3*N+o:=⟨z-3*N,by omega⟩
 obtain ⟨⟨a1,b1⟩,hDo⟩:=hin o hzl
 refine ⟨o,_,hDo,(hno o).1 hzl,fun i r hi hn=>?_,by rw [if_neg hz0,show 3*N+o-3*N=o by omega],h.web ws⟩
 have k1:=m1 _ ((hno i).2 hn)
 rwa [v2 o a1 b1 hDo,v2 i r.1 r.2 hi] at k1
theorem f_Most (h:MX w.heap b N lv tl q B D ky E) (hB1:∀i a c,B i=some (a,c)→a<N∧c<N) (hx:x<N) (hy:y<N) (hl:LK [] B x y) (hxy:x≠y) :
  Calls Pg Qc9 #[.pointer (some ⟨b.TF,0,none⟩),.int .i64 x,.int .i64 y] w fun r w'=>∃o p,B o=some p∧¬LK [] (upd B o none) x y∧(∀i r,B i=some r→¬LK [] (upd B i none) x y→ky i≤ky o)∧r=.returned (.tuple #[.int .i64 ((N+o:Nat):Int),errV 0])∧XS w w' b N lv tl q B D ky E:=by
 have hlt:∀x∈([]:List (List Nat)).flatten,x<N:=by simp
 obtain ⟨l,hw⟩:=Qet.2 ((Qu5 hlt hB1 hx hy).2 hl)
 obtain ⟨val,hae,f1,f2⟩:=h.f
 have hno:∀i,N+i∈l↔¬LK [] (upd B i none) x y:=fun i=>way_no hae (by omega) hlt hB1 hx hy hw
 refine (Cut.c_Most hae (by omega) (by omega) hw).mono ?_
 rintro r w3 ⟨⟨z,⟨pre,post,e1,m1,m2⟩,rfl⟩,ce⟩
 have hzl:z∈l:=by rw [e1];simp
 have hin:∀i,N+i∈l→∃p,B i=some p:=fun i hi=>by
  cases hD:B i with
  | some p=>exact ⟨p,rfl⟩
  | none=>
   refine absurd ?_ ((hno i).1 hi)
   rw [Qr0 hD];exact hl
 have hex:∃i,N+i∈l:=by
  have h0:=hw.hd
  have h1:=hw.la
  have h2:=hw.lk
  cases l with
  | nil=>cases h0
  | cons c l=>
   cases h0
   cases l with
   | nil=>cases h1;exact absurd rfl hxy
   | cons d l=>
    rcases h2.1 d rfl with ⟨X,hX,_⟩ | ⟨i,a,b,_,k⟩
    ·cases hX
    ·rcases k with ⟨rfl,_⟩ | ⟨k,_⟩
     ·exact ⟨i,by simp⟩
     ·omega
 obtain ⟨i0,hi0⟩:=hex
 obtain ⟨p0,hp0⟩:=hin i0 hi0
 have hz0:¬z<N:=fun hz=>by
  have k1:=m1 _ hi0
  rw [f1 z hz,f2 i0 p0 hp0] at k1
  have:=h.kb i0
  omega
 obtain ⟨o,rfl⟩:∃o,z=N+o:=⟨z-N,by omega⟩
 obtain ⟨p1,hBo⟩:=hin o hzl
 refine ⟨o,_,hBo,(hno o).1 hzl,fun i r hi hn=>?_,rfl,?_⟩
 ·have k1:=m1 _ ((hno i).2 hn)
  rwa [f2 o p1 hBo,f2 i r hi] at k1
 ·have cc:=ce.c
  obtain ⟨z1,z2,z3,o1,o2,o3,o4,o5⟩:=h.o
  exact ⟨cc.mono fun _ _ e=>.inr (.inr (.inr (.inr (.inr e)))),⟨cc.row (by omega) h.v,cc.row (by omega) h.k,h.t.keep cc fun k s=>(by omega),h.w.keep cc fun k s=>(by omega),⟨val,ce.a,f1,f2⟩,h.o,h.kb⟩,cc.row (by omega) h.r⟩
theorem x_undo {one:Bool} (h:MX w.heap b N lv tl q B D ky E) (hM:MP N tl) (he:Laid tl N e) (hf:FQ (ph tl N) q) (h1:one=true→SF q (2*e) (2*e+1)) (h2:one=false→¬LK q D (2*e) (2*e+1)) :
  Calls Pg Qjw #[.pointer (some ⟨b.M,0,none⟩),.int .i64 e,.bool one] w fun r w'=>r=.returned (errV 0)∧∃q',XS w w' b N lv tl q' B D ky E∧FQ (ph (lift tl N e) N) q':=by
 refine (Qrm _ _ _ _ (fun v' w'=>v'=errV 0∧∃q',XS w w' b N lv tl q' B D ky E∧FQ (ph (lift tl N e) N) q') ?_).mono (by rintro e w' ⟨v,rfl,rfl,k⟩;exact ⟨rfl,k⟩)
 unfold Qnz
 have heN:=hM.Qcb he
 have hsz:=h.sz
 have hto:=hM.odd he
 have hxm:=hM.Qeo he
 have hym:=hM.Qeo hto
 obtain ⟨k1,k2⟩:=hM.ph_lift he rfl rfl
 have e1:ph tl N (2*e)=sg tl N (2*e+1):=by rw [hM.phE he,Qq9]
 have e2:ph tl N (2*e+1)=sg tl N (2*e):=by rw [hM.phE hto,Qvc]
 have hx3:sg tl N (2*e)<3*N:=by have:=hM.lt _ hxm.1;omega
 have hy3:sg tl N (2*e+1)<3*N:=by have:=hM.lt _ hym.1;omega
 have hxy:sg tl N (2*e)≠sg tl N (2*e+1):=fun k=>by have:=hM.Qtl he hto k;omega
 simp only [wrap64_in (x:=2*(e:Int)) (by omega) (by omega),wrap64_in (x:=2*(e:Int)+1) (by omega) (by omega)]
 rw [show (2:Int)*e=((2*e:Nat):Int) by omega,show ((2*e:Nat):Int)+1=((2*e+1:Nat):Int) by omega]
 refine pt_i (Qa7 h.r rfl ((t_Next h.t he).mono ?_))
 rintro r w4 ⟨rfl,c1⟩
 have h4:=h.nob c1
 refine ⟨_,_,rfl,pt_i (Qa7 h4.r rfl ((t_Next h4.t hto).mono ?_))⟩
 rintro r w5 ⟨rfl,c2⟩
 generalize sg tl N (2*e)=x at *
 generalize sg tl N (2*e+1)=y at *
 refine ⟨_,_,rfl,Qsd fun w6 c3=>Qan (fun k=>absurd rfl k) fun _=>?_⟩
 have c4:=(c1.trans c2).trans c3
 have h6:=h.nob c4
 refine ⟨fun _ w'=>∃q1 q2,XS w6 w' b N lv tl q2 B D ky E∧Ap (ph tl N) q q1 (2*e)∧Ap (fun z=>sw (2*e) y (ph tl N z)) q1 q2 (2*e+1),⟨((2*e:Nat):Int),by omega,by omega,rfl,f_Ap h6 hf (by omega) fun q1 w7 xs1 ap1=>?_⟩,?_⟩
 ·have hf1:=ap1.f
  rw [e1] at hf1
  exact ⟨((2*e+1:Nat):Int),by omega,by omega,rfl,f_Ap xs1.a hf1 (by omega) fun q2 w8 xs2 ap2=>⟨q1,q2,xs1.trans xs2,ap1,ap2⟩⟩
 rintro _ w9 ⟨q1,q2,xs,ap1,ap2⟩
 have hf2:=ap2.f
 simp only [e2] at hf2
 have hal:=h.w.nodup.2.2.2
 have nd:=h.w.nodup.1
 have sfp:∀z,z<3*N→SF q z (ph tl N z):=fun z hz=>by
  obtain ⟨A,hA,hzA⟩:=hal z hz
  obtain ⟨u,hu⟩:=cy_ex hzA
  rw [hf A hA z u hu]
  exact ⟨A,hA,hu.mem.1,hu.mem.2⟩
 have s1:=sfp (2*e) (by omega)
 have s2:=sfp (2*e+1) (by omega)
 rw [e1] at s1
 rw [e2] at s2
 refine ⟨fun vs w'=>w'=w9∧vs=[.bool (decide (x=2*e∨x=2*e+1∨y=2*e∨y=2*e+1))],?_,?_⟩
 ·refine Qag (fun k=>⟨rfl,?_⟩) (fun k=>Qag (fun k=>⟨rfl,?_⟩) (fun k=>Qag (fun k=>⟨rfl,?_⟩) (fun k=>⟨rfl,?_⟩)))<;>simp only [b1s] at *
  ·rw [decide_eq_true (by omega)]
  ·rw [decide_eq_true (by omega)]
  ·rw [decide_eq_true (by omega)]
  ·congr 2
   rw [Bool.eq_iff_iff,beq_iff_eq,decide_eq_true_iff];omega
 rintro _ b9 w9 ⟨rfl,hb⟩
 simp only [List.cons.injEq,Value.bool.injEq,and_true] at hb
 subst hb
 refine Qag (fun k=>⟨rfl,q2,(h.of c4).trans xs,?_⟩) (fun k=>?_)
 ·exact hf2.congr fun _ _ z _=>k1 (of_decide_eq_true k) z
 have k:=of_decide_eq_false k
 have hlk:∀{u v},LK q2 D u v→LK q D u v:=fun j=>ap1.lk (hal _ (by omega)) (ap2.lk (by
  obtain ⟨A,hA,h3,_⟩:=(ap1.s (2*e+1) (2*e+1)).2 (.inr ⟨by omega,by omega,Qnc nd s2 s2.symm⟩)
  exact ⟨A,hA,h3⟩) j)
 refine Qag (fun ho=>?_) (fun ho=>?_)
 ·refine pt_i ?_
  rw [Qaf]
  refine Qa7 xs.a.r rfl ((f_Split (x:=x) (y:=y) xs.a ((ap2.s _ _).2 (.inr ⟨by omega,by omega,(ap1.s _ _).2 (.inr ⟨by omega,by omega,?_⟩)⟩)) hxy).mono ?_)
  ·exact Qnc nd (Qnc nd s2.symm (h1 ho).symm) s1
  rintro r w10 ⟨rfl,q3,xs3,sp,_⟩
  exact ⟨_,rfl,rfl,q3,(h.of c4).trans (xs.trans xs3),(sp.f _ hf2).congr fun _ _ z _=>k2 k z⟩
 ·refine pt_i ?_
  rw [Qaf]
  refine Qa7 xs.a.r rfl ((Qow (x:=x) (y:=y) xs.a hx3 hy3 fun j=>?_).mono ?_)
  ·exact h2 ho (((LK.sf s1).trans (hlk j).symm).trans (LK.sf s2).symm)
  rintro r w10 ⟨rfl,q3,xs3,mg⟩
  exact ⟨_,rfl,rfl,q3,(h.of c4).trans (xs.trans xs3),(mg.f _ hf2).congr fun _ _ z _=>k2 k z⟩
end
end Core
end Go.Proofs.YtpmicakdjhoafaaGreatDoor
namespace Go.Proofs.YtpmicakdjhoafaaGreatDoor
open Go Go.RowKit
namespace Core
open Go.Proofs.YtpmicakdjhoafaaGreatDoor.Seq Go.Proofs.YtpmicakdjhoafaaGreatDoor.Cut Go.Proofs.YtpmicakdjhoafaaGreatDoor.Web
section
variable {w₀ w w':World} {T TD TL TM N d e u v b p:Nat} {l:List Nat} {tl tl':Nat→List Nat} {o nx pv ls ms o' nx' pv' ls' ms':Nat→Int}
theorem Qzq (hn:l.Nodup) (hd:d∈l) (h:nxt l d=d):l=[d]:=by
 obtain ⟨p,s,rfl⟩:=List.append_of_mem hd
 have hc:Cy (d::(s++p)) d d:=by have:=Qq3.1 (Qxe hn hd);rw [h] at this;simpa using this
 have hn2:(d::(s++p)).Nodup:=by have:=(List.perm_append_comm (l₁:=p) (l₂:=d::s)).nodup_iff.1 hn;simpa using this
 cases hs:s++p with
 | nil=>obtain ⟨rfl,rfl⟩:=List.append_eq_nil_iff.1 hs;rfl
 | cons y r=>
  rw [hs] at hc hn2
  exfalso
  rcases hc with k | ⟨k1,k2⟩
  ·exact nx_ne (a:=d) hn2 rfl k rfl
  ·rw [List.getLast?_cons_cons] at k1
   exact (List.nodup_cons.1 hn2).1 (List.mem_of_getLast? k1)
theorem Qos:lift1 tl v d v=(tl v).filter (·≠d):=Qab _ _ _
theorem Qrg (h:u≠v):lift1 tl v d u=tl u:=Qak _ _ h
theorem TQ.take (hq:TQ N tl o nx pv ls ms) (hv:v<N) (hd:d∈tl v) (hp:p∈dl tl N) (hpd:sg tl N p=d)
  (hl:∀u,u≠v→ls' u=ls u) (hl1:(tl v).length=1→ls' v=-1) (hl2:(tl v).length≠1→ls v=d→ls' v=sg tl N d) (hl3:(tl v).length≠1→ls v≠d→ls' v=ls v) :
  TQ N (lift1 tl v d) (upd o d (-1)) (upd nx p (sg tl N d)) (upd pv (sg tl N d) p) ls' (upd ms v (ms v-1)):=by
 have hn:=hq.nd
 have hm:∀{z},z∈dl (lift1 tl v d) N↔z≠d∧z∈dl tl N:=Ql6 hn hv hd
 have hdl:d∈dl tl N:=Qbq.2 ⟨v,hv,hd⟩
 have hsg:∀{z},sg (lift1 tl v d) N z=sw d (sg tl N d) (sg tl N z):=hn.Qv2 hv hd
 have hlen:((tl v).filter (·≠d)).length+1=(tl v).length:=by rw [(Qzk (hn.nodup hv) hd).length_eq];rfl
 refine ⟨hn.liftD hv hd,fun x hx hn=>?_,fun x hx=>?_,fun u hu h0=>?_,fun u hu h0=>?_,fun u hu=>?_⟩
 ·by_cases hxd:x=d
  ·rw [hxd,Qab]
  ·rw [Qak _ _ hxd];exact hq.of x hx fun k=>hn (hm.2 ⟨hxd,k⟩)
 ·obtain ⟨hxd,hx⟩:=hm.1 hx
  obtain ⟨k1,k2,p',k3,k4,k5⟩:=hq.on x hx
  refine ⟨by rw [Qak _ _ hxd,hn.Qug hv hd hxd];exact k1,?_,?_⟩
  ·rw [hsg]
   by_cases hxp:x=p
   ·rw [hxp,Qab,hpd,sw_l]
   ·rw [Qak _ _ hxp,k2,sw_o (fun k=>hxp (hn.Qtl hx hp (k.trans hpd.symm))) (fun k=>hxd (hn.Qtl hx hdl k))]
  ·by_cases hxs:x=sg tl N d
   ·subst hxs
    refine ⟨p,hm.2 ⟨?_,hp⟩,Qab _ _ _,by rw [hsg,hpd,sw_l]⟩
    rintro rfl
    exact hxd hpd
   ·refine ⟨p',hm.2 ⟨?_,k3⟩,by rw [Qak _ _ hxs];exact k4,by rw [hsg,k5,sw_o hxd hxs]⟩
    rintro rfl
    exact hxs k5.symm
 ·by_cases huv:u=v
  ·subst huv
   rw [Qos] at h0
   rw [h0] at hlen
   exact hl1 hlen.symm
  ·rw [Qrg huv] at h0;rw [hl u huv];exact hq.l0 u hu h0
 ·by_cases huv:u=v
  ·subst huv
   have h1:(tl u).length≠1:=fun k=>h0 (by rw [Qos];exact List.length_eq_zero_iff.1 (by omega))
   obtain ⟨x,hx,e1⟩:=hq.l1 u hu (fun k=>by rw [k] at hd;cases hd)
   rw [Qos]
   by_cases hxd:x=d
   ·subst hxd
    have h2:=hn.sgE hu hx
    refine ⟨nxt (tl u) x,List.mem_filter.2 ⟨Qwe (hn.nodup hu) hx,?_⟩,by rw [hl2 h1 e1,h2]⟩
    rw [decide_eq_true_iff]
    intro k
    have:=Qzq (hn.nodup hu) hx k
    rw [this] at h1;exact h1 rfl
   ·exact ⟨x,List.mem_filter.2 ⟨hx,by simpa using hxd⟩,by rw [hl3 h1 (by omega)];exact e1⟩
  ·rw [Qrg huv] at h0 ⊢;rw [hl u huv];exact hq.l1 u hu h0
 ·by_cases huv:u=v
  ·subst huv;rw [Qab,Qos,hq.m u hu];omega
  ·rw [Qak _ _ huv,Qrg huv];exact hq.m u hu
theorem t_take (h:TB w.heap T TD TL TM N tl) (hv:v<N) (hd:d∈tl v) :
  Calls Pg Qfy #[.pointer (some ⟨T,0,none⟩),.int .i32 d] w fun r w'=>r=.returned (.tuple #[])∧TS w w' T TD TL TM N (lift1 tl v d):=by
 refine (Qoz _ _ _ (fun v' w'=>v'=.tuple #[]∧TS w w' T TD TL TM N (lift1 tl v d)) ?_).mono (by rintro e w' ⟨v,rfl,rfl,k⟩;exact ⟨rfl,k⟩)
 unfold Qk3
 have hdeg:=deg_le h hv
 obtain ⟨o,nx,pv,ls,ms,hr,hq⟩:=h
 have hsz:=hr.sz
 have hdl:d∈dl tl N:=Qbq.2 ⟨v,hv,hd⟩
 have hd2:=hq.nd.lt _ hdl
 obtain ⟨k1,k2,p,hp,k3,k4⟩:=hq.on d hdl
 rw [hq.nd.ogE hv hd] at k1
 have hs:=(hq.nd.Qeo hdl).1
 have hs2:=hq.nd.lt _ hs
 have hp2:=hq.nd.lt _ hp
 have hmv:=hq.m v hv
 have hl0:0<(tl v).length:=List.length_pos_of_mem hd
 generalize hsd:sg tl N d=s at *
 refine pt_i (Qba hr.r rfl (Qb3 hd2 ?_))
 rw [Nat.zero_add,Qaf,Qaf]
 refine Qaj (n:=(v:Int)) hr.d ((Qsh (k:=0) hd2 (by omega)).trans (by rw [←k1];rfl)) (Qaj (n:=(s:Int)) hr.d ((Qsh (k:=1) hd2 (by omega)).trans (by rw [←k2];rfl)) (Qaj (n:=(p:Int)) hr.d ((Qsh (k:=2) hd2 (by omega)).trans (by rw [←k3];rfl)) ?_))
 refine Qa2 fun A w1 hA c1 r1=>?_
 have hA2:A≠TD∧A≠TM∧A≠TL:=by
  have:=hr.m.lt;have:=hr.d.lt;have:=hr.l.lt
  omega
 rw [Qaf,Qaf]
 refine Qdb r1 (by simp) rfl fun w2 c2 r2=>Qdb r2 (by simp) rfl fun w3 c3 r3=>Qdb r3 (by simp) rfl fun w4 c4 r4=>pt_i ?_
 have c5:Chg Qac w w4.drew:=(c1.trans' ((c2.trans c3).trans c4) fun i hi=>.inr (by omega)).drew
 have r5:Row w4.drew.heap A Qb5 [.int .i32 v,.int .i32 s,.int .i32 p]:=r4
 have h5:=hr.nob c5
 generalize w4.drew=w5 at *
 clear r1 r2 r3 r4 c1 c2 c3 c4
 refine Qba h5.r rfl (Qaj (n:=(p:Int)) r5 rfl (pt_i (Qba h5.r rfl (Qaj (n:=(s:Int)) r5 rfl (Qaj (n:=(s:Int)) r5 rfl (Qaj (n:=(p:Int)) r5 rfl (Qb3 hp2 ?_)))))))
 rw [Nat.zero_add,Qaf]
 refine Qdb h5.d (by rw [Qaq _ Qiy];omega) rfl fun w6 c6 rd=>?_
 rw [Qwo hp2] at rd
 have r6:=c6.row hA2.1 r5
 refine ⟨by rw [r6.cell];rfl,by rw [r6.cell];rfl,Qb3 hs2 ?_⟩
 rw [Nat.zero_add,Qaf]
 refine Qdb rd (by rw [Qaq _ Qiy];omega) rfl fun w7 c7 rd2=>pt_i ?_
 rw [Qwn hs2] at rd2
 have h7:=h5.inD (c6.trans c7) rd2
 have r7:=c7.row hA2.1 r6
 have c8:Chg (fun k=>k=TD∨k=TL∨k=TM) w w7.drew:=(c5.weak.trans ((c6.trans c7).mono fun _ _ e=>.inl e)).drew
 have h8:TR w7.drew.heap _ _ _ _ _ _ _ _ _ _:=h7
 have r8:Row w7.drew.heap _ _ _:=r7
 generalize w7.drew=w8 at *
 clear h5 r5 c5 c6 rd r6 c7 rd2 h7 r7
 rw [Qaf]
 refine Qba h8.r rfl (Qaj (n:=(v:Int)) r8 rfl (Qb3 hv (Qaj (n:=ms v) h8.m (by rw [Nat.zero_add,Nat.mul_one];exact Qun hv) (Qb3 hv ?_))))
 rw [Nat.zero_add,Nat.mul_one,wrap32_in (by omega) (by omega)]
 refine Qdb h8.m (by rw [Qaq _ Qtr];omega) rfl fun w9 c9 rm=>pt_i ?_
 rw [Qvj hv] at rm
 have h9:=h8.inM c9 rm
 have r9:=c9.row hA2.2.1 r8
 have c10:Chg (fun k=>k=TD∨k=TL∨k=TM) w w9.drew:=(c8.trans (c9.mono fun _ _ e=>.inr (.inr e))).drew
 have h10:TR w9.drew.heap _ _ _ _ _ _ _ _ _ _:=h9
 have r10:Row w9.drew.heap _ _ _:=r9
 have d0:∀u:World,Chg Qac u u.drew:=fun u=>(Chg.refl _ _).drew
 generalize w9.drew=w10 at *
 clear h8 r8 c8 c9 rm h9 r9
 rw [Qaf]
 refine Qba h10.r rfl (Qaj (n:=(v:Int)) r10 rfl (Qb3 hv (Qaj (n:=ms v-1) h10.m (by rw [Nat.zero_add,Nat.mul_one,Qun hv,Qab]) (Qag (fun k=>pt_i ?_) (fun k=>pt_i ?_)))))<;>simp only [b1s] at k
 ·have c11:=c10.trans (d0 w10).weak
  have h11:=h10.nob (d0 w10)
  have r11:=(d0 w10).row (fun h=>h) r10
  generalize w10.drew=w11 at *
  rw [Qaf]
  refine Qba h11.r rfl (Qaj (n:=(v:Int)) r11 rfl (Qb3 hv ?_))
  rw [Nat.zero_add,Nat.mul_one]
  refine Qdb h11.l (by rw [Qaq _ Qtr];omega) rfl fun w12 c12 rl=>pt_i ?_
  rw [Qvj hv] at rl
  have h12:=h11.inL c12 rl
  refine Qba h12.r rfl (Qb3 hd2 ?_)
  rw [Nat.zero_add]
  refine Qdb h12.d (by rw [Qaq _ Qiy];omega) rfl fun w13 c13 rd=>⟨rfl,(c11.trans (c12.mono fun _ _ e=>.inr (.inl e))).trans (c13.mono fun _ _ e=>.inl e),?_⟩
  rw [Qs9 hd2] at rd
  have hh:=hq.take (ls':=upd ls v (-1)) hv hd hp k4 (fun u hu=>Qak _ _ hu) (fun _=>Qab _ _ _) (fun k=>by omega) (fun k=>by omega)
  rw [hsd] at hh
  exact ⟨_,_,_,_,_,h12.inD c13 rd,hh⟩
 ·have c11:=c10.trans (d0 w10).weak
  have h11:=h10.nob (d0 w10)
  have r11:=(d0 w10).row (fun h=>h) r10
  generalize w10.drew=w11 at *
  rw [Qaf]
  refine Qba h11.r rfl (Qaj (n:=(v:Int)) r11 rfl (Qb3 hv ?_))
  rw [Nat.zero_add,Nat.mul_one]
  refine Qaj (n:=ls v) h11.l (Qun hv) (Qag (fun k2=>pt_i ?_) (fun k2=>pt_i ?_))<;>simp only [b1s] at k2
  ·have c12:=c11.trans (d0 w11).weak
   have h12:=h11.nob (d0 w11)
   have r12:=(d0 w11).row (fun h=>h) r11
   generalize w11.drew=w12 at *
   rw [Qaf]
   refine Qba h12.r rfl (Qaj (n:=(v:Int)) r12 rfl (Qaj (n:=(s:Int)) r12 rfl (Qb3 hv ?_)))
   rw [Nat.zero_add,Nat.mul_one]
   refine Qdb h12.l (by rw [Qaq _ Qtr];omega) rfl fun w13 c13 rl=>pt_i ?_
   rw [Qvj hv] at rl
   have h13:=h12.inL c13 rl
   refine Qba h13.r rfl (Qb3 hd2 ?_)
   rw [Nat.zero_add]
   refine Qdb h13.d (by rw [Qaq _ Qiy];omega) rfl fun w14 c14 rd=>⟨rfl,(c12.trans (c13.mono fun _ _ e=>.inr (.inl e))).trans (c14.mono fun _ _ e=>.inl e),?_⟩
   rw [Qs9 hd2] at rd
   have hh:=hq.take (ls':=upd ls v s) hv hd hp k4 (fun u hu=>Qak _ _ hu) (fun k=>by omega) (fun _ _=>by rw [hsd];exact Qab _ _ _) (fun _ k=>absurd k2 k)
   rw [hsd] at hh
   exact ⟨_,_,_,_,_,h13.inD c14 rd,hh⟩
  ·refine Qba h11.r rfl (Qb3 hd2 ?_)
   rw [Nat.zero_add]
   refine Qdb h11.d (by rw [Qaq _ Qiy];omega) rfl fun w14 c14 rd=>⟨rfl,c11.trans (c14.mono fun _ _ e=>.inl e),?_⟩
   rw [Qs9 hd2] at rd
   have hh:=hq.take (ls':=ls) hv hd hp k4 (fun u hu=>rfl) (fun k=>by omega) (fun _ k=>absurd k k2) (fun _ _=>rfl)
   rw [hsd] at hh
   exact ⟨_,_,_,_,_,h11.inD c14 rd,hh⟩
theorem t_Lift (h:TB w.heap T TD TL TM N tl) (hM:MP N tl) (he:Laid tl N e) :
  Calls Pg Qia #[.pointer (some ⟨T,0,none⟩),.int .i64 e] w fun r w'=>r=.returned (errV 0)∧TS w w' T TD TL TM N (lift tl N e):=by
 refine (Qo2 _ _ _ (fun v' w'=>v'=errV 0∧TS w w' T TD TL TM N (lift tl N e)) ?_).mono (by rintro e w' ⟨v,rfl,rfl,k⟩;exact ⟨rfl,k⟩)
 unfold Qk6
 have hsz:=h.sz
 have heN:=hM.Qcb he
 have hto:=hM.odd he
 refine (Qzb h).mono ?_
 rintro r w4 ⟨rfl,rfl⟩
 rw [if_pos (by omega)]
 refine ⟨_,rfl,Qan (fun e=>absurd rfl e) (fun _=>(t_Has h heN).mono ?_)⟩
 rintro r w5 ⟨rfl,rfl⟩
 refine ⟨_,rfl,Qag (fun k=>by simp [he] at k) (fun _=>?_)⟩
 rw [wrap64_in (x:=2*(e:Int)) (by omega) (by omega),wrap64_in (x:=2*(e:Int)+1) (by omega) (by omega),wrap32_in (x:=2*(e:Int)) (by omega) (by omega),wrap32_in (x:=2*(e:Int)+1) (by omega) (by omega),show (2:Int)*e=((2*e:Nat):Int) by omega,show ((2*e:Nat):Int)+1=((2*e+1:Nat):Int) by omega]
 obtain ⟨o1,o2⟩:=Qcc hto
 refine (t_take h o1 o2).mono ?_
 rintro r w6 ⟨rfl,ts⟩
 obtain ⟨p1,p2⟩:=Qcc he
 have hm:2*e∈lift1 tl (og tl N (2*e+1)) (2*e+1) (og tl N (2*e)):=by
  by_cases k:og tl N (2*e)=og tl N (2*e+1)
  ·rw [k] at p2 ⊢;rw [Qos];exact List.mem_filter.2 ⟨p2,by simp⟩
  ·rw [Qrg k];exact p2
 refine ⟨rfl,(t_take ts.a p1 hm).mono ?_⟩
 rintro r w7 ⟨rfl,ts2⟩
 exact ⟨rfl,rfl,ts.c.trans ts2.c,ts2.a⟩
end
end Core
end Go.Proofs.YtpmicakdjhoafaaGreatDoor
namespace Go.Proofs.YtpmicakdjhoafaaGreatDoor
open Go Go.RowKit
namespace Core
open Go.Proofs.YtpmicakdjhoafaaGreatDoor.Seq Go.Proofs.YtpmicakdjhoafaaGreatDoor.Cut Go.Proofs.YtpmicakdjhoafaaGreatDoor.Web
def KI (N:Nat) (tl:Nat→List Nat) (ky:Nat→Int):Prop:=∀i j,Laid tl N i→Laid tl N j→ky i=ky j→i=j
section
variable {w₀ w w':World} {b:Bk} {N e g v x y z a c u:Nat} {E E':Int} {lv lv':Nat→Bool} {tl tl':Nat→List Nat} {q q':List (List Nat)} {A C:List Nat} {B B' D D':Nat→Option (Nat × Nat)} {ky ky':Nat→Int} {f:Nat→Nat} {lim:Nat→Prop}
theorem CB.bd (h:CB lim N tl q B D):∀i a c,B i=some (a,c)→a<N∧c<N:=fun i a c k=>by
 obtain ⟨k1,k2,_⟩:=h.bB i _ k
 cases k2
 exact ⟨(Qcc k1).1,(Qcc (h.mp.odd k1)).1⟩
theorem MX.cj (h:MX w.heap b N lv tl q B D ky E) (k:CB lim N tl q B D):CJ lim N tl q B D:=by
 obtain ⟨val,f1,_⟩:=h.f
 obtain ⟨v,f2,_⟩:=h.w.f
 refine ⟨k,fo_of f1 (by simp) k.bd fun e a b he=>?_,fo_of f2 h.w.nodup.2.1 (fun e a c he=>by have:=h.w.d e a c he;omega) fun e a c he=>(h.w.d e a c he).2.2.2.1⟩
 obtain ⟨_,k2,k3⟩:=k.bB e _ he
 exact k3
theorem CB.lim0 (h:CB (fun i=>lim i) N tl q B D) (k:∀i,¬lim i):CB (fun _=>False) N tl q B D:=h.lims fun i=>⟨fun j=>k i j,False.elim⟩
theorem Qy3 (h:MX w.heap b N lv tl q B D ky E) (cb:CB (fun i=>i=e) N tl q B D) (mm:MM N tl B D ky fun _=>False) (ki:KI N tl ky) (he:Laid tl N e) (hl:LK [] B (og tl N (2*e)) (og tl N (2*e+1))) (hn:¬LK q D (2*e) (2*e+1)) :
  Calls Pg Qf4 #[.pointer (some ⟨b.M,0,none⟩),.int .i64 e] w fun r w'=>r=.returned (errV 0)∧∃B' D',XS w w' b N lv tl q B' D' ky E∧CB (fun _=>False) N tl q B' D'∧MM N tl B' D' ky fun _=>False:=by
 refine (Qpw _ _ _ (fun v' w'=>v'=errV 0∧∃B' D',XS w w' b N lv tl q B' D' ky E∧CB (fun _=>False) N tl q B' D'∧MM N tl B' D' ky fun _=>False) ?_).mono (by rintro e w' ⟨v,rfl,rfl,k⟩;exact ⟨rfl,k⟩)
 unfold Ql0
 have hM:=cb.mp
 have heN:=hM.Qcb he
 have hsz:=h.sz
 have cj:=h.cj cb
 obtain ⟨hBe,hDe⟩:=cb.li e rfl
 have tied:CB (fun _=>False) N tl q B (upd D e (some (2*e,2*e+1))):=(cb.tie rfl he).lim0 fun i k=>k.2 k.1
 refine (x_ends h hM he).mono ?_
 rintro r w4 ⟨rfl,c1⟩
 have h4:=h.nob c1
 refine ⟨_,_,rfl,Qag (fun k=>?_) (fun k=>pt_i ?_)⟩<;>simp only [b1s] at k
 ·refine (x_tie h4 heN hDe hn).mono ?_
  rintro r w5 ⟨rfl,xs⟩
  refine ⟨_,rfl,rfl,_,_,(h.of c1).trans xs,tied,mm.tie fun g r _ k2=>absurd ?_ k2⟩
  rw [show og tl N (2*e)=og tl N (2*e+1) by omega];exact LK.refl
 have hne:og tl N (2*e)≠og tl N (2*e+1):=by omega
 have ha:=Qcc he
 have hc:=Qcc (hM.odd he)
 rw [Qaf]
 refine Qa7 h4.r rfl ((f_Most h4 cb.bd ha.1 hc.1 hl hne).mono ?_)
 rintro r w5 ⟨o,p,hBo,hno,hmax,rfl,xs⟩
 obtain ⟨hlo,hp,hpne⟩:=cb.bB o p hBo
 have hoN:=hM.Qcb hlo
 refine ⟨_,_,rfl,Qan (fun e=>absurd rfl e) (fun _=>pt_i (Qaj xs.a.r rfl (pt_i ?_)))⟩
 rw [wrap64_in (by omega) (by omega),show ((N+o:Nat):Int)-N=o by omega]
 have c6:Chg Qac w5 w5.drew:=(Chg.refl _ _).drew
 have h6:=xs.a.nob c6
 have xs6:=((h.of c1).trans xs).nob c6
 generalize w5.drew=w6 at *
 rw [Qaf]
 refine Qba h6.r rfl (Qb3 hoN ?_)
 rw [Nat.zero_add,Nat.mul_one]
 refine Qaj (n:=ky o) h6.k (Qsc hoN) (pt_i ?_)
 rw [Qaf]
 refine Qba h6.r rfl (Qb3 heN ?_)
 rw [Nat.zero_add,Nat.mul_one]
 refine Qaj (n:=ky e) h6.k (Qsc heN) (Qag (fun k=>?_) (fun k=>?_))<;>simp only [b1s] at k
 ·refine (x_tie h6 heN hDe hn).mono ?_
  rintro r w7 ⟨rfl,xs7⟩
  refine ⟨_,rfl,rfl,_,_,xs6.trans xs7,tied,mm.tie fun g r k1 k2=>?_⟩
  have:=hmax g r k1 k2
  omega
 subst hp
 have hoe:o≠e:=by rintro rfl;rw [hBe] at hBo;cases hBo
 have hke:ky e<ky o:=by
  have:ky e≠ky o:=fun k=>hoe (ki _ _ he hlo k).symm
  omega
 have hDo:D o=none:=(cb.ex o).resolve_left (by rw [hBo];simp)
 refine (Qtu h6 hM hlo hBo cb.bd hpne).mono ?_
 rintro r w7 ⟨rfl,xs7⟩
 have cb7:=cb.Qy8 hBo
 refine ⟨_,rfl,(Qwy xs7.a hM he (by rw [Qak _ _ hoe.symm];exact hBe) cb7.bd hno).mono ?_⟩
 rintro r w8 ⟨rfl,xs8⟩
 have cb8:=cb7.mark (.inl rfl) he hne
 refine ⟨_,rfl,(x_tie xs8.a hoN hDo (cj.ring (fun i k=>k) he hn hno)).mono ?_⟩
 rintro r w9 ⟨rfl,xs9⟩
 have cb9:=cb8.tie (e:=o) ⟨.inr rfl,hoe⟩ hlo
 refine ⟨_,rfl,Qxl fun w10 c10=>⟨rfl,_,_,(((xs6.trans xs7).trans xs8).trans xs9).nob c10,cb9.lim0 fun i k=>?_,cj.mm_ring mm hBe hBo hno hke fun i r hio hi hni=>?_⟩⟩
 ·rcases k with ⟨⟨k | k,k2⟩,k3⟩
  ·exact k2 k
  ·exact k3 k
 ·have h1:=hmax i r hi hni
  have h2:ky i≠ky o:=fun k=>hio (ki _ _ (cb.bB i r hi).1 hlo k)
  omega
theorem MM.cut {a1 a2:Nat} (mm:MM N tl B D ky fun i=>i=e) (hF:FO [] B) (hB:B e=some (a1,a2)) (hB1:∀i p,B i=some p→p=(og tl N (2*i),og tl N (2*i+1))) (hn:∀f r,D f=some r→LK [] (upd B e none) (og tl N (2*f)) (og tl N (2*f+1))):MM N tl (upd B e none) D ky fun _=>False:=by
 intro g f p r _ hg hf k
 obtain ⟨hge,hg⟩:=Qdq hg
 refine mm g f p r hge hg hf fun j=>?_
 have hge':upd B g none e=some (a1,a2):=by rw [Qak _ _ hge.symm];exact hB
 have c1:upd (upd B g none) e none=upd (upd B e none) g none:=by
  funext i;unfold upd
  by_cases k1:i=g<;>by_cases k2:i=e<;>simp [k1,k2]<;>omega
 rw [Qs4 hge',c1] at j
 have up:∀{x y},LK [] (upd (upd B e none) g none) x y→LK [] (upd B e none) x y:=fun k=>LK.less k
 have h1:=hn f r hf
 rcases j with j | ⟨j1,j2⟩ | ⟨j1,j2⟩
 ·exact k j
 ·exact hF e a1 a2 hB (((up j1).symm.trans h1).trans (up j2).symm)
 ·exact hF e a1 a2 hB (((up j2).trans h1.symm).trans (up j1))
theorem x_open (h:MX w.heap b N lv tl q (upd B e none) D ky E) (cb:CB (fun i=>i=e) N tl q (upd B e none) D) (hB:B e=some (og tl N (2*e),og tl N (2*e+1))) (hF:FO [] B) (mm:MM N tl B D ky fun i=>i=e) (ki:KI N tl ky) (he:Laid tl N e) (hl:LK q D (2*e) (2*e+1)) :
  Calls Pg Qjx #[.pointer (some ⟨b.M,0,none⟩),.int .i64 e] w fun r w'=>r=.returned (errV 0)∧∃B' D',XS w w' b N lv tl q B' D' ky E∧CB (fun _=>False) N tl q B' D'∧MM N tl B' D' ky fun _=>False:=by
 refine (Qrn _ _ _ (fun v' w'=>v'=errV 0∧∃B' D',XS w w' b N lv tl q B' D' ky E∧CB (fun _=>False) N tl q B' D'∧MM N tl B' D' ky fun _=>False) ?_).mono (by rintro e w' ⟨v,rfl,rfl,k⟩;exact ⟨rfl,k⟩)
 unfold Qn0
 have hM:=cb.mp
 have heN:=hM.Qcb he
 have hsz:=h.sz
 have cj:=h.cj cb
 obtain ⟨hBe,hDe⟩:=cb.li e rfl
 have hno:=hF e _ _ hB
 have hne:og tl N (2*e)≠og tl N (2*e+1):=fun k=>hno (by rw [k];exact LK.refl)
 have marked:CB (fun _=>False) N tl q B D:=by
  have:=(cb.mark rfl he hne).lim0 fun i k=>k.2 k.1
  rwa [Qoi,←hB,Qp5] at this
 have mark:∀{w0 w1:World},XS w w0 b N lv tl q (upd B e none) D ky E→(∀f r,D f=some r→¬LK [] (upd B e none) (og tl N (2*f)) (og tl N (2*f+1))→ky e<ky f)→w1=w0→Calls Pg Qb1 #[.pointer (some ⟨b.M,0,none⟩),.int .i64 e] w1 fun r w'=>∃v,r=.returned v∧v=errV 0∧∃B' D',XS w w' b N lv tl q B' D' ky E∧CB (fun _=>False) N tl q B' D'∧MM N tl B' D' ky fun _=>False:=by
  rintro w0 _ xs hk rfl
  refine (Qwy xs.a hM he hBe cb.bd hno).mono ?_
  rintro r w5 ⟨rfl,xs5⟩
  rw [Qoi,←hB,Qp5] at xs5
  refine ⟨_,rfl,rfl,_,_,xs.trans xs5,marked,fun g f p r _ hg hf k=>?_⟩
  by_cases hge:g=e
  ·subst hge;exact hk f r hf k
  ·exact mm g f p r hge hg hf k
 simp only [wrap64_in (x:=2*(e:Int)) (by omega) (by omega),wrap64_in (x:=2*(e:Int)+1) (by omega) (by omega)]
 rw [show (2:Int)*e=((2*e:Nat):Int) by omega,show ((2*e:Nat):Int)+1=((2*e+1:Nat):Int) by omega]
 refine pt_i ?_
 rw [Qaf]
 refine Qa7 h.r rfl ((Qvm h (by omega) (by omega)).mono ?_)
 rintro r w4 ⟨z,rfl,hz,xs⟩
 refine ⟨_,_,rfl,Qan (fun e=>absurd rfl e) (fun _=>Qag (fun k=>?_) (fun k=>pt_i ?_))⟩
 ·refine mark xs (fun f r hf k2=>absurd (LK.sf (hz.1 k)) (cj.among (e:=e) (fun i k=>k) hf k2)) rfl
 have hsf:¬SF q (2*e) (2*e+1):=fun j=>by rw [hz.2 j] at k;cases k
 rw [Qaf]
 refine Qa7 xs.a.r rfl ((Qxm xs.a (by omega) (by omega) hl hsf).mono ?_)
 rintro r w5 ⟨o,p,hDo,hno2,hmin,rfl,xs5⟩
 obtain ⟨hlo,hp⟩:=cb.bD o p hDo
 have hoN:=hM.Qcb hlo
 refine ⟨_,_,rfl,Qan (fun e=>absurd rfl e) (fun _=>pt_i ?_)⟩
 have c6:Chg Qac w5 w5.drew:=(Chg.refl _ _).drew
 have xs6:=(xs.trans xs5).nob c6
 generalize w5.drew=w6 at *
 have h6:=xs6.a
 rw [Qaf]
 refine Qba h6.r rfl (Qb3 heN ?_)
 rw [Nat.zero_add,Nat.mul_one]
 refine Qaj (n:=ky e) h6.k (Qsc heN) (pt_i ?_)
 rw [Qaf]
 refine Qba h6.r rfl (Qb3 hoN ?_)
 rw [Nat.zero_add,Nat.mul_one]
 refine Qaj (n:=ky o) h6.k (Qsc hoN) (Qag (fun k=>?_) (fun k=>pt_i ?_))<;>simp only [b1s] at k
 ·refine mark xs6 (fun f r hf k2=>?_) rfl
  have:=hmin f r hf (cj.among (e:=e) (fun i k=>k) hf k2)
  omega
 have hoe:o≠e:=by rintro rfl;rw [hDe] at hDo;cases hDo
 have hBo:upd B e none o=none:=(cb.ex o).resolve_right (by rw [hDo];simp)
 have hac:=cj.Q0g (fun i k=>k) he hBe hno hno2
 rw [Qaf]
 refine Qa7 h6.r rfl ((Qvx h6.w hoN (a:=p.1) (b:=p.2) hDo).mono ?_)
 rintro r w7 ⟨rfl,ws⟩
 have xs7:=h6.web ws
 have cb7:=cb.untie hDo
 refine ⟨_,rfl,(Qwy xs7.a hM hlo hBo cb7.bd hac).mono ?_⟩
 rintro r w8 ⟨rfl,xs8⟩
 have cb8:=cb7.mark (.inr rfl) hlo fun k=>hac (by rw [k];exact LK.refl)
 refine ⟨_,rfl,(x_tie xs8.a heN (by rw [Qak _ _ hoe.symm];exact hDe) hno2).mono ?_⟩
 rintro r w9 ⟨rfl,xs9⟩
 have cb9:=cb8.tie (e:=e) ⟨.inl rfl,hoe.symm⟩ he
 obtain ⟨m1,m2⟩:=cj.Qzt (lim':=fun _=>False) (fun i k=>k) he hF hB rfl mm hDo hno2 fun i r hio hi hni=>by
  have h1:=hmin i r hi hni
  have h2:ky i≠ky o:=fun k=>hio (ki _ _ (cb.bD i r hi).1 hlo k)
  omega
 refine ⟨_,rfl,Qxl fun w10 c10=>⟨rfl,_,_,(((xs6.trans xs7).trans xs8).trans xs9).nob c10,cb9.lim0 fun i k=>?_,m1.tie fun g r hg hng=>?_⟩⟩
 ·rcases k with ⟨⟨k | k,k2⟩,k3⟩
  ·exact k3 k
  ·exact k2 k
 ·have h1:=m2 g r hg hng
  have h2:ky e≠ky o:=fun k=>hoe (ki _ _ he hlo k).symm
  omega
theorem x_loose (h:MX w.heap b N lv tl q B D ky E) (cb:CB (fun _=>False) N tl q B D) (mm:MM N tl B D ky fun _=>False) (ki:KI N tl ky) (he:Laid tl N e) :
  Calls Pg Qjd #[.pointer (some ⟨b.M,0,none⟩),.int .i64 e] w fun r w'=>∃one,r=.returned (.tuple #[.bool one,errV 0])∧(one=true↔SF q (2*e) (2*e+1))∧∃B' D',XS w w' b N lv tl q B' D' ky E∧CB (fun i=>i=e) N tl q B' D'∧MM N tl B' D' ky (fun _=>False)∧
   (one=false→¬LK q D' (2*e) (2*e+1))∧cB B' N=cB B N-(if one then 1 else 0):=by
 refine (Qqu _ _ _ (fun v' w'=>∃one,v'=.tuple #[.bool one,errV 0]∧(one=true↔SF q (2*e) (2*e+1))∧∃B' D',XS w w' b N lv tl q B' D' ky E∧CB (fun i=>i=e) N tl q B' D'∧MM N tl B' D' ky (fun _=>False)∧
   (one=false→¬LK q D' (2*e) (2*e+1))∧cB B' N=cB B N-(if one then 1 else 0)) ?_).mono (by rintro e w' ⟨v,rfl,one,rfl,k⟩;exact ⟨one,rfl,k⟩)
 unfold Qmy
 have hM:=cb.mp
 have heN:=hM.Qcb he
 have hsz:=h.sz
 have cj:=h.cj cb
 simp only [wrap64_in (x:=2*(e:Int)) (by omega) (by omega),wrap64_in (x:=2*(e:Int)+1) (by omega) (by omega)]
 rw [show (2:Int)*e=((2*e:Nat):Int) by omega,show ((2*e:Nat):Int)+1=((2*e+1:Nat):Int) by omega]
 refine pt_i ?_
 rw [Qaf]
 refine Qa7 h.r rfl ((Qt5 h.w heN).mono ?_)
 rintro r w4 ⟨rfl,rfl⟩
 refine ⟨_,rfl,Qag (fun k=>pt_i ?_) (fun k=>pt_i ?_)⟩
 ·obtain ⟨p,hD⟩:=Option.isSome_iff_exists.1 k
  obtain ⟨_,rfl⟩:=cb.bD e p hD
  rw [Qaf]
  refine Qa7 h.r rfl ((Qvx h.w heN hD).mono ?_)
  rintro r w5 ⟨rfl,ws⟩
  have hno:=cj.fD e _ _ hD
  refine ⟨_,rfl,false,rfl,⟨fun k=>(by cases k),fun k=>absurd (LK.sf k) hno⟩,_,_,h.web ws,(cb.untie hD).lims fun i=>⟨fun k=>k.elim False.elim id,.inr⟩,fun g f p r _ hg hf=>mm g f p r (fun h=>h) hg (Qdq hf).2,fun _=>hno,by simp⟩
 have hDe:D e=none:=by cases hD:D e with
  | none=>rfl
  | some p=>rw [hD] at k;cases k
 obtain ⟨p,hB⟩:∃p,B e=some p:=by
  rcases cb.cov e he with j | j | j
  ·exact j.elim
  ·exact Option.isSome_iff_exists.1 j
  ·rw [hDe] at j;cases j
 obtain ⟨_,rfl,hne⟩:=cb.bB e p hB
 have hno:=cj.fB e _ _ hB
 have hno':¬LK [] (upd B e none) (og tl N (2*e)) (og tl N (2*e+1)):=hno
 have cb1:CB (fun i=>i=e) N tl q (upd B e none) D:=(cb.Qy8 hB).lims fun i=>⟨fun k=>k.elim False.elim id,.inr⟩
 rw [Qaf]
 refine Qa7 h.r rfl ((Qvm h (by omega) (by omega)).mono ?_)
 rintro r w5 ⟨z,rfl,hz,xs⟩
 refine ⟨_,_,rfl,Qan (fun e=>absurd rfl e) (fun _=>Qag (fun k=>?_) (fun k=>pt_i ?_))⟩
 ·refine (Qtu xs.a hM he hB cb.bd hne).mono ?_
  rintro r w6 ⟨rfl,xs6⟩
  have cj1:=xs6.a.cj cb1
  refine ⟨_,rfl,true,rfl,⟨fun _=>hz.1 k,fun _=>rfl⟩,_,_,xs.trans xs6,cb1,?_,fun k=>by (cases k),by rw [Qxw heN,hB];simp⟩
  refine (mm.mono fun _ h=>h.elim).cut cj.fB hB cb.bB1 fun f r hf=>Classical.byContradiction fun k2=>?_
  exact absurd (LK.sf (hz.1 k)) (cj1.among (e:=e) (fun i k=>k) hf k2)
 have hsf:¬SF q (2*e) (2*e+1):=fun j=>by rw [hz.2 j] at k;cases k
 rw [Qaf]
 refine Qa7 xs.a.r rfl ((Qxm xs.a (by omega) (by omega) (cj.link he) hsf).mono ?_)
 rintro r w6 ⟨o,p,hDo,hno2,hmin,rfl,xs6⟩
 obtain ⟨hlo,hp⟩:=cb.bD o p hDo
 have hoN:=hM.Qcb hlo
 have hoe:o≠e:=by rintro rfl;rw [hDe] at hDo;cases hDo
 refine ⟨_,_,rfl,Qan (fun e=>absurd rfl e) (fun _=>pt_i ?_)⟩
 have c7:Chg Qac w6 w6.drew:=(Chg.refl _ _).drew
 have xs7:=(xs.trans xs6).nob c7
 generalize w6.drew=w7 at *
 rw [Qaf]
 refine Qa7 xs7.a.r rfl ((Qtu xs7.a hM he hB cb.bd hne).mono ?_)
 rintro r w8 ⟨rfl,xs8⟩
 have cj1:=xs8.a.cj cb1
 have hBo:upd B e none o=none:=(cb1.ex o).resolve_right (by rw [hDo];simp)
 have hac:=cj1.Q0g (fun i k=>k) he (Qab _ _ _) hno' hno2
 refine ⟨_,rfl,by rw [xs8.a.r.cell];rfl,(Qvx xs8.a.w hoN (a:=p.1) (b:=p.2) hDo).mono ?_⟩
 rintro r w9 ⟨rfl,ws⟩
 have xs9:=xs8.a.web ws
 have cb9:=cb1.untie hDo
 refine ⟨_,rfl,(Qwy xs9.a hM hlo hBo cb9.bd hac).mono ?_⟩
 rintro r w10 ⟨rfl,xs10⟩
 have hoo:og tl N (2*o)≠og tl N (2*o+1):=fun k=>hac (by rw [k];exact LK.refl)
 have cb10:=cb9.mark (.inr rfl) hlo hoo
 obtain ⟨m1,m2⟩:=cj1.Qzt (lim':=fun _=>False) (fun i k=>k) he cj.fB hB rfl (mm.mono fun _ h=>h.elim) hDo hno2 fun i r hio hi hni=>by
  have h1:=hmin i r hi hni
  have h2:ky i≠ky o:=fun k=>hio (ki _ _ (cb.bD i r hi).1 hlo k)
  omega
 refine ⟨_,rfl,Qxl fun w11 c11=>⟨false,rfl,⟨fun k=>by (cases k),fun k=>absurd k hsf⟩,_,_,((xs7.trans (xs8.trans xs9)).trans xs10).nob c11,cb10.lims fun i=>?_,m1,fun _=>hno2,?_⟩⟩
 ·constructor
  ·rintro ⟨k | k,k2⟩
   ·exact k
   ·exact absurd k k2
  ·rintro rfl;exact ⟨.inl rfl,hoe.symm⟩
 ·rw [Qxw hoN,Qxw heN,hB,hBo];simp
end
end Core
end Go.Proofs.YtpmicakdjhoafaaGreatDoor
