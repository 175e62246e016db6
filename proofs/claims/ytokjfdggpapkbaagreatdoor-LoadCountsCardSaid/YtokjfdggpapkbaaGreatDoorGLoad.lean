/-
Places that are given (layers 2 and 3's program), as far as a new state needs them: new ones, and none.
Conditions: those that each theorem states.
-/
import Derived.Test.YtokjfdggpapkbaaGreatDoorGTurn
import Derived.Test.YtokjfdggpapkbaaGreatDoorGMem
import Derived.Test.YtokjfdggpapkbaaGreatDoorHsh
import Derived.Laws.IdiomRangeMap
set_option linter.unusedVariables false
set_option linter.unusedSimpArgs false
namespace Go.Proofs.YtokjfdggpapkbaaGreatDoor
open Go Go.RowKit
namespace Core
open Go.Proofs.YtokjfdggpapkbaaGreatDoor.Seq Go.Proofs.YtokjfdggpapkbaaGreatDoor.Cut Go.Proofs.YtokjfdggpapkbaaGreatDoor.Web
section
variable {w w':World}
theorem Q29:ET Pg Qi4 Qbo 1 24:=ET.of (by kernel_rfl) (by kernel_rfl)
theorem Qy4 {n:Int} (h0:0≤n) (h1:n≤1048576):Calls Pg Qsg #[.int .i64 n] w fun r w'=>r=.returned (.int .i64 ((n+63)/64))∧w'=w:=by
 refine (Qvk _ _ (fun v' w'=>v'=.int .i64 ((n+63)/64)∧w'=w) ?_).mono (by rintro e w' ⟨v,rfl,rfl,k⟩;exact ⟨rfl,k⟩)
 unfold Qsa nr
 rw [wrap64_in (x:=n+64) (by omega) (by omega),wrap64_in (x:=n+64-1) (by omega) (by omega),Int.tdiv_eq_ediv_of_nonneg (by omega),wrap64_in (by omega) (by omega),show n+64-1=n+63 by omega]
 exact ⟨by decide,rfl,rfl⟩
theorem sl_New {n:Int} (h0:1≤n) (h1:n≤1048576):Calls Pg Ql1 #[.int .i64 n] w fun r w'=>∃S,r=.returned (.tuple #[.pointer (some ⟨S,0,none⟩),errV 0])∧Chg Qaa w w':=by
 refine (Qkn _ _ (fun v' w'=>∃S,v'=.tuple #[.pointer (some ⟨S,0,none⟩),errV 0]∧Chg Qaa w w') ?_).mono (by rintro e w' ⟨v,rfl,S,rfl,k⟩;exact ⟨S,rfl,k⟩)
 unfold Qk5 nr
 refine ⟨fun _ w'=>w'=w,?_,?_⟩
 ·refine Qad (fun h=>?_) (fun _=>Qad (fun h=>?_) (fun _=>rfl))<;>simp only [b1s] at h<;>omega
 rintro _ w2 rfl
 refine Qak fun r0=>?_
 have hc0:Chg Qaa w2 (w2.alloc (.cells #[.int .i64 n,.int .i64 0,.slice none 0 0] Qb5)):=(Chg.refl _ _).alloc _
 have hs0:(w2.alloc (.cells #[.int .i64 n,.int .i64 0,.slice none 0 0] Qb5)).heap.size=w2.heap.size+1:=Qpl _ _
 generalize w2.alloc (.cells #[.int .i64 n,.int .i64 0,.slice none 0 0] Qb5)=w4 at *
 generalize hS:w2.heap.size=S at *
 let J:Nat→List Value→World→Prop:=fun j vs w'=>∃(m:Int) (b:Option Addr) (l c:Nat) (xs:List Value),vs=[.int .i64 m]∧1≤m∧m+l≤n∧Chg Qaa w2 w'∧S+1≤w'.heap.size∧Row w'.heap S Qb5 [.int .i64 n,.int .i64 0,.slice b l c]∧Own w' (S+1) Qbo 1 b l c xs∧j=m.toNat
 refine ⟨LI J,LM J,⟨_,n,none,0,0,[],rfl,h0,by omega,hc0,by omega,r0,Own.nil,rfl⟩,?_⟩
 intro _ m w8 hJ
 obtain ⟨m,b,l,c,xs,hvs,hm0,hml,hc,hs8,hr,ho,hj⟩:=hJ.at
 simp only [List.cons.injEq,Value.int.injEq,and_true,true_and] at hvs
 subst hvs
 refine (Qy4 (by omega) (by omega)).mono ?_
 rintro r w10 ⟨rfl,rfl⟩
 obtain ⟨k,hk⟩:∃k:Nat,(m+63)/64=k:=⟨((m+63)/64).toNat,by omega⟩
 rw [hk]
 refine ⟨_,rfl,by omega,Int.le_refl _,by omega,Qak fun r1=>?_⟩
 have et:Int.toNat (k:Int)=k:=rfl
 rw [et] at r1 ⊢
 rw [Qap] at r1
 have hc1:Chg Qaa w10 (w10.alloc (.cells (Qbi #[.int .u64 0] k) Qhx)):=(Chg.refl _ _).alloc _
 have hs1:(w10.alloc (.cells (Qbi #[.int .u64 0] k) Qhx)).heap.size=w10.heap.size+1:=Qpl _ _
 generalize w10.alloc (.cells (Qbi #[.int .u64 0] k) Qhx)=w13 at *
 refine ⟨fun _ w'=>Chg (·=w10.heap.size) w13 w',?_,?_⟩
 ·refine ⟨by decide,Qad (fun _=>?_) (fun _=>Chg.refl _ _)⟩
  have ht:0≤Int.tmod m 64:=by rw [Int.tmod_eq_emod_of_nonneg (by omega)];omega
  rw [wrap64_in (by omega) (by omega),show (k:Int)-1=((k-1:Nat):Int) by omega]
  refine ⟨ht,Qaq (by omega) ?_⟩
  rw [Nat.zero_add,Nat.mul_one]
  exact Qa4 r1 (by rw [Qah (sz:=1) _ (fun _=>rfl)];omega) rfl fun _=>(Chg.refl _ _).setCell _ _ (.inl rfl)
 intro _ w17 hc17
 have hcc:Chg Qaa w10 w17:=hc1.trans' hc17 fun i e=>.inr (by omega)
 have hs17:=hc17.size
 rw [Qac]
 refine Qaj (hcc.row (fun h=>h) hr) rfl (Qak fun r2=>?_)
 have hc2:Chg Qaa w10 (w17.alloc (.cells #[.slice (some ⟨w10.heap.size,0,none⟩) k k] Qbo)):=hcc.alloc _
 have hs2:(w17.alloc (.cells #[.slice (some ⟨w10.heap.size,0,none⟩) k k] Qbo)).heap.size=w17.heap.size+1:=Qpl _ _
 generalize w17.alloc (.cells #[.slice (some ⟨w10.heap.size,0,none⟩) k k] Qbo)=w20 at *
 have ho2:=ho.chg hc2 fun _ _ _ h=>h
 obtain ⟨b',c',w22,hrun,ho3,hc3,_⟩:=Qbv (ty:=Qi4) Q29 ho2 r2 rfl (by intro u hu;simp at hu;subst hu;rfl) (by omega) (by omega) (by omega)
 refine ⟨b',l+1,c',w22,hrun,?_⟩
 have hc4:Chg Qaa w2 w22:=(hc.trans hc2).trans' hc3 fun i e=>.inr (by have:=(ho2.Qa3 e).1;omega)
 have hr3:=hc3.row (fun e=>by have:=(ho2.Qa3 e).1;omega) (hc2.row (fun h=>h) hr)
 have hs3:=hc3.size
 refine Qa4 hr3 (by simp) rfl fun hr4=>?_
 have hc5:Chg Qaa w2 (w22.setCell ⟨S,0+2,none⟩ (.slice b' (l+1) c')):=hc4.setCell _ _ (.inr (show w2.heap.size≤S by omega))
 have hc6:Chg (·=S) w22 (w22.setCell ⟨S,0+2,none⟩ (.slice b' (l+1) c')):=(Chg.refl _ _).setCell _ _ (.inl rfl)
 have ho4:=ho3.chg hc6 fun g hg _ e=>by omega
 have hs4:=hc6.size
 generalize w22.setCell ⟨S,0+2,none⟩ (.slice b' (l+1) c')=w23 at *
 refine Qad (fun hle=>⟨S,rfl,hc5⟩) (fun hle=>?_)<;>simp only [b1s] at hle
 refine (Qy4 (by omega) (by omega)).mono ?_
 rintro r w25 ⟨rfl,rfl⟩
 refine ⟨_,rfl,LI.again (k:=k) ⟨(m+63)/64,b',l+1,c',_,rfl,by omega,by omega,hc5,by omega,hr4,ho4,by rw [hk];rfl⟩ (by rw [hj];omega)⟩
theorem sl_New_bad {n:Int} (h:¬(1≤n∧n≤1048576)):Calls Pg Ql1 #[.int .i64 n] w fun r w'=>r=.returned (.tuple #[.pointer none,errV 1])∧w'=w:=by
 refine (Qkn _ _ (fun v' w'=>v'=.tuple #[.pointer none,errV 1]∧w'=w) ?_).mono (by rintro e w' ⟨v,rfl,rfl,k⟩;exact ⟨rfl,k⟩)
 unfold Qk5 nr
 refine ⟨fun _ _=>False,?_,fun _ _ h=>h.elim⟩
 refine Qad (fun h=>⟨rfl,rfl⟩) (fun h1=>Qad (fun h=>⟨rfl,rfl⟩) (fun h2=>?_))
 simp only [b1s] at h1 h2
 omega
def arow (n S:Nat):List Value:=[.int .i64 n,.slice none 0 0,.pointer (some ⟨S,0,none⟩),.int .i64 0]
theorem ar_New {n:Nat} (h0:1≤n) (h1:n≤1048576):Calls Pg Qmf #[.int .i64 n] w fun r w'=>∃A S,r=.returned (.tuple #[.pointer (some ⟨A,0,none⟩),errV 0])∧Chg Qaa w w'∧w.heap.size≤A∧Row w'.heap A Qck (arow n S):=by
 refine (Qks _ _ (fun v' w'=>∃A S,v'=.tuple #[.pointer (some ⟨A,0,none⟩),errV 0]∧Chg Qaa w w'∧w.heap.size≤A∧Row w'.heap A Qck (arow n S)) ?_).mono (by rintro e w' ⟨v,rfl,A,S,rfl,k⟩;exact ⟨A,S,rfl,k⟩)
 unfold Qlr nr
 refine (sl_New (by omega) (by omega)).mono ?_
 rintro r w3 ⟨S,rfl,hc⟩
 refine ⟨_,_,rfl,Qai (fun e=>absurd rfl e) (fun _=>Qak fun r1=>⟨_,S,rfl,hc.alloc _,hc.size,r1⟩)⟩
theorem Qyq {n:Int} (h:¬(1≤n∧n≤1048576)):Calls Pg Qmf #[.int .i64 n] w fun r w'=>r=.returned (.tuple #[.pointer none,errV 1])∧w'=w:=by
 refine (Qks _ _ (fun v' w'=>v'=.tuple #[.pointer none,errV 1]∧w'=w) ?_).mono (by rintro e w' ⟨v,rfl,rfl,k⟩;exact ⟨rfl,k⟩)
 unfold Qlr nr
 refine (sl_New_bad h).mono ?_
 rintro r w3 ⟨rfl,rfl⟩
 exact ⟨_,_,rfl,Qai (fun _=>⟨rfl,rfl⟩) (fun e=>absurd e (by decide))⟩
theorem Q0q:Calls Pg Qbh #[.slice none 0 0] w fun r w'=>r=.returned (.slice none 0 0)∧w'=w:=by
 refine (Qb0 _ _ _ _ (fun v' w'=>v'=.slice none 0 0∧w'=w) ?_).mono (by rintro e w' ⟨v,rfl,rfl,k⟩;exact ⟨rfl,k⟩)
 unfold Qbg nr
 exact Qad (fun _=>⟨rfl,rfl⟩) (fun h=>by cases h)
theorem Qra {A n S:Nat} (h:Row w.heap A Qck (arow n S)):Calls Pg Qeu #[.pointer (some ⟨A,0,none⟩)] w fun r w'=>r=.returned (.slice none 0 0)∧w'=w:=by
 refine (Qgt _ _ (fun v' w'=>v'=.slice none 0 0∧w'=w) ?_).mono (by rintro e w' ⟨v,rfl,rfl,k⟩;exact ⟨rfl,k⟩)
 unfold Qen nr
 refine Qad (fun h=>by cases h) (fun _=>pt_i (Qaj h rfl (Q0q.mono ?_)))
 rintro r w4 ⟨rfl,rfl⟩
 exact ⟨_,_,_,rfl,rfl,rfl⟩
theorem ar_Len {A n S:Nat} (h:Row w.heap A Qck (arow n S)):Calls Pg Qhr #[.pointer (some ⟨A,0,none⟩)] w fun r w'=>r=.returned (.int .i64 0)∧w'=w:=by
 refine (Qix _ _ (fun v' w'=>v'=.int .i64 0∧w'=w) ?_).mono (by rintro e w' ⟨v,rfl,rfl,k⟩;exact ⟨rfl,k⟩)
 unfold Qg8 nr
 exact Qad (fun h=>by cases h) (fun _=>pt_i (Qaf h rfl ⟨rfl,rfl⟩))
theorem has_nil:Calls Pg Qa6 #[.slice none 0 0,.func (.func Qgr) #[] #[]] w fun r w'=>r=.returned (.bool false)∧w'=w:=by
 refine (Qbm _ _ _ _ _ (fun v' w'=>v'=.bool false∧w'=w) ?_).mono (by rintro e w' ⟨v,rfl,rfl,k⟩;exact ⟨rfl,k⟩)
 unfold Qa5 nr
 refine (Qbp _ _ _ _ _ (fun v' w'=>v'=.int .i64 (-1)∧w'=w) ?_).mono ?_
 ·unfold Qbc nr
  refine ⟨fun vs w'=>w'=w∧vs=[.int .i64 0],fun _ _=>0,⟨rfl,rfl⟩,?_⟩
  rintro _ i w5 ⟨rfl,hi⟩
  simp only [List.cons.injEq,Value.int.injEq,and_true,true_and] at hi
  subst hi
  exact Qad (fun h=>by simp only [b1s] at h;omega) (fun _=>⟨rfl,rfl⟩)
 ·rintro r w3 ⟨v,rfl,rfl,rfl⟩
  exact ⟨_,rfl,rfl,rfl⟩
theorem ar_Load {n:Nat} (h0:1≤n) (h1:n≤1048576):Calls Pg Qn9 #[.int .i64 n,.slice none 0 0] w fun r w'=>∃A,r=.returned (.tuple #[.pointer (some ⟨A,0,none⟩),errV 0])∧Chg Qaa w w':=by
 refine (Qo7 _ _ _ _ _ (fun v' w'=>∃A,v'=.tuple #[.pointer (some ⟨A,0,none⟩),errV 0]∧Chg Qaa w w') ?_).mono (by rintro e w' ⟨v,rfl,A,rfl,k⟩;exact ⟨A,rfl,k⟩)
 unfold Qn2 nr
 refine (ar_New h0 h1).mono ?_
 rintro r w4 ⟨A,S,rfl,hc,hA,hr⟩
 refine ⟨_,_,rfl,Qai (fun e=>absurd rfl e) (fun _=>⟨fun _ w'=>w'=w4,?_,?_⟩)⟩
 ·refine Qad (fun h=>by simp only [b1s] at h;omega) (fun _=>has_nil.mono ?_)
  rintro r w8 ⟨rfl,rfl⟩
  exact ⟨_,rfl,Qad (fun h=>by cases h) (fun _=>Qad (fun h=>by simp only [b1s] at h;omega) (fun _=>rfl))⟩
 rintro _ w12 rfl
 refine Q0q.mono ?_
 rintro r w14 ⟨rfl,rfl⟩
 refine ⟨_,_,_,rfl,pt_i ?_⟩
 rw [Qac]
 refine Qa4 hr (by simp [arow]) rfl fun hr2=>?_
 have hc2:Chg Qaa w (w14.setCell ⟨A,0+1,none⟩ (.slice none 0 0)):=hc.setCell _ _ (.inr hA)
 generalize w14.setCell ⟨A,0+1,none⟩ (.slice none 0 0)=w17 at *
 refine ⟨fun vs w'=>w'=w17∧vs=[.int .i64 0],fun _ _=>0,⟨rfl,rfl⟩,?_⟩
 rintro _ i w21 ⟨rfl,hi⟩
 simp only [List.cons.injEq,Value.int.injEq,and_true,true_and] at hi
 subst hi
 exact Qad (fun h=>by simp only [b1s] at h;omega) (fun _=>⟨A,rfl,hc2⟩)
end
end Core
end Go.Proofs.YtokjfdggpapkbaaGreatDoor
namespace Go.Proofs.YtokjfdggpapkbaaGreatDoor
open Go Go.RowKit
namespace Core
open Go.Proofs.YtokjfdggpapkbaaGreatDoor.Seq Go.Proofs.YtokjfdggpapkbaaGreatDoor.Cut Go.Proofs.YtokjfdggpapkbaaGreatDoor.Web
section
variable {w w':World} {T TD TL TM N:Nat} {tl:Nat→List Nat} {ob:Option Addr} {oc:Nat}
theorem Q04 (h:TB w.heap T TD TL TM N tl):Calls Pg Qge #[.pointer (some ⟨T,0,none⟩)] w fun r w'=>r=.returned (.tuple #[.int .i64 N,.int .i64 N])∧Chg Qaa w w':=by
 refine (Qhy _ _ (fun v' w'=>v'=.tuple #[.int .i64 N,.int .i64 N]∧Chg Qaa w w') ?_).mono (by rintro e w' ⟨v,rfl,rfl,k⟩;exact ⟨rfl,k⟩)
 unfold Qf7 nr
 obtain ⟨o,nx,pv,ls,ms,hr,hq⟩:=h
 have hsz:=hr.sz
 have hR:Row w.drew.heap T Qmz _:=hr.r
 refine Qad (fun h=>by cases h) (fun _=>pt_i ?_)
 rw [Qac]
 refine Qaj hR rfl (pt_i (Qaj hR rfl ⟨by decide,?_⟩))
 rw [tdiv2,wrap64_in (by omega) (by omega)]
 exact ⟨rfl,(Chg.refl _ _).drew⟩
theorem Q10 {k:Nat}:recs (fun _=>[Value.bool false]) k=recs (bc fun _=>false) k:=rfl
theorem t_odd (h:TB w.heap T TD TL TM 1 tl):Calls Pg Qie #[.pointer (some ⟨T,0,none⟩),.slice ob 0 oc] w fun r w'=>r=.returned (.bool false)∧Chg Qaa w w':=by
 refine (Qjo _ _ _ _ _ (fun v' w'=>v'=.bool false∧Chg Qaa w w') ?_).mono (by rintro e w' ⟨v,rfl,rfl,k⟩;exact ⟨rfl,k⟩)
 unfold Qh8 nr
 obtain ⟨o,nx,pv,ls,ms,hr,hq⟩:=h
 refine pt_i (Qaj hr.r rfl ⟨by omega,Int.le_refl _,by omega,Qak fun r1=>?_⟩)
 have hc1:Chg Qaa w (w.alloc (.cells (Qbi #[.bool false] (Int.toNat ((2*1:Nat):Int))) Qc1)):=(Chg.refl _ _).alloc _
 have et:Int.toNat ((2*1:Nat):Int)=2:=rfl
 rw [et] at r1 hc1 ⊢
 rw [Qap,Q10] at r1
 generalize w.alloc (.cells (Qbi #[.bool false] 2) Qc1)=w5 at *
 refine ⟨fun vs w'=>w'=w5∧vs=[.int .i64 0],fun _ _=>0,⟨rfl,rfl⟩,?_⟩
 rintro _ i w9 ⟨rfl,hi⟩
 simp only [List.cons.injEq,Value.int.injEq,and_true,true_and] at hi
 subst hi
 refine Qad (fun h=>by simp only [b1s] at h;omega) (fun _=>?_)
 let J:Nat→List Value→World→Prop:=fun j vs w'=>∃i:Nat,vs=[.int .i64 i]∧i≤2∧w'=w9∧j=2-i
 refine ⟨LI J,LM J,⟨_,0,rfl,by omega,rfl,rfl⟩,?_⟩
 intro _ i w25 hJ
 obtain ⟨i,hvs,hin,rfl,hj⟩:=hJ.at
 simp only [List.cons.injEq,Value.int.injEq,and_true,true_and] at hvs
 subst hvs
 refine Qad (fun hlt=>?_) (fun hlt=>?_)<;>simp only [b1s] at hlt
 ·refine Qaq (by omega) (Qpf (n:=false) r1 (by rw [Nat.zero_add,Nat.mul_one];exact Qh4 (by omega)) ?_)
  have hx:∃k:Nat,k<2∧IntKind.i64.wrap ((BitVec.ofInt (IntKind.bits .i64) (i:Int) ^^^ BitVec.ofInt (IntKind.bits .i64) (1:Int)).toNat:Int)=k:=by
   rcases (by omega:i=0∨i=1) with rfl | rfl
   ·exact ⟨1,by omega,by decide⟩
   ·exact ⟨0,by omega,by decide⟩
  obtain ⟨k,hk,hx⟩:=hx
  rw [hx]
  refine Qaq hk (Qpf (n:=false) r1 (by rw [Nat.zero_add,Nat.mul_one];exact Qh4 hk) (Qad (fun h=>by cases h) (fun _=>?_)))
  rw [wrap64_in (by omega) (by omega)]
  exact LI.again (k:=2-(i+1)) ⟨i+1,rfl,by omega,rfl,rfl⟩ (by rw [hj];omega)
 ·refine pt_i ?_
  rw [Qac]
  exact Qaj (hc1.row (fun h=>h) hr.r) rfl ⟨rfl,hc1⟩
theorem t_Load0:Calls Pg Qqc #[.int .i64 1,.int .i64 1,.slice ob 0 oc] w fun r w'=>∃T TD TL TM,r=.returned (.tuple #[.pointer (some ⟨T,0,none⟩),errV 0])∧Chg Qaa w w'∧TB w'.heap T TD TL TM 1 (fun _=>[]):=by
 refine (Qqm _ _ _ _ _ _ (fun v' w'=>∃T TD TL TM,v'=.tuple #[.pointer (some ⟨T,0,none⟩),errV 0]∧Chg Qaa w w'∧TB w'.heap T TD TL TM 1 (fun _=>[])) ?_).mono (by rintro e w' ⟨v,rfl,a,b,c,d,rfl,k⟩;exact ⟨a,b,c,d,rfl,k⟩)
 unfold Qpt nr
 refine (t_New (N:=1) (by omega) (by omega)).mono ?_
 rintro r w5 ⟨T,TD,TL,TM,rfl,hc,hb,ht⟩
 refine ⟨_,_,rfl,Qai (fun e=>absurd rfl e) (fun _=>(t_odd ht).mono ?_)⟩
 rintro r w8 ⟨rfl,hc2⟩
 refine ⟨_,rfl,Qad (fun h=>by cases h) (fun _=>?_)⟩
 refine ⟨fun vs w'=>w'=w8∧vs=[.int .i64 0],fun _ _=>0,⟨rfl,rfl⟩,?_⟩
 rintro _ i w9 ⟨rfl,hi⟩
 simp only [List.cons.injEq,Value.int.injEq,and_true,true_and] at hi
 subst hi
 exact Qad (fun h=>by simp only [b1s] at h;omega) (fun _=>⟨T,TD,TL,TM,rfl,hc.trans hc2,ht.nob hc2⟩)
theorem Q1p {f:Value}:Calls Pg Qb8 #[.slice none 0 0,f] w fun r w'=>r=.returned (.bool false)∧w'=w:=by
 refine (Qdd _ _ _ _ _ (fun v' w'=>v'=.bool false∧w'=w) ?_).mono (by rintro e w' ⟨v,rfl,rfl,k⟩;exact ⟨rfl,k⟩)
 unfold Qb7 nr
 refine (Qdy _ _ _ _ _ (fun v' w'=>v'=.int .i64 (-1)∧w'=w) ?_).mono ?_
 ·unfold Qcp nr
  refine ⟨fun vs w'=>w'=w∧vs=[.int .i64 0],fun _ _=>0,⟨rfl,rfl⟩,?_⟩
  rintro _ i w5 ⟨rfl,hi⟩
  simp only [List.cons.injEq,Value.int.injEq,and_true,true_and] at hi
  subst hi
  exact Qad (fun h=>by simp only [b1s] at h;omega) (fun _=>⟨rfl,rfl⟩)
 ·rintro r w3 ⟨v,rfl,rfl,rfl⟩
  exact ⟨_,rfl,rfl,rfl⟩
theorem s_check0 (h:TB w.heap T TD TL TM 1 (fun _=>[])):Calls Pg Qke #[.pointer (some ⟨T,0,none⟩),.slice none 0 0] w fun r w'=>r=.returned (errV 0)∧Chg Qaa w w':=by
 refine (Qmj _ _ _ _ _ (fun v' w'=>v'=errV 0∧Chg Qaa w w') ?_).mono (by rintro e w' ⟨v,rfl,rfl,k⟩;exact ⟨rfl,k⟩)
 unfold Qj5 nr
 refine (Q04 h).mono ?_
 rintro r w4 ⟨rfl,hc⟩
 refine ⟨_,_,rfl,Qak fun r1=>Qa4 r1 (by simp) rfl fun r2=>?_⟩
 have hc2:Chg Qaa w ((w4.alloc (.cells #[.int .i64 0] Qba)).setCell ⟨w4.heap.size,0,none⟩ (.int .i64 ((1:Nat):Int))):=(hc.alloc _).setCell _ _ (.inr hc.size)
 generalize (w4.alloc (.cells #[.int .i64 0] Qba)).setCell ⟨w4.heap.size,0,none⟩ (.int .i64 ((1:Nat):Int))=w8 at *
 refine Qad (fun h=>by cases h) (fun _=>Q1p.mono ?_)
 rintro r w10 ⟨rfl,rfl⟩
 refine ⟨_,rfl,Qad (fun h=>by cases h) (fun _=>Qaf (n:=((1:Nat):Int)) r2 (by simp) ⟨by omega,Int.le_refl _,by omega,Qak fun r3=>?_⟩)⟩
 have et:Int.toNat ((1:Nat):Int)=1:=rfl
 rw [et] at r3 ⊢
 rw [Qap,Q10] at r3
 have hc3:Chg Qaa w (w10.alloc (.cells (Qbi #[.bool false] 1) Qc1)):=hc2.alloc _
 generalize w10.alloc (.cells (Qbi #[.bool false] 1) Qc1)=w14 at *
 refine ⟨fun vs w'=>w'=w14∧vs=[.int .i64 0],fun _ _=>0,⟨rfl,rfl⟩,?_⟩
 rintro _ i w18 ⟨rfl,hi⟩
 simp only [List.cons.injEq,Value.int.injEq,and_true,true_and] at hi
 subst hi
 refine Qad (fun h=>by simp only [b1s] at h;omega) (fun _=>?_)
 let J:Nat→List Value→World→Prop:=fun j vs w'=>∃i:Nat,vs=[.int .i64 i]∧i≤1∧w'=w18∧j=1-i
 refine ⟨LI J,LM J,⟨_,0,rfl,by omega,rfl,rfl⟩,?_⟩
 intro _ i w28 hJ
 obtain ⟨i,hvs,hin,rfl,hj⟩:=hJ.at
 simp only [List.cons.injEq,Value.int.injEq,and_true,true_and] at hvs
 subst hvs
 refine Qad (fun hlt=>?_) (fun _=>⟨rfl,hc3⟩)
 simp only [b1s] at hlt
 refine Qaq (by omega) (Qpf (n:=false) r3 (by rw [Nat.zero_add,Nat.mul_one];exact Qh4 (by omega)) ?_)
 refine (Q2g (v:=i) (h.nob hc3) (by omega)).mono ?_
 rintro r w33 ⟨rfl,rfl⟩
 refine ⟨_,_,rfl,Qai (fun e=>absurd rfl e) (fun _=>Qad (fun h=>by simp only [b1s] at h;simp at h) (fun _=>?_))⟩
 rw [wrap64_in (by omega) (by omega)]
 exact LI.again (k:=1-(i+1)) ⟨i+1,rfl,by omega,rfl,rfl⟩ (by rw [hj];omega)
theorem u_New1:Calls Pg Qqb #[.int .i64 1] w fun r w'=>∃G,r=.returned (.tuple #[.pointer (some ⟨G,0,none⟩),errV 0])∧Chg Qaa w w':=by
 refine (Qql _ _ (fun v' w'=>∃G,v'=.tuple #[.pointer (some ⟨G,0,none⟩),errV 0]∧Chg Qaa w w') ?_).mono (by rintro e w' ⟨v,rfl,a,rfl,k⟩;exact ⟨a,rfl,k⟩)
 unfold Qps nr
 refine ⟨fun _ w'=>w'=w,?_,?_⟩
 ·exact Qad (fun h=>by simp only [b1s] at h;omega) (fun _=>Qad (fun h=>by simp only [b1s] at h;omega) (fun _=>rfl))
 rintro _ w2 rfl
 have et:Int.toNat (1:Int)=1:=rfl
 simp only [et]
 refine ⟨fun vs w'=>∃G A C E,vs=[.pointer (some ⟨G,0,none⟩)]∧Chg Qaa w2 w'∧(w2.heap.size≤A∧w2.heap.size≤C∧w2.heap.size≤E)∧(G≠A∧G≠C∧G≠E∧A≠C∧A≠E∧C≠E)∧Row w'.heap G Qii [.slice (some ⟨A,0,none⟩) 1 1,.slice (some ⟨C,0,none⟩) 1 1,.slice (some ⟨E,0,none⟩) 1 1,.slice none 0 0]∧
  Row w'.heap A Qax [.int .i32 0]∧Row w'.heap C Qax [.int .i32 0]∧Row w'.heap E Qax [.int .i32 0],?_,?_⟩
 ·have y0:(0:Int)≤1:=by omega
  have y2:(4:Int)*1≤140737488355328:=by omega
  have ye:=Int.le_refl (1:Int)
  refine ⟨⟨y0,ye,y2,Qak fun r1=>⟨⟨y0,ye,y2,Qak fun r2=>⟨y0,ye,y2,Qak fun r3=>Qak fun r4=>?_⟩⟩,y0,ye,y2,Qak fun r2=>⟨y0,ye,y2,Qak fun r3=>Qak fun r4=>?_⟩⟩⟩,
   ⟨y0,ye,y2,Qak fun r1=>⟨⟨y0,ye,y2,Qak fun r2=>⟨y0,ye,y2,Qak fun r3=>Qak fun r4=>?_⟩⟩,y0,ye,y2,Qak fun r2=>⟨y0,ye,y2,Qak fun r3=>Qak fun r4=>?_⟩⟩⟩,
   y0,ye,y2,Qak fun r1=>⟨⟨y0,ye,y2,Qak fun r2=>⟨y0,ye,y2,Qak fun r3=>Qak fun r4=>?_⟩⟩,y0,ye,y2,Qak fun r2=>⟨y0,ye,y2,Qak fun r3=>Qak fun r4=>?_⟩⟩⟩
  all_goals
   refine ⟨_,_,_,_,rfl,((((Chg.refl _ _).drew.alloc _).alloc _).alloc _).alloc _,?_,?_,r4,by first | exact ((r1.alloc _).alloc _).alloc _ | exact (r2.alloc _).alloc _ | exact r3.alloc _,by first | exact ((r1.alloc _).alloc _).alloc _ | exact (r2.alloc _).alloc _ | exact r3.alloc _,by first | exact ((r1.alloc _).alloc _).alloc _ | exact (r2.alloc _).alloc _ | exact r3.alloc _⟩<;>simp only [Qpl,Q0l]<;>omega
 rintro _ p w3 ⟨G,A,C,E,hp,hc,hb,hn,rG,rA,rC,rE⟩
 simp only [List.cons.injEq,Value.pointer.injEq,and_true] at hp
 subst hp
 refine pt_i (Qaj rG rfl ?_)
 let J:Nat→List Value→World→Prop:=fun j vs w'=>∃i:Nat,vs=[.int .i64 i]∧i≤1∧(i=0→w'=w3)∧Chg Qaa w2 w'∧j=1-i
 refine ⟨LI J,LM J,⟨_,0,rfl,by omega,fun _=>rfl,hc,rfl⟩,?_⟩
 intro _ i w28 hJ
 obtain ⟨i,hvs,hin,h0,hc4,hj⟩:=hJ.at
 simp only [List.cons.injEq,Value.int.injEq,and_true,true_and] at hvs
 subst hvs
 refine Qad (fun hlt=>?_) (fun _=>⟨G,rfl,hc4⟩)
 simp only [b1s] at hlt
 have hi:i=0:=by omega
 subst hi
 obtain rfl:=h0 rfl
 have kG:Row w28.drew.heap G Qii _:=rG
 have kA:Row w28.drew.heap A Qax _:=rA
 refine pt_i (Qaj kG rfl (pt_i ?_))
 rw [Qac]
 refine Qaj kG rfl (pt_i ?_)
 rw [Qac]
 refine Qaj kG rfl (Qaq (by omega) (Qa4 kA (by simp) rfl fun kA2=>?_))
 have c5:Chg (·=A) w28.drew _:=(Chg.refl (·=A) w28.drew).setCell ⟨A,0+0*1,none⟩ (.int .i32 (IntKind.wrap .i32 ((0:Nat):Int))) (.inl rfl)
 have kC:=c5.row (by omega) (show Row w28.drew.heap C Qax _ from rC)
 have kE:=c5.row (by omega) (show Row w28.drew.heap E Qax _ from rE)
 have c6:Chg Qaa w2 _:=hc4.drew.trans' c5 fun k e=>.inr (by omega)
 generalize w28.drew.setCell ⟨A,0+0*1,none⟩ (.int .i32 (IntKind.wrap .i32 ((0:Nat):Int)))=w61 at *
 refine Qaq (by omega) (Qa4 kC (by simp) rfl fun kC2=>?_)
 have c7:Chg (·=C) w61 _:=(Chg.refl (·=C) w61).setCell ⟨C,0+0*1,none⟩ (.int .i32 1) (.inl rfl)
 have kE2:=c7.row (by omega) kE
 have c8:Chg Qaa w2 _:=c6.trans' c7 fun k e=>.inr (by omega)
 generalize w61.setCell ⟨C,0+0*1,none⟩ (.int .i32 1)=w63 at *
 refine Qaq (by omega) (Qa4 kE2 (by simp) rfl fun _=>?_)
 have c9:Chg Qaa w2 _:=c8.setCell ⟨E,0+0*1,none⟩ (.int .i32 (IntKind.wrap .i32 ((0:Nat):Int))) (.inr hb.2.2)
 rw [wrap64_in (by omega) (by omega)]
 exact LI.again (k:=0) ⟨1,rfl,by omega,fun h=>(by cases h),c9,rfl⟩ (by rw [hj];omega)
theorem s_groups0 (h:TB w.heap T TD TL TM 1 (fun _=>[])):Calls Pg Qi3 #[.pointer (some ⟨T,0,none⟩)] w fun r w'=>∃G,r=.returned (.tuple #[.pointer (some ⟨G,0,none⟩),errV 0])∧Chg Qaa w w':=by
 refine (Qkm _ _ (fun v' w'=>∃G,v'=.tuple #[.pointer (some ⟨G,0,none⟩),errV 0]∧Chg Qaa w w') ?_).mono (by rintro e w' ⟨v,rfl,a,rfl,k⟩;exact ⟨a,rfl,k⟩)
 unfold Qi2 nr
 refine (Q04 h).mono ?_
 rintro r w3 ⟨rfl,hc⟩
 refine ⟨_,_,rfl,u_New1.mono ?_⟩
 rintro r w7 ⟨G,rfl,hc2⟩
 refine ⟨_,_,rfl,Qai (fun e=>absurd rfl e) (fun _=>?_)⟩
 let J:Nat→List Value→World→Prop:=fun j vs w'=>∃i:Nat,vs=[.int .i64 i]∧i≤1∧w'=w7∧j=1-i
 refine ⟨LI J,LM J,⟨_,0,rfl,by omega,rfl,rfl⟩,?_⟩
 intro _ i w12 hJ
 obtain ⟨i,hvs,hin,rfl,hj⟩:=hJ.at
 simp only [List.cons.injEq,Value.int.injEq,and_true,true_and] at hvs
 subst hvs
 refine Qad (fun hlt=>?_) (fun _=>⟨G,rfl,hc.trans hc2⟩)
 simp only [b1s] at hlt
 refine (t_Has (e:=i) (h.nob (hc.trans hc2)) (by omega)).mono ?_
 rintro r w14 ⟨rfl,rfl⟩
 have hno:decide (Laid (fun _=>[]) 1 i)=false:=by
  rw [decide_eq_false_iff_not]
  intro k
  have:dl (fun _=>[]) 1=[]:=by unfold dl;simp
  unfold Laid at k;rw [this] at k;cases k
 rw [hno]
 refine ⟨_,rfl,Qad (fun _=>?_) (fun h=>by cases h)⟩
 rw [wrap64_in (by omega) (by omega)]
 exact LI.again (k:=1-(i+1)) ⟨i+1,rfl,by omega,rfl,rfl⟩ (by rw [hj];omega)
end
end Core
end Go.Proofs.YtokjfdggpapkbaaGreatDoor
