import Derived.Test.YtokjfdggpapkbaaGreatDoorGLoad
import Derived.Test.YtokjfdggpapkbaaGreatDoorHsh
import Derived.Test.YtokjfdggpapkbaaGreatDoorGRefC
import Derived.Laws.BytesArg
import Derived.Test.YtokjfdggpapkbaaGreatDoorGLaw
/-
A model without anything can be (layers 11, 12 and 17's program).
Conditions: those that each theorem states.
-/


set_option linter.unusedVariables false
set_option linter.unusedSimpArgs false
namespace Go.Proofs.YtokjfdggpapkbaaGreatDoor
open Go Go.RowKit
namespace Core
open Go.Proofs.YtokjfdggpapkbaaGreatDoor.Seq Go.Proofs.YtokjfdggpapkbaaGreatDoor.Cut Go.Proofs.YtokjfdggpapkbaaGreatDoor.Web
section
variable {w w':World} {T TD TL TM n:Nat}
theorem dl_nil0 {N:Nat}:dl (fun _=>[]) N=[]:=by unfold dl;simp
theorem dE_nil {N x:Nat} (h:x<2*N):dE (fun _=>[]) N (x:Int)=13:=by rw [Q3h,if_pos h,dl_nil0,if_neg (by simp)]
theorem f_Walk0 {x:Nat} (h:TB w.heap T TD TL TM 1 (fun _=>[])) (hx:x<2):Calls Pg Ql7 #[.pointer (some ⟨T,0,none⟩),.int .i64 x] w fun r w'=>r=.returned (.tuple #[.slice none 0 0,errV 13])∧Chg Qaa w w':=by
 refine (Qkq _ _ _ (fun v' w'=>v'=.tuple #[.slice none 0 0,errV 13]∧Chg Qaa w w') ?_).mono (by rintro e w' ⟨v,rfl,rfl,k⟩;exact ⟨rfl,k⟩)
 unfold Qle nr
 have e0:=dE_nil (N:=1) (x:=x) (by omega)
 refine (Qkr _ _ _ (fun v' w'=>v'=.tuple #[.int .i64 0,errV 13]∧Chg Qaa w w') ?_).mono ?_
 ·unfold Qlf nr
  refine (Qpn h (d:=x) (by rw [e0];decide)).mono ?_
  rintro r w4 ⟨rfl,hc⟩
  rw [e0]
  exact ⟨_,_,rfl,Qai (fun _=>⟨rfl,hc⟩) (fun e=>absurd e (by decide))⟩
 ·rintro r w4 ⟨v,rfl,rfl,hc⟩
  exact ⟨_,_,rfl,Qai (fun _=>⟨rfl,hc⟩) (fun e=>absurd e (by decide))⟩
theorem f_All0 (h:TB w.heap T TD TL TM 1 (fun _=>[])):Calls Pg Qs6 #[.pointer (some ⟨T,0,none⟩)] w fun r w'=>r=.returned (.slice none 0 0)∧Chg Qaa w w':=by
 refine (Qsm _ _ (fun v' w'=>v'=.slice none 0 0∧Chg Qaa w w') ?_).mono (by rintro e w' ⟨v,rfl,rfl,k⟩;exact ⟨rfl,k⟩)
 unfold Qsy nr
 refine (Q04 h).mono ?_
 rintro r w3 ⟨rfl,hc⟩
 refine ⟨_,_,rfl,?_⟩
 have e2:IntKind.i64.wrap ((2:Int)*((1:Nat):Int))=2:=by decide
 rw [e2]
 refine ⟨by omega,Int.le_refl _,by omega,Qak fun r1=>?_⟩
 have et:Int.toNat (2:Int)=2:=rfl
 rw [et] at r1 ⊢
 rw [Qap,Q10] at r1
 have hc1:Chg Qaa w (w3.alloc (.cells (Qbi #[.bool false] 2) Qc1)):=hc.alloc _
 have hlt:w3.heap.size<(w3.alloc (.cells (Qbi #[.bool false] 2) Qc1)).heap.size:=by rw [Qpl];omega
 generalize w3.alloc (.cells (Qbi #[.bool false] 2) Qc1)=w6 at *
 let J:Nat→List Value→World→Prop:=fun j vs w'=>∃i:Nat,vs=[.slice none 0 0,.int .i64 i]∧i≤2∧Chg Qaa w6 w'∧j=2-i
 refine ⟨LI J,LM J,⟨_,0,rfl,by omega,Chg.refl _ _,rfl⟩,?_⟩
 intro _ b l c i w11 hJ
 obtain ⟨i,hvs,hin,hc2,hj⟩:=hJ.at
 simp only [List.cons.injEq,Value.int.injEq,Value.slice.injEq,and_true,true_and] at hvs
 obtain ⟨⟨rfl,rfl,rfl⟩,rfl⟩:=hvs
 refine Qad (fun hlt=>?_) (fun hlt=>?_)<;>simp only [b1s] at hlt
 ·refine Qaq (by omega) (Qpf (n:=false) (hc2.row (fun h=>h) r1) (by rw [Nat.zero_add,Nat.mul_one];exact Qh4 (by omega)) (Qad (fun h=>by cases h) (fun _=>?_)))
  refine (f_Walk0 (x:=i) (h.nob (hc1.trans hc2)) (by omega)).mono ?_
  rintro r w16 ⟨rfl,hc3⟩
  refine ⟨_,_,_,_,rfl,Qai (fun _=>?_) (fun e=>absurd e (by decide))⟩
  rw [wrap64_in (by omega) (by omega)]
  exact LI.again (k:=2-(i+1)) ⟨i+1,rfl,by omega,hc2.trans hc3,rfl⟩ (by rw [hj];omega)
 ·exact ⟨rfl,hc1.trans hc2⟩
theorem s_each0 (h:TB w.heap T TD TL TM 1 (fun _=>[])):Calls Pg Qm9 #[.pointer (some ⟨T,0,none⟩),.slice none 0 0] w fun r w'=>∃m,r=.returned (.tuple #[.map (some m),errV 0])∧Chg Qaa w w'∧w'.heap[m]?=some (.map #[] 0):=by
 refine (Qnt _ _ _ _ _ (fun v' w'=>∃m,v'=.tuple #[.map (some m),errV 0]∧Chg Qaa w w'∧w'.heap[m]?=some (.map #[] 0)) ?_).mono (by rintro e w' ⟨v,rfl,a,rfl,k⟩;exact ⟨a,rfl,k⟩)
 unfold Qm3 nr
 refine (s_check0 h).mono ?_
 rintro r w3 ⟨rfl,hc⟩
 refine ⟨_,rfl,Qai (fun e=>absurd rfl e) (fun _=>(s_groups0 (h.nob hc)).mono ?_)⟩
 rintro r w7 ⟨G,rfl,hc2⟩
 refine ⟨_,_,rfl,Qai (fun e=>absurd rfl e) (fun _=>?_)⟩
 have hc3:Chg Qaa w (w7.alloc (.map #[] 0)):=(hc.trans hc2).alloc _
 have hm:(w7.alloc (.map #[] 0)).heap[w7.heap.size]?=some (.map #[] 0):=heap_alloc_new _ _
 have hlt:w7.heap.size<(w7.alloc (.map #[] 0)).heap.size:=by rw [Qpl];omega
 refine ⟨some w7.heap.size,w7.alloc (.map #[] 0),rfl,?_⟩
 generalize w7.alloc (.map #[] 0)=w10 at *
 refine ⟨fun vs w'=>w'=w10∧vs=[.int .i64 0],fun _ _=>0,⟨rfl,rfl⟩,?_⟩
 rintro _ i w14 ⟨rfl,hi⟩
 simp only [List.cons.injEq,Value.int.injEq,and_true,true_and] at hi
 subst hi
 refine Qad (fun h=>by simp only [b1s] at h;omega) (fun _=>(f_All0 (h.nob hc3)).mono ?_)
 rintro r w28 ⟨rfl,hc4⟩
 refine ⟨_,_,_,rfl,fun vs w'=>w'=w28∧vs=[.int .i64 0],fun _ _=>0,⟨rfl,rfl⟩,?_⟩
 rintro _ i w33 ⟨rfl,hi⟩
 simp only [List.cons.injEq,Value.int.injEq,and_true,true_and] at hi
 subst hi
 refine Qad (fun h=>by simp only [b1s] at h;omega) (fun _=>⟨_,rfl,hc3.trans hc4,?_⟩)
 rw [hc4.block _ hlt (fun h=>h)];exact hm
theorem s_Flat0 (h:TB w.heap T TD TL TM 1 (fun _=>[])):Calls Pg Qna #[.pointer (some ⟨T,0,none⟩),.slice none 0 0] w fun r w'=>r=.returned (.tuple #[.bool true,errV 0])∧Chg Qaa w w':=by
 refine (Qvh _ _ _ _ _ (fun v' w'=>v'=.tuple #[.bool true,errV 0]∧Chg Qaa w w') ?_).mono (by rintro e w' ⟨v,rfl,rfl,k⟩;exact ⟨rfl,k⟩)
 unfold Qr7 nr
 refine (s_each0 h).mono ?_
 rintro r w4 ⟨m,rfl,hc,hm⟩
 refine ⟨_,_,rfl,Qai (fun e=>absurd rfl e) (fun _=>⟨_,_,run_range_map w4 Qc0 Qba Qat m #[] 0 (by kernel_rfl) hm,?_⟩)⟩
 refine ⟨fun vs w'=>w'=w4.alloc (.mapIter (some m) 0 #[] 0)∧vs=[],fun _ _=>0,⟨rfl,rfl⟩,?_⟩
 rintro _ w10 ⟨rfl,_⟩
 rcases run_next_map (P:=Pg) w4 T_ m 0 0 #[] #[] 0 hm (by simp) (Nat.le_refl _) with ⟨_,h⟩ | ⟨e,he,_⟩
 ·exact .inl ⟨_,h,rfl,hc.alloc _⟩
 ·simp [leftOf] at he
def mo (n:Nat):Value:=.agg #[.int .i64 n,.slice none 0 0,.slice none 0 0,.slice none 0 0]
def morow (n:Nat):List Value:=[.int .i64 n,.slice none 0 0,.slice none 0 0,.slice none 0 0]
theorem ml_lists (h0:1≤n) (h1:n≤1048576):Calls Pg Qfp #[mo n] w fun r w'=>r=.returned (.bool true)∧Chg Qaa w w':=by
 refine (Qhv _ _ _ _ _ _ _ _ _ _ _ (fun v' w'=>v'=.bool true∧Chg Qaa w w') ?_).mono (by rintro e w' ⟨v,rfl,rfl,k⟩;exact ⟨rfl,k⟩)
 unfold Qfk nr
 refine Qak fun r1=>?_
 have hc:Chg Qaa w (w.alloc (.cells #[.int .i64 n,.slice none 0 0,.slice none 0 0,.slice none 0 0] Qau)):=(Chg.refl _ _).alloc _
 generalize w.alloc (.cells #[.int .i64 n,.slice none 0 0,.slice none 0 0,.slice none 0 0] Qau)=w5 at *
 simp only [Qac]
 refine Qaf (n:=(n:Int)) r1 rfl (Qaj r1 rfl ((ar_Load h0 h1).mono ?_))
 rintro r w10 ⟨A,rfl,hc2⟩
 have r2:=hc2.row (fun h=>h) r1
 refine ⟨_,_,rfl,Qai (fun e=>absurd rfl e) (fun _=>⟨fun _ w'=>Chg Qaa w5 w',?_,?_⟩)⟩
 ·refine Qaf (n:=(n:Int)) r2 rfl (Qaj r2 rfl ((ar_Load h0 h1).mono ?_))
  rintro r w17 ⟨A,rfl,hc3⟩
  have r3:=hc3.row (fun h=>h) r2
  exact ⟨_,_,rfl,Qai (fun e=>absurd rfl e) (fun _=>Qaj r3 rfl (Qaj r3 rfl (Qad (fun h=>by cases h) (fun _=>hc2.trans hc3))))⟩
 intro _ w21 hc3
 refine Qaj (hc3.row (fun h=>h) r1) rfl ⟨fun vs w'=>w'=w21∧vs=[.int .i64 0],fun _ _=>0,⟨rfl,rfl⟩,?_⟩
 rintro _ i w26 ⟨rfl,hi⟩
 simp only [List.cons.injEq,Value.int.injEq,and_true,true_and] at hi
 subst hi
 exact Qad (fun h=>by simp only [b1s] at h;omega) (fun _=>⟨trivial,hc.trans hc3⟩)
theorem ml_cycles:Calls Pg Qet #[mo n] w fun r w'=>∃b,r=.returned (.tuple #[.slice b 0 0,.bool true])∧Chg Qaa w w':=by
 refine (Qgs _ _ _ _ _ _ _ _ _ _ _ (fun v' w'=>∃b,v'=.tuple #[.slice b 0 0,.bool true]∧Chg Qaa w w') ?_).mono (by rintro e w' ⟨v,rfl,a,rfl,k⟩;exact ⟨a,rfl,k⟩)
 unfold Qem nr
 refine Qak fun r1=>?_
 simp only [Qac]
 refine Qaj r1 rfl ⟨by omega,by omega,by omega,Qak fun r2=>Qaj (r1.alloc _) rfl ⟨by decide,by decide,by decide,Qak fun r3=>?_⟩⟩
 refine ⟨fun vs w'=>w'=_∧vs=[.int .i64 0],fun _ _=>0,⟨rfl,rfl⟩,?_⟩
 rintro _ i w15 ⟨rfl,hi⟩
 simp only [List.cons.injEq,Value.int.injEq,and_true,true_and] at hi
 subst hi
 exact Qad (fun h=>absurd h (by rw [show IntKind.i64.wrap ((2:Int)*((0:Nat):Int))=0 by decide];decide)) (fun _=>⟨_,rfl,(((Chg.refl _ _).alloc _).alloc _).alloc _⟩)
theorem ml_flat {b:Option Addr}:Calls Pg Qgf #[mo n,.slice b 0 0] w fun r w'=>r=.returned (.bool true)∧Chg Qaa w w':=by
 refine (Qh0 _ _ _ _ _ _ _ _ _ _ _ _ _ _ (fun v' w'=>v'=.bool true∧Chg Qaa w w') ?_).mono (by rintro e w' ⟨v,rfl,rfl,k⟩;exact ⟨rfl,k⟩)
 unfold Qf9 nr
 refine Qak fun r1=>?_
 have hc:Chg Qaa w (w.alloc (.cells #[.int .i64 n,.slice none 0 0,.slice none 0 0,.slice none 0 0] Qau)):=(Chg.refl _ _).alloc _
 generalize w.alloc (.cells #[.int .i64 n,.slice none 0 0,.slice none 0 0,.slice none 0 0] Qau)=w5 at *
 simp only [Qac]
 refine Qaj r1 rfl (Qaj r1 rfl (t_Load0.mono ?_))
 rintro r w11 ⟨T,TD,TL,TM,rfl,hc2,ht⟩
 refine ⟨_,_,rfl,Qai (fun e=>absurd rfl e) (fun _=>Qaj (hc2.row (fun h=>h) r1) rfl ?_)⟩
 refine ⟨fun vs w'=>w'=w11∧vs=[.slice none 0 0,.int .i64 0],fun _ _=>0,⟨rfl,rfl⟩,?_⟩
 rintro _ sb sl sc i w18 ⟨rfl,hi⟩
 simp only [List.cons.injEq,Value.int.injEq,Value.slice.injEq,and_true,true_and] at hi
 obtain ⟨⟨rfl,rfl,rfl⟩,rfl⟩:=hi
 refine Qad (fun h=>by simp only [b1s] at h;omega) (fun _=>(s_Flat0 ht).mono ?_)
 rintro r w33 ⟨rfl,hc3⟩
 exact ⟨_,_,rfl,Qad (fun _=>⟨Qbx _,by rw [Qbw];rfl,(hc.trans hc2).trans hc3⟩) (fun h=>by cases h)⟩
theorem ml_Round (h0:1≤n) (h1:n≤1048576):Calls Pg Qnb #[mo n] w fun r w'=>∃b,r=.returned (.tuple #[.slice b 0 0,errV 0])∧Chg Qaa w w':=by
 refine (Qnu _ _ _ _ _ _ _ _ _ _ _ (fun v' w'=>∃b,v'=.tuple #[.slice b 0 0,errV 0]∧Chg Qaa w w') ?_).mono (by rintro e w' ⟨v,rfl,a,rfl,k⟩;exact ⟨a,rfl,k⟩)
 unfold Qm4 nr
 refine Qak fun r1=>?_
 have hc:Chg Qaa w (w.alloc (.cells #[.int .i64 n,.slice none 0 0,.slice none 0 0,.slice none 0 0] Qau)):=(Chg.refl _ _).alloc _
 generalize w.alloc (.cells #[.int .i64 n,.slice none 0 0,.slice none 0 0,.slice none 0 0] Qau)=w5 at *
 simp only [Qac]
 refine Qaf (n:=(n:Int)) r1 rfl (Qaj r1 rfl (Qaj r1 rfl (Qaj r1 rfl ((ml_lists h0 h1).mono ?_))))
 rintro r w11 ⟨rfl,hc2⟩
 have r2:=hc2.row (fun h=>h) r1
 refine ⟨_,rfl,Qad (fun h=>by cases h) (fun _=>Qaf (n:=(n:Int)) r2 rfl (Qaj r2 rfl (Qaj r2 rfl (Qaj r2 rfl (ml_cycles.mono ?_)))))⟩
 rintro r w19 ⟨b,rfl,hc3⟩
 have r3:=hc3.row (fun h=>h) r2
 refine ⟨_,_,_,_,rfl,Qad (fun h=>by cases h) (fun _=>Qaf (n:=(n:Int)) r3 rfl (Qaj r3 rfl (Qaj r3 rfl (Qaj r3 rfl (ml_flat.mono ?_)))))⟩
 rintro r w26 ⟨rfl,hc4⟩
 exact ⟨_,rfl,Qad (fun h=>by cases h) (fun _=>⟨b,rfl,((hc.trans hc2).trans hc3).trans hc4⟩)⟩
theorem Q2z (h0:1≤n) (h1:n≤1048576):Calls Pg Qsh #[mo n] w fun r w'=>r=.returned (errV 0)∧Chg Qaa w w':=by
 refine (Qvl _ _ _ _ _ _ _ _ _ _ _ (fun v' w'=>v'=errV 0∧Chg Qaa w w') ?_).mono (by rintro e w' ⟨v,rfl,rfl,k⟩;exact ⟨rfl,k⟩)
 unfold Qsb nr
 refine Qak fun r1=>?_
 have hc:Chg Qaa w (w.alloc (.cells #[.int .i64 n,.slice none 0 0,.slice none 0 0,.slice none 0 0] Qau)):=(Chg.refl _ _).alloc _
 generalize w.alloc (.cells #[.int .i64 n,.slice none 0 0,.slice none 0 0,.slice none 0 0] Qau)=w5 at *
 simp only [Qac]
 refine Qaf (n:=(n:Int)) r1 rfl (Qaj r1 rfl (Qaj r1 rfl (Qaj r1 rfl ((ml_Round h0 h1).mono ?_))))
 rintro r w11 ⟨b,rfl,hc2⟩
 exact ⟨_,_,_,_,rfl,rfl,hc.trans hc2⟩
end
end Core
end Go.Proofs.YtokjfdggpapkbaaGreatDoor
/-
A state without anything (layer 18's program): made, told as a model, and as bytes.
Conditions: those that each theorem states.
-/




set_option linter.unusedVariables false
set_option linter.unusedSimpArgs false
namespace Go.Proofs.YtokjfdggpapkbaaGreatDoor
open Go Go.RowKit
namespace Core
open Go.Proofs.YtokjfdggpapkbaaGreatDoor.Seq Go.Proofs.YtokjfdggpapkbaaGreatDoor.Cut Go.Proofs.YtokjfdggpapkbaaGreatDoor.Web
structure LS (h:Array Obj) (S A1 A2 S1 S2:Nat) (b:Bk) (n:Nat) (lv:Nat→Bool):Prop where
 r:Row h S Qi0 [.pointer (some ⟨A1,0,none⟩),.pointer (some ⟨A2,0,none⟩),.pointer (some ⟨b.M,0,none⟩)]
 a1:Row h A1 Qck (arow n S1)
 a2:Row h A2 Qck (arow n S2)
 m:MR h b n lv (fun _=>[]) (ones (3*n)) (fun _=>none) (fun _=>none) (fun _=>0)
 ne:¬b.has S∧¬b.has A1∧¬b.has A2
section
variable {w w':World} {S A1 A2 S1 S2 n:Nat} {b:Bk} {lv:Nat→Bool}
theorem LS.nob (h:LS w.heap S A1 A2 S1 S2 b n lv) (c:Chg Qaa w w'):LS w'.heap S A1 A2 S1 S2 b n lv:=
 ⟨c.row (fun h=>h) h.r,c.row (fun h=>h) h.a1,c.row (fun h=>h) h.a2,h.m.nob c,h.ne⟩
theorem ld_New (h0:1≤n) (h1:n≤1048576):Calls Pg Qs5 #[.int .i64 n] w fun r w'=>∃S A1 A2 S1 S2 b,r=.returned (.tuple #[.pointer (some ⟨S,0,none⟩),errV 0])∧Chg Qaa w w'∧LS w'.heap S A1 A2 S1 S2 b n (fun _=>false)∧∀k,b.has k→w.heap.size≤k:=by
 refine (Qsl _ _ (fun v' w'=>∃S A1 A2 S1 S2 b,v'=.tuple #[.pointer (some ⟨S,0,none⟩),errV 0]∧Chg Qaa w w'∧LS w'.heap S A1 A2 S1 S2 b n (fun _=>false)∧∀k,b.has k→w.heap.size≤k) ?_).mono (by rintro e w' ⟨v,rfl,a,b,c,d,e,f,rfl,k⟩;exact ⟨a,b,c,d,e,f,rfl,k⟩)
 unfold Qsx nr
 refine (ar_New h0 h1).mono ?_
 rintro r w3 ⟨A1,S1,rfl,hc1,hA1,r1⟩
 refine ⟨_,_,rfl,Qai (fun e=>absurd rfl e) (fun _=>(ar_New h0 h1).mono ?_)⟩
 rintro r w7 ⟨A2,S2,rfl,hc2,hA2,r2⟩
 refine ⟨_,_,rfl,Qai (fun e=>absurd rfl e) (fun _=>(Qzs h0 h1).mono ?_)⟩
 rintro r w11 ⟨b,rfl,hc3,hb,hm⟩
 refine ⟨_,_,rfl,Qai (fun e=>absurd rfl e) (fun _=>Qak fun r3=>?_)⟩
 have l1:=r1.lt
 have l2:=r2.lt
 have s2:=hc2.size
 have s3:=hc3.size
 have s1:=hc1.size
 refine ⟨_,A1,A2,S1,S2,b,rfl,((hc1.trans hc2).trans hc3).alloc _,⟨r3,((hc2.trans hc3).row (fun h=>h) r1).alloc _,(hc3.row (fun h=>h) r2).alloc _,hm.nob ((Chg.refl _ _).alloc _),fun k=>?_,fun k=>?_,fun k=>?_⟩,fun k hk=>by have:=hb k hk;omega⟩
 ·have hx:∀k,b.has k→k<w11.heap.size:=by
   intro k hk
   have lt:=hm.t.lt
   obtain ⟨_,f,_⟩:=hm.w.f
   obtain ⟨_,g,_⟩:=hm.f
   have g1:=hm.v.lt
   have g2:=hm.k.lt
   have g3:=hm.r.lt
   have g4:=hm.w.r.lt
   have g5:=hm.w.a.r.lt
   have g6:=hm.w.a.a.lt
   have g7:=f.lt
   have g8:=hm.w.e.lt
   have g9:=g.lt
   unfold Bk.has at hk;omega
  have:=hx _ k
  omega
 ·have:=hb _ k;omega
 ·have:=hb _ k;omega
theorem ld_mo {A:Nat} {u:World} {x:Int} {e:TypeId} (r:Row u.heap A e [.int .i64 x,.slice none 0 0,.slice none 0 0,.slice none 0 0]) {K:Int→Option Addr→Nat→Nat→Option Addr→Nat→Nat→Option Addr→Nat→Nat→Prop} (k:K x none 0 0 none 0 0 none 0 0):Qd6 ⟨A,0,none⟩ u K:=by
 unfold Qd6
 rw [Qac,Qac,Qac]
 exact Qaf (n:=x) r rfl (Qaj r rfl (Qaj r rfl (Qaj r rfl k)))
theorem mo_w {A:Nat} {u:World} {x y:Int} {e:TypeId} {K:World→Prop} (r:Row u.heap A e [.int .i64 y,.slice none 0 0,.slice none 0 0,.slice none 0 0])
  (k:∀u',Chg (·=A) u u'→Row u'.heap A e [.int .i64 x,.slice none 0 0,.slice none 0 0,.slice none 0 0]→K u') :
  sts ⟨A,0,none⟩ 0 [.int .i64 x,.slice none 0 0,.slice none 0 0,.slice none 0 0] u K:=
 Qtq r rfl (by intro v hv;simp at hv;rcases hv with rfl | rfl<;>rfl) k
theorem mo_io {A:Nat} {u:World} {x y:Int} {e:TypeId} {E:Value} {R:Value→World→Prop} (r:Row u.heap A e [.int .i64 y,.slice none 0 0,.slice none 0 0,.slice none 0 0])
  (k:∀u',Chg (·=A) u u'→R (.tuple #[.agg #[.int .i64 x,.slice none 0 0,.slice none 0 0,.slice none 0 0],E]) u') :
  sts ⟨A,0,none⟩ 0 [.int .i64 x,.slice none 0 0,.slice none 0 0,.slice none 0 0] u fun u4=>
   Qd6 ⟨A,0,none⟩ u4 fun n10 b1 l1 c1 b2 l2 c2 b3 l3 c3=>R (.tuple #[.agg #[.int .i64 n10,.slice b1 l1 c1,.slice b2 l2 c2,.slice b3 l3 c3],E]) u4:=
 mo_w r fun u' hc hr=>ld_mo hr (k u' hc)
theorem whole_yes (h:LS w.heap S A1 A2 S1 S2 b n lv):Calls Pg Qgg #[.pointer (some ⟨S,0,none⟩)] w fun r w'=>r=.returned (.bool true)∧w'=w:=by
 refine (Qh1 _ _ (fun v' w'=>v'=.bool true∧w'=w) ?_).mono (by rintro e w' ⟨v,rfl,rfl,k⟩;exact ⟨rfl,k⟩)
 unfold Qga nr
 rw [show (⟨S,0,none⟩:Addr)=⟨S,0,none⟩ from rfl]
 exact Qad (fun _=>pt_i (Qas h.r rfl (Qad (fun _=>pt_i (Qas (o:=1) h.r rfl (Qad (fun _=>pt_i (Qas (o:=2) h.r rfl ⟨rfl,rfl⟩)) (fun h=>by cases h)))) (fun h=>by cases h)))) (fun h=>by cases h)
theorem ld_Model (h0:1≤n) (h1:n≤1048576) (h:LS w.heap S A1 A2 S1 S2 b n lv):Calls Pg Qgh #[.pointer (some ⟨S,0,none⟩)] w fun r w'=>(cV lv n=0→r=.returned (.tuple #[mo n,errV 0]))∧(cV lv n≠0→r=.returned (.tuple #[mo 0,errV 17]))∧Chg Qaa w w':=by
 refine (Qh2 _ _ (fun v' w'=>(cV lv n=0→v'=.tuple #[mo n,errV 0])∧(cV lv n≠0→v'=.tuple #[mo 0,errV 17])∧Chg Qaa w w') ?_).mono (by rintro e w' ⟨v,rfl,k1,k2,k3⟩;exact ⟨fun j=>by rw [k1 j],fun j=>by rw [k2 j],k3⟩)
 unfold Qgb nr
 have e0:∀{i:Nat},cE (fun _=>[]) i=0:=Qwz fun e _=>if_neg fun k=>(by unfold Laid at k;rw [dl_nil0] at k;cases k)
 have e1:∀{i:Nat},cB (fun _=>none) i=0:=Qwz fun _ _=>rfl
 refine Qak fun r1=>?_
 have hc1:Chg Qaa w (w.alloc (.cells #[.int .i64 0,.slice none 0 0,.slice none 0 0,.slice none 0 0] Qau)):=(Chg.refl _ _).alloc _
 generalize w.alloc (.cells #[.int .i64 0,.slice none 0 0,.slice none 0 0,.slice none 0 0] Qau)=w2 at *
 generalize hX:w.heap.size=X at *
 have hs:=h.nob hc1
 simp only [Qac]
 refine (whole_yes hs).mono ?_
 rintro r w4 ⟨rfl,rfl⟩
 refine ⟨_,rfl,Qad (fun h=>by cases h) (fun _=>pt_i (Qas hs.r rfl ((c_Room hs.m).mono ?_)))⟩
 rintro r w17 ⟨rfl,rfl⟩
 have hd:LS w17.drew.heap S A1 A2 S1 S2 b n lv:=hs
 refine ⟨_,rfl,fun vs w'=>∃Y,vs=[.pointer (some ⟨Y,0,none⟩)]∧Chg Qaa w17 w'∧Row w'.heap Y Qau (morow n),?_,?_⟩
 ·refine pt_i (Qas hd.r rfl (pt_i (Qas hd.r rfl ⟨(Qra hd.a1).mono ?_,Qak fun r2=>?_⟩)))
  ·rintro r w24 ⟨rfl,rfl⟩
   refine ⟨_,_,_,rfl,by first | (rw [Qac,hd.r.cell];rfl) | (rw [hd.r.cell];rfl),(Qra hd.a2).mono ?_,Qak fun r2=>?_⟩
   ·rintro r w27 ⟨rfl,rfl⟩
    refine ⟨_,_,_,rfl,Qak fun r2=>mo_w r2 fun u hu ru=>⟨_,rfl,?_,ru⟩⟩
    exact ((Chg.refl _ _).drew.alloc _).trans' hu fun k e=>.inr (by rw [e];exact Nat.le_refl _)
   ·have hd2:=hd.nob ((Chg.refl _ w17.drew).alloc (.cells #[.int .i64 0,.slice none 0 0,.slice none 0 0,.slice none 0 0] Qau))
    refine ⟨by first | (rw [Qac,hd2.r.cell];rfl) | (rw [hd2.r.cell];rfl),(Qra hd2.a2).mono ?_⟩
    rintro r w27 ⟨rfl,rfl⟩
    refine ⟨_,_,_,rfl,mo_w r2 fun u hu ru=>⟨_,rfl,?_,ru⟩⟩
    exact ((Chg.refl _ _).drew.alloc _).trans' hu fun k e=>.inr (by rw [e];exact Nat.le_refl _)
  ·have hd2:=hd.nob ((Chg.refl _ w17.drew).alloc (.cells #[.int .i64 0,.slice none 0 0,.slice none 0 0,.slice none 0 0] Qau))
   refine ⟨by first | (rw [Qac,hd2.r.cell];rfl) | (rw [hd2.r.cell];rfl),by first | (rw [Qac,hd2.r.cell];rfl) | (rw [hd2.r.cell];rfl),(Qra hd2.a1).mono ?_⟩
   rintro r w24 ⟨rfl,rfl⟩
   refine ⟨_,_,_,rfl,by first | (rw [Qac,hd2.r.cell];rfl) | (rw [hd2.r.cell];rfl),(Qra hd2.a2).mono ?_⟩
   rintro r w27 ⟨rfl,rfl⟩
   refine ⟨_,_,_,rfl,mo_w r2 fun u hu ru=>⟨_,rfl,?_,ru⟩⟩
   exact ((Chg.refl _ _).drew.alloc _).trans' hu fun k e=>.inr (by rw [e];exact Nat.le_refl _)
 rintro _ p w57 ⟨Y,hp,hc2,rY⟩
 simp only [List.cons.injEq,Value.pointer.injEq,and_true] at hp
 subst hp
 refine pt_i ?_
 rw [Qac]
 refine Qaj rY rfl ⟨fun vs w'=>w'=w57∧vs=[.int .i64 0],fun _ _=>0,⟨rfl,rfl⟩,?_⟩
 rintro _ i w64 ⟨rfl,hi⟩
 simp only [List.cons.injEq,Value.int.injEq,and_true,true_and] at hi
 subst hi
 refine Qad (fun h=>by simp only [b1s] at h;omega) (fun _=>?_)
 have hs3:=hs.nob hc2
 refine pt_i (Qas hs3.r rfl ((Qzy hs3.m).mono ?_))
 rintro r w140 ⟨rfl,hc3⟩
 rw [e0,e1]
 refine ⟨_,_,_,_,rfl,Qak fun r4=>?_⟩
 simp only [Qac]
 have hc4:Chg Qaa w (w140.alloc (.cells #[.int .i64 0,.int .i64 0,.int .i64 0,.int .i64 0] Qat)):=((hc1.trans hc2).trans hc3).alloc _
 have hc5:Chg Qaa w64 (w140.alloc (.cells #[.int .i64 0,.int .i64 0,.int .i64 0,.int .i64 0] Qat)):=hc3.alloc _
 have lY:=rY.lt
 have lS:=hs3.r.lt
 have l1:=hs3.a1.lt
 have l2:=hs3.a2.lt
 have s3:=hc3.size
 have s2:=hc2.size
 have lX:=r1.lt
 generalize w140.alloc (.cells #[.int .i64 0,.int .i64 0,.int .i64 0,.int .i64 0] Qat)=w143 at *
 generalize hZ:w140.heap.size=Z at *
 have al:∀(u:World) (x0 x1 x2 x3:Int) (K:World→Prop),Row u.heap Z Qat [.int .i64 0,.int .i64 0,.int .i64 0,.int .i64 0]→(∀u',Chg (·=Z) u u'→Row u'.heap Z Qat [.int .i64 x0,.int .i64 x1,.int .i64 x2,.int .i64 x3]→K u')→
   sto ⟨Z,0,none⟩ (.int .i64 x0) u fun u1=>sto ⟨Z,0+1,none⟩ (.int .i64 x1) u1 fun u2=>sto ⟨Z,0+2,none⟩ (.int .i64 x2) u2 fun u3=>sto ⟨Z,0+3,none⟩ (.int .i64 x3) u3 K:=by
  intro u x0 x1 x2 x3 K r k
  refine Qa4 r (by simp) rfl fun r3=>Qa4 r3 (by simp) rfl fun r4=>Qa4 r4 (by simp) rfl fun r5=>Qa4 r5 (by simp) rfl fun r6=>k _ ?_ r6
  exact ((((Chg.refl (·=Z) u).setCell ⟨Z,0,none⟩ (.int .i64 x0) (.inl rfl)).setCell ⟨Z,0+1,none⟩ (.int .i64 x1) (.inl rfl)).setCell ⟨Z,0+2,none⟩ (.int .i64 x2) (.inl rfl)).setCell ⟨Z,0+3,none⟩ (.int .i64 x3) (.inl rfl)
 refine al _ _ _ _ _ _ r4 fun u hu ru=>?_
 have cu:Chg Qaa w64 u:=hc5.trans' hu fun k e=>.inr (by omega)
 have cwu:Chg Qaa w u:=(hc1.trans hc2).trans cu
 have hsu:LS u.drew.heap S A1 A2 S1 S2 b n lv:=hs3.nob cu.drew
 have rud:Row u.drew.heap Z Qat _:=ru
 have rXu:Row u.drew.heap X Qau _:=cu.row (fun h=>h) (hc2.row (fun h=>h) r1)
 have rYu:Row u.drew.heap Y Qau _:=cu.row (fun h=>h) rY
 refine Qaf (n:=cV lv n) rud rfl (pt_i (Qas hsu.r rfl ((ar_Len hsu.a1).mono ?_)))
 rintro r w152 ⟨rfl,rfl⟩
 refine ⟨_,rfl,by rw [rud.cell];rfl,Qad (fun hv=>?_) (fun hv=>?_)⟩<;>simp only [b1s] at hv
 ·refine mo_io (R:=fun v' w'=>(cV lv n=0→v'=.tuple #[mo n,errV 0])∧(cV lv n≠0→v'=.tuple #[mo 0,errV 17])∧Chg Qaa w w') (x:=0) (E:=errV 17) rXu fun u2 hu2=>⟨fun k=>absurd k hv,fun _=>rfl,?_⟩
  exact cwu.drew.trans' hu2 fun k e=>.inr (by rw [e,←hX];exact Nat.le_refl _)
 refine Qaf (n:=0) rud rfl (pt_i (Qas hsu.r rfl ((ar_Len hsu.a2).mono ?_)))
 rintro r w137 ⟨rfl,rfl⟩
 refine ⟨_,rfl,by rw [rud.cell];rfl,Qad (fun h=>by cases h) (fun _=>?_)⟩
 refine ld_mo rYu ((Q2z h0 h1).mono ?_)
 rintro r w152 ⟨rfl,hc6⟩
 have rX2:=hc6.row (fun h=>h) rXu
 have rY2:=hc6.row (fun h=>h) rYu
 refine ⟨_,rfl,Qai (fun e=>absurd rfl e) (fun _=>?_)⟩
 refine ld_mo rY2 ?_
 refine mo_io (R:=fun v' w'=>(cV lv n=0→v'=.tuple #[mo n,errV 0])∧(cV lv n≠0→v'=.tuple #[mo 0,errV 17])∧Chg Qaa w w') (x:=n) (E:=errV 0) rX2 fun u2 hu2=>⟨fun _=>rfl,fun k=>absurd hv k,?_⟩
 exact (cwu.drew.trans hc6).trans' hu2 fun k e=>.inr (by rw [e,←hX];exact Nat.le_refl _)
end
end Core
end Go.Proofs.YtokjfdggpapkbaaGreatDoor
/-
A state without anything as bytes (layers 17 and 18's program).
Conditions: those that each theorem states.
-/

set_option linter.unusedVariables false
set_option linter.unusedSimpArgs false
namespace Go.Proofs.YtokjfdggpapkbaaGreatDoor
open Go Go.RowKit
namespace Core
open Go.Proofs.YtokjfdggpapkbaaGreatDoor.Seq Go.Proofs.YtokjfdggpapkbaaGreatDoor.Cut Go.Proofs.YtokjfdggpapkbaaGreatDoor.Web
section
variable {w w':World} {S A1 A2 S1 S2 n base:Nat} {b:Bk} {lv:Nat→Bool}
theorem et_byte:ET Pg Qdv Qa7 1 1:=ET.of (by kernel_rfl) (by kernel_rfl)
def en4 (x:Int):List Value:=[.int .u8 (IntKind.wrap .u8 (Int.fdiv x (2 ^ (min (Int.toNat (24:Int)) (IntKind.bits .u32))))),.int .u8 (IntKind.wrap .u8 (Int.fdiv x (2 ^ (min (Int.toNat (16:Int)) (IntKind.bits .u32))))),.int .u8 (IntKind.wrap .u8 (Int.fdiv x (2 ^ (min (Int.toNat (8:Int)) (IntKind.bits .u32))))),.int .u8 (IntKind.wrap .u8 x)]
theorem Q21 {xs:List Int} {sb ob:Option Addr} {sc ol oc:Nat} {ys:List Value} (hs:VA w sb xs.length 1 (xs.map (.int .u32))) (ho:Own w base Qa7 1 ob ol oc ys) (hb:base≤w.heap.size) (ha:∀g,bk sb=some g→bk ob≠some g∧g<w.heap.size) (hl:ol+4*xs.length≤1000000) :
  Calls Pg Qqd #[.slice ob ol oc,.slice sb xs.length sc] w fun r w'=>∃b' c',r=.returned (.slice b' (ol+4*xs.length) c')∧Own w' base Qa7 1 b' (ol+4*xs.length) c' (ys++xs.flatMap en4)∧Chg (fun i=>base≤i) w w':=by
 refine (Quk _ _ _ _ _ _ _ (fun v' w'=>∃b' c',v'=.slice b' (ol+4*xs.length) c'∧Own w' base Qa7 1 b' (ol+4*xs.length) c' (ys++xs.flatMap en4)∧Chg (fun i=>base≤i) w w') ?_).mono (by rintro e w' ⟨v,rfl,a,b,rfl,k⟩;exact ⟨a,b,rfl,k⟩)
 unfold Qpv nr
 let J:Nat→List Value→World→Prop:=fun j vs w'=>∃(i:Nat) (b':Option Addr) (c':Nat),vs=[.slice b' (ol+4*i) c',.int .i64 i]∧i≤xs.length∧Own w' base Qa7 1 b' (ol+4*i) c' (ys++(xs.take i).flatMap en4)∧Chg (fun i=>base≤i) w w'∧VA w' sb xs.length 1 (xs.map (.int .u32))∧(∀g,bk sb=some g→bk b'≠some g∧g<w'.heap.size)∧base≤w'.heap.size∧j=xs.length-i
 refine ⟨LI J,LM J,⟨_,0,ob,oc,rfl,by omega,by simpa using ho,Chg.refl _ _,hs,ha,hb,rfl⟩,?_⟩
 intro _ sb4 l4 c4 i w6 hJ
 obtain ⟨i,b',c',hvs,hin,ho2,hc2,hs2,ha2,hb2,hj⟩:=hJ.at
 simp only [List.cons.injEq,Value.int.injEq,Value.slice.injEq,and_true,true_and] at hvs
 obtain ⟨⟨rfl,rfl,rfl⟩,rfl⟩:=hvs
 refine Qad (fun hlt=>?_) (fun hlt=>?_)<;>simp only [b1s] at hlt
 ·have hi:i<xs.length:=by omega
  refine hs2.ix hi fun g o e cs hr hg hcs=>?_
  have hx:=hcs 0 (by omega)
  rw [Nat.mul_one,Nat.add_zero,Nat.add_zero,List.getElem?_map,List.getElem?_eq_getElem hi,Option.map_some] at hx
  refine Qaf (n:=xs[i]) hr hx ⟨by decide,by decide,by decide,Qak fun r1=>?_⟩
  have hb3:base≤(w6.alloc (.cells (en4 xs[i]).toArray Qa7)).heap.size:=by rw [Qpl];omega
  obtain ⟨b2,c2,w12,hrun,ho3,hc3,hbk⟩:=Qbr (sc:=4) (ty:=Qdv) et_byte (ho2.alloc (.cells (en4 xs[i]).toArray Qa7)) (VA.Qeq (sz:=1) (l:=4) r1 rfl) (by intro u hu;simp at hu;rcases hu with rfl | rfl | rfl | rfl<;>rfl) (by omega) hb3 (by omega) (by omega)
  refine ⟨b2,_,c2,w12,hrun,?_⟩
  rw [wrap64_in (by omega) (by omega)]
  have hs3:=hc3.size
  rw [Qpl] at hs3 hbk
  refine LI.again (k:=xs.length-(i+1)) ⟨i+1,b2,c2,?_,by omega,?_,?_,?_,?_,by omega,rfl⟩ (by rw [hj];omega)
  ·rw [show ol+4*(i+1)=ol+4*i+4 by omega];rfl
  ·rw [show ol+4*(i+1)=ol+4*i+4 by omega,List.take_succ_eq_append_getElem hi,List.flatMap_append,←List.append_assoc,show ([xs[i]]:List Int).flatMap en4=en4 xs[i] by simp]
   exact ho3
  ·exact (hc2.alloc _).trans (hc3.mono fun k hk e=>(ho2.Qa3 e).1)
  ·exact (hs2.alloc _).keep hc3 fun g _ hg e=>(ha2 g hg).1 e
  ·intro g hg
   have:=ha2 g hg
   refine ⟨fun e=>?_,by omega⟩
   rcases hbk with k | k
   ·exact this.1 (k ▸ e)
   ·rw [k] at e;cases e;omega
 ·have hi:i=xs.length:=by omega
  subst hi
  rw [List.take_length] at ho2
  exact ⟨_,_,rfl,ho2,hc2⟩
theorem m_encoded:Calls Pg Qo1 #[mo 1] w fun r w'=>∃b' c',r=.returned (.slice b' 12 c')∧Own w' w.heap.size Qa7 1 b' 12 c' (([1,0,0]:List Int).flatMap en4)∧Chg Qaa w w':=by
 refine (Qtc _ _ _ _ _ _ _ _ _ _ _ (fun v' w'=>∃b' c',v'=.slice b' 12 c'∧Own w' w.heap.size Qa7 1 b' 12 c' (([1,0,0]:List Int).flatMap en4)∧Chg Qaa w w') ?_).mono (by rintro e w' ⟨v,rfl,a,b,rfl,k⟩;exact ⟨a,b,rfl,k⟩)
 unfold Qos nr
 refine Qak fun r1=>?_
 have hc:Chg Qaa w (w.alloc (.cells #[.int .i64 (1:Nat),.slice none 0 0,.slice none 0 0,.slice none 0 0] Qau)):=(Chg.refl _ _).alloc _
 generalize w.alloc (.cells #[.int .i64 (1:Nat),.slice none 0 0,.slice none 0 0,.slice none 0 0] Qau)=w5 at *
 have s1:=hc.size
 rw [Qac]
 refine Qaf (n:=((1:Nat):Int)) r1 rfl (Qaj r1 rfl (Qak fun r2=>?_))
 have e1:IntKind.wrap .u32 ((1:Nat):Int)=1:=by decide
 have e2:IntKind.wrap .u32 ((0:Nat):Int)=0:=by decide
 rw [e1,e2] at r2 ⊢
 have hc2:Chg Qaa w5 (w5.alloc (.cells #[.int .u32 1,.int .u32 0] Qoo)):=(Chg.refl _ _).alloc _
 have s2:(w5.alloc (.cells #[.int .u32 1,.int .u32 0] Qoo)).heap.size=w5.heap.size+1:=Qpl _ _
 generalize w5.alloc (.cells #[.int .u32 1,.int .u32 0] Qoo)=w9 at *
 refine (Q21 (base:=w9.heap.size) (xs:=[1,0]) (ob:=none) (oc:=0) (VA.Qeq r2 rfl) Own.nil (Nat.le_refl _) (fun g hg=>⟨fun h=>(by cases h),by simp only [Qxr,Option.some.injEq] at hg;omega⟩) (by simp)).mono ?_
 rintro r w11 ⟨b1,c1,rfl,ho,hc3⟩
 have hc3':Chg Qaa w9 w11:=hc3.mono fun k hk e=>absurd (show w9.heap.size≤k from e) (by omega)
 have r3:=hc3'.row (fun h=>h) (hc2.row (fun h=>h) r1)
 have s3:=hc3'.size
 refine ⟨_,_,_,rfl,Qaj r3 rfl ⟨fun vs w'=>w'=w11∧vs=[.slice b1 8 c1,.int .i64 0],fun _ _=>0,⟨rfl,rfl⟩,?_⟩⟩
 rintro _ sb sl sc i w18 ⟨rfl,hi⟩
 simp only [List.cons.injEq,Value.int.injEq,Value.slice.injEq,and_true,true_and] at hi
 obtain ⟨⟨rfl,rfl,rfl⟩,rfl⟩:=hi
 refine Qad (fun h=>by simp only [b1s] at h;omega) (fun _=>?_)
 rw [Qac]
 refine Qaj r3 rfl (Qak fun r4=>?_)
 rw [e2] at r4 ⊢
 have hc4:Chg Qaa w18 (w18.alloc (.cells #[.int .u32 0] Qoo)):=(Chg.refl _ _).alloc _
 have s4:(w18.alloc (.cells #[.int .u32 0] Qoo)).heap.size=w18.heap.size+1:=Qpl _ _
 have ho4:=ho.alloc (.cells #[.int .u32 0] Qoo)
 generalize w18.alloc (.cells #[.int .u32 0] Qoo)=w33 at *
 refine (Q21 (base:=w9.heap.size) (xs:=[0]) (VA.Qeq r4 rfl) ho4 (by omega) (fun g hg=>⟨fun h=>?_,by simp only [Qxr,Option.some.injEq] at hg;omega⟩) (by simp)).mono ?_
 ·have:=(ho.Qa3 h).2
  simp only [Qxr,Option.some.injEq] at hg;omega
 rintro r w35 ⟨b2,c2,rfl,ho5,hc5⟩
 have hc5':Chg Qaa w9 w35:=(hc3'.trans hc4).trans' hc5 fun k e=>.inr e
 have r5:=hc5'.row (fun h=>h) (hc2.row (fun h=>h) r1)
 refine ⟨_,_,_,rfl,Qaj r5 rfl ⟨fun vs w'=>w'=w35∧vs=[.slice b2 12 c2,.int .i64 0],fun _ _=>0,⟨rfl,rfl⟩,?_⟩⟩
 rintro _ sb sl sc i w42 ⟨rfl,hi⟩
 simp only [List.cons.injEq,Value.int.injEq,Value.slice.injEq,and_true,true_and] at hi
 obtain ⟨⟨rfl,rfl,rfl⟩,rfl⟩:=hi
 refine Qad (fun h=>by simp only [b1s] at h;omega) (fun _=>⟨_,_,rfl,ho5.mono (by omega),(hc.trans hc2).trans hc5'⟩)
theorem m_Encode:Calls Pg Qqe #[mo 1] w fun r w'=>∃b' c',r=.returned (.tuple #[.slice b' 12 c',errV 0])∧Own w' w.heap.size Qa7 1 b' 12 c' (([1,0,0]:List Int).flatMap en4)∧Chg Qaa w w':=by
 refine (Qul _ _ _ _ _ _ _ _ _ _ _ (fun v' w'=>∃b' c',v'=.tuple #[.slice b' 12 c',errV 0]∧Own w' w.heap.size Qa7 1 b' 12 c' (([1,0,0]:List Int).flatMap en4)∧Chg Qaa w w') ?_).mono (by rintro e w' ⟨v,rfl,a,b,rfl,k⟩;exact ⟨a,b,rfl,k⟩)
 unfold Qpw nr
 refine Qak fun r1=>?_
 have hc:Chg Qaa w (w.alloc (.cells #[.int .i64 (1:Nat),.slice none 0 0,.slice none 0 0,.slice none 0 0] Qau)):=(Chg.refl _ _).alloc _
 generalize w.alloc (.cells #[.int .i64 (1:Nat),.slice none 0 0,.slice none 0 0,.slice none 0 0] Qau)=w5 at *
 have s1:=hc.size
 refine ld_mo r1 ((Q2z (by omega) (by omega)).mono ?_)
 rintro r w11 ⟨rfl,hc2⟩
 have r2:=hc2.row (fun h=>h) r1
 have s2:=hc2.size
 refine ⟨_,rfl,Qai (fun e=>absurd rfl e) (fun _=>?_)⟩
 refine ld_mo r2 (m_encoded.mono ?_)
 rintro r w18 ⟨b1,c1,rfl,ho,hc3⟩
 exact ⟨_,_,_,rfl,_,_,rfl,ho.mono (by omega),(hc.trans hc2).trans hc3⟩
theorem ld_Dump (h:LS w.heap S A1 A2 S1 S2 b 1 (fun _=>false)):Calls Pg Qho #[.pointer (some ⟨S,0,none⟩)] w fun r w'=>∃b' c',r=.returned (.tuple #[.slice b' 12 c',errV 0])∧Own w' w.heap.size Qa7 1 b' 12 c' (([1,0,0]:List Int).flatMap en4)∧Chg Qaa w w':=by
 refine (Qiv _ _ (fun v' w'=>∃b' c',v'=.tuple #[.slice b' 12 c',errV 0]∧Own w' w.heap.size Qa7 1 b' 12 c' (([1,0,0]:List Int).flatMap en4)∧Chg Qaa w w') ?_).mono (by rintro e w' ⟨v,rfl,a,b,rfl,k⟩;exact ⟨a,b,rfl,k⟩)
 unfold Qg6 nr
 refine (ld_Model (by omega) (by omega) h).mono ?_
 rintro r w6 ⟨hr,_,hc⟩
 obtain rfl:=hr (Qwz fun _ _=>rfl)
 have s1:=hc.size
 refine ⟨_,_,_,_,_,_,_,_,_,_,_,rfl,Qak fun r1=>?_⟩
 refine mo_w r1 fun u hu ru=>Qai (fun e=>absurd rfl e) (fun _=>?_)
 have hcu:Chg Qaa w u:=(hc.alloc _).trans' hu fun k e=>.inr (by rw [e];exact hc.size)
 have s2:=hcu.size
 refine ld_mo ru (m_Encode.mono ?_)
 rintro r w20 ⟨b1,c1,rfl,ho,hc3⟩
 exact ⟨_,_,_,_,rfl,_,_,rfl,ho.mono (by omega),hcu.trans hc3⟩
end
end Core
end Go.Proofs.YtokjfdggpapkbaaGreatDoor
/-
What the laws' own helpers of layer 18 make: an error's number, lists compared.
Conditions: the package variable of errors is laid out.
-/


set_option linter.unusedVariables false
set_option linter.unusedSimpArgs false
namespace Go.Proofs.YtokjfdggpapkbaaGreatDoor
open Go
namespace Seq
theorem c_num18 {w:World} {c:Int} (hg:LaidG w):Calls Pg Qnp #[errV c] w fun e w'=>e=.returned (.int .i64 c)∧Chg Qaa w w':=by
 refine (Qr1 _ _ (fun v' w'=>v'=.int .i64 c∧Chg Qaa w w') ?_).mono (by rintro e w' ⟨v,rfl,rfl,k⟩;exact ⟨rfl,k⟩)
 unfold Qng nr
 refine Qak fun ha=>?_
 refine ⟨Qbx c,?_⟩
 rw [Qbw]
 refine Qad (fun h=>?_) (fun h=>?_)
 ·simp only [decide_eq_true_eq] at h
  exact ⟨by rw [h],(Chg.refl _ _).alloc _⟩
 ·simp only [decide_eq_false_iff_not] at h
  rw [errV_ne h]
  refine (as_hit c ⟨w.heap.size,0,none⟩ (.int .i64 0) _ (hg.alloc _) (by rw [ha.cell];rfl) (ha.frozen 0)).mono ?_
  rintro e w' ⟨rfl,rfl⟩
  refine ⟨_,rfl,?_⟩
  have hA:=(((ha.alloc (.cells #[.pointer (some ⟨w.heap.size,0,none⟩)] Qfg)).alloc (.cells #[.pointer (some ⟨3,Qfg,none⟩),.pointer (some ⟨(w.alloc (.cells #[.int .i64 0] Qdj)).heap.size,0,none⟩),.int .u64 150] Qd3)).alloc (.cells #[.pointer (some ⟨3,Qfg,none⟩),.pointer (some ⟨(w.alloc (.cells #[.int .i64 0] Qdj)).heap.size,0,none⟩),.int .u64 150] Qd3)).alloc (.cells #[.int .i64 c] Qdj)
  refine Qad (fun _=>?_) (fun h=>by cases h)
  refine Qaf (hA.set 0 (.int .i64 c)) rfl ?_
  exact ⟨rfl,(((((Chg.refl Qaa w).alloc _).alloc _).alloc _).alloc _ |>.alloc _).setCell _ _ (.inr (Nat.le_refl _))⟩
end Seq
end Go.Proofs.YtokjfdggpapkbaaGreatDoor
/-
What must come of a state whatever the input is.
Conditions: those that each theorem states.
-/



set_option linter.unusedVariables false
set_option linter.unusedSimpArgs false
namespace Go.Proofs.YtokjfdggpapkbaaGreatDoor
open Go Go.RowKit
namespace Core
open Go.Proofs.YtokjfdggpapkbaaGreatDoor.Seq Go.Proofs.YtokjfdggpapkbaaGreatDoor.Cut Go.Proofs.YtokjfdggpapkbaaGreatDoor.Web
theorem Q3m {w:World}:Calls Pg Qhm #[] w fun e w'=>e=.returned (.bool true)∧Chg Qaa w w':=by
 refine (Qqv _ (fun v' w'=>v'=.bool true∧Chg Qaa w w') ?_).mono (by rintro e w' ⟨v,rfl,rfl,k⟩;exact ⟨rfl,k⟩)
 unfold Qlc nr
 refine (ld_New (n:=1) (by omega) (by omega)).mono ?_
 rintro r w2 ⟨S,A1,A2,S1,S2,b,rfl,hc,hs,_⟩
 refine ⟨_,_,rfl,Qai (fun e=>absurd rfl e) (fun _=>Qad (fun h=>by cases h) (fun _=>(ld_Dump hs).mono ?_))⟩
 rintro r w6 ⟨b',c',rfl,ho,hc2⟩
 refine ⟨_,_,_,_,rfl,Qbx _,?_⟩
 rw [Qbw]
 refine Qad (fun _=>?_) (fun h=>by cases h)
 obtain ⟨g,cs,rfl,_,hr,ht,_⟩:=ho.get (by omega)
 have e0:(([1,0,0]:List Int).flatMap en4)=([0,0,0,1,0,0,0,0,0,0,0,0]:List Int).map (Value.int .u8):=by rfl
 rw [e0] at ht
 have hconv:=run_convert_bytes_arg (P:=Pg) w6 Qdv Qa7 (by kernel_rfl) (by kernel_rfl) g 0 12 c' [0,0,0,1,0,0,0,0,0,0,0,0] rfl (fun i hi=>by
  rw [hr.cell,Nat.zero_add,Qih ht (by omega),List.getElem?_map,List.getElem?_eq_getElem (by simpa using hi),Option.map_some,List.getD_eq_getElem?_getD,List.getElem?_eq_getElem (by simpa using hi)]
  rfl) T_string (by kernel_rfl)
 refine ⟨_,_,hconv,?_,hc.trans hc2⟩
 rw [show strOfNums [0,0,0,1,0,0,0,0,0,0,0,0]=ByteArray.mk #[0,0,0,1,0,0,0,0,0,0,0,0] from rfl,beq_self_eq_true]
end Core
end Go.Proofs.YtokjfdggpapkbaaGreatDoor
