/-
The law CoreChecks: nothing of a nil map; of what room there can be one; corners, and whether an edge is legal.
Conditions: those that each theorem states.
-/
import Derived.Test.YtpmicakdjhoafaaGreatDoorShPlaitlaw16CoreChecks
import Derived.Test.YtpmicakdjhoafaaGreatDoorGLawC
import Derived.Test.YtpmicakdjhoafaaGreatDoorCoreZ
set_option linter.unusedVariables false
set_option linter.unusedSimpArgs false
namespace Go.Proofs.YtpmicakdjhoafaaGreatDoor
open Go Go.RowKit
namespace Core
open Go.Proofs.YtpmicakdjhoafaaGreatDoor.Seq Go.Proofs.YtpmicakdjhoafaaGreatDoor.Cut Go.Proofs.YtpmicakdjhoafaaGreatDoor.Web
theorem c_CoreChecks {w:World} {n c0 c1:Int} {sb:Option Addr} {sl sc:Nat} {f:Nat→Nat→Int} (hg:LaidG w) (hf:AC w sb sl f) (hfw:∀i,i<sl→-2147483648≤f i 6∧f i 6≤2147483647) :
  Calls Pg Qh9 #[.int .i64 n,.slice sb sl sc,.agg #[.int .i64 c0,.int .i64 c1]] w fun e w'=>e=.returned (.bool true)∧Chg Qab w w':=by
 refine (calls_plaitlaw16_CoreChecks _ _ _ _ _ _ _ (fun v' w'=>v'=.bool true∧Chg Qab w w') ?_).mono (by rintro e w' ⟨v,rfl,rfl,k⟩;exact ⟨rfl,k⟩)
 unfold Qh6
 refine Qa4 fun A0 w1 hA0 cA r0=>?_
 have l0:=r0.lt
 have sA:=cA.size
 have num:∀{w5:World} {er:Int} {K:Int→World→Prop},Chg Qab w1 w5→(∀w6,Chg Qab w5 w6→Chg Qab w1 w6→K er w6)→Calls Pg Qao #[errV er] w5 fun e w'=>∃n,e=.returned (.int .i64 n)∧K n w':=fun {w5 er K} c k=>by
  refine (c_num16 (hg.chg (cA.trans c) fun h=>h)).mono ?_
  rintro e w6 ⟨rfl,c6⟩
  exact ⟨_,rfl,k _ c6 (c.trans c6)⟩
 have sure:∀{w5:World},Chg Qab w1 w5→Calls Pg Qbr #[] w5 fun e w'=>∃b,e=.returned (.bool b)∧(Value.bool b=.bool true∧Chg Qab w w'):=fun {w5} c=>by
  refine c_sure16.mono ?_
  rintro r w6 ⟨rfl,c6⟩
  exact ⟨_,rfl,rfl,(cA.trans c).trans c6⟩
 refine Connected_nil.mono ?_
 rintro r w2 ⟨rfl,h2⟩
 refine ⟨_,_,rfl,Face_nil.mono ?_⟩
 rintro r w3 ⟨rfl,rfl⟩
 refine ⟨_,_,_,_,rfl,Marked_nil.mono ?_⟩
 rintro r w3 ⟨rfl,rfl⟩
 refine ⟨_,_,rfl,Next_nil.mono ?_⟩
 rintro r w3 ⟨rfl,rfl⟩
 refine ⟨_,_,rfl,fun _ w'=>Chg Qab w1 w',num h2 fun w4 _ h4=>Qaf (fun h=>by simp at h) fun _=>num h4 fun w5 _ h5=>Qaf (fun h=>by simp at h) fun _=>num h5 fun w6 _ h6=>Qaf (fun h=>by simp at h) fun _=>num h6 fun w7 _ h7=>Qaf (fun h=>by simp at h) fun _=>AddVertex_nil.mono ?_,?_⟩
 ·rintro r w8 ⟨rfl,rfl⟩
  refine ⟨_,rfl,num h7 fun w9 _ h9=>Qaf (fun h=>by simp at h) fun _=>Part_nil.mono ?_⟩
  rintro r w10 ⟨rfl,rfl⟩
  refine ⟨_,rfl,num h9 fun w11 _ h11=>Qaf (fun h=>by simp at h) fun _=>Check_nil.mono ?_⟩
  rintro r w12 ⟨rfl,c12⟩
  refine ⟨_,rfl,num (h11.trans c12) fun w13 _ h13=>Qaf (fun h=>by simp at h) fun _=>Live_nil.mono ?_⟩
  rintro r w14 ⟨rfl,rfl⟩
  refine ⟨_,rfl,Qaf (fun h=>by cases h) fun _=>Has_nil.mono ?_⟩
  rintro r w15 ⟨rfl,rfl⟩
  refine ⟨_,rfl,Qaf (fun h=>by cases h) fun _=>Sum_nil.mono ?_⟩
  rintro r w16 ⟨rfl,rfl⟩
  refine ⟨_,rfl,Qaf (fun h=>by simp at h) fun _=>Room_nil.mono ?_⟩
  rintro r w17 ⟨rfl,rfl⟩
  refine ⟨_,rfl,Qaf (fun h=>by simp at h) fun _=>Counts_nil.mono ?_⟩
  rintro r w18 ⟨rfl,c18⟩
  refine ⟨_,_,_,_,rfl,_,_,(run_recI (k:=.i64) (offs:=[0,1,2,3]) (X:=fun _=>0) (Y:=fun _=>0) (by kernel_rfl) (by kernel_rfl) (by kernel_rfl) (by kernel_rfl) (by kernel_rfl) ?_).2,Qaf (fun h=>by cases h) fun _=>h13.trans c18⟩
  intro o ho
  simp only [List.mem_cons,List.not_mem_nil,or_false] at ho
  rcases ho with rfl | rfl | rfl | rfl<;>exact ⟨rfl,rfl⟩
 rintro _ w19 h19
 refine ⟨fun _ w'=>Chg Qab w1 w'∧1≤n∧n≤1048576,Qaf (fun k1=>?_) fun k1=>Qaf (fun k2=>?_) fun k2=>?_,?_⟩<;>simp only [b1s] at *
 ·refine (core_New_bad (by omega)).mono ?_
  rintro r w20 ⟨rfl,rfl⟩
  exact ⟨_,_,rfl,num h19 fun w21 _ h21=>Qaf (fun _=>Qaf (fun _=>sure h21) fun h=>by cases h) fun h=>by cases h⟩
 ·refine (core_New_bad (by omega)).mono ?_
  rintro r w20 ⟨rfl,rfl⟩
  exact ⟨_,_,rfl,num h19 fun w21 _ h21=>Qaf (fun _=>Qaf (fun _=>sure h21) fun h=>by cases h) fun h=>by cases h⟩
 ·exact ⟨h19,by omega⟩
 rintro _ w20 ⟨h20,hn1,hn2⟩
 obtain ⟨N,hN,hN1,hN9⟩:∃N:Nat,(if (9:Int)<n then (9:Int) else n)=N∧1≤N∧N≤9:=by
  by_cases h:(9:Int)<n
  ·exact ⟨9,by rw [if_pos h];rfl,by omega,by omega⟩
  ·exact ⟨n.toNat,by rw [if_neg h];omega,by omega,by omega⟩
 rw [hN]
 have NN:N≤1048576:=by omega
 refine (core_New hN1 NN).mono ?_
 rintro r w2 ⟨b,rfl,c2,hlo,hmr⟩
 refine ⟨_,_,rfl,fun _ w'=>w'=w2,Qan (fun e=>absurd rfl e) (fun _=>Qaf (fun h=>by cases h) (fun _=>rfl)),?_⟩
 rintro _ w3 rfl
 refine (r_New16 (bad:=fun k=>k<w3.heap.size) hN1 NN fun k j=>j).mono ?_
 rintro r w4 ⟨lb,lc,tb,tc,wb,wc',rfl,c4,hx⟩
 refine ⟨_,_,_,_,_,_,_,_,_,_,_,rfl,Qa4 fun C w5 hC c5 r5=>sts_r r5 rfl (by simp [oneC]) fun w6 c6 rC=>?_⟩
 have s20:=h20.size
 have s2:=c2.size
 have s4:=c4.size
 have s5:=c5.size
 have lC:=r5.lt
 have s6:=c6.size
 have hlow:=hmr.x.lowA
 have r06:=c6.row (by omega) ((h20.trans (c2.trans (c4.trans c5))).row (fun h=>h) r0)
 have c36:Chg Qab w3 w6:=(c4.trans c5).trans' c6 fun i e=>.inr (by omega)
 have hst:LX (fun k=>k=C) w w6 b N (fun _=>false) (fun _=>[]) (ones (3*N)) (fun _=>none) (fun _=>none) (fun _=>0) (fun _=>0) lb tb wb:=by
  refine ⟨((cA.trans h20).trans c2).trans c36,fun k j=>by have:=hlo k j;omega,((GM.new hmr).nob c36).a,?_,fun k j=>⟨by omega,by omega⟩,fun k j i=>by have:=hlow k i;omega,fun e k=>?_⟩
  ·have h4:=(hx.old (n:=w5.heap.size)).nob c5
   refine (h4.keep c6 fun i e=>.inr (by omega)).weak fun k j=>?_
   rcases j with j | j
   ·exact .inl (hmr.x.low k j)
   ·exact .inr (by omega)
  ·unfold Laid at k;rw [dl_none] at k;cases k
 have h0b:∀k,b.has k→k≠A0:=fun k j=>by have:=hlo k j;omega
 let J:Nat→List Value→World→Prop:=fun j vs w'=>∃(i:Nat) (lb:Option Addr) (lc:Nat) (tb:Option Addr) (tc:Nat) (wb:Option Addr) (wc':Nat) (lv:Nat→Bool) (tl:Nat→List Nat) (q:List (List Nat)) (B D:Nat→Option (Nat × Nat)) (ky W:Nat→Int),vs=[.int .i64 i]∧i≤30∧LX (fun k=>k=C) w w' b N lv tl q B D ky W lb tb wb∧
  Row w'.heap C Qal [.int .i64 (N:Nat),.slice lb N lc,.int .i64 (N:Nat),.slice tb N tc,.slice wb N wc']∧Row w'.heap A0 Qau [.int .i64 c0,.int .i64 c1]∧j=30-i
 refine ⟨fun _ w'=>∃(lb:Option Addr) (lc:Nat) (tb:Option Addr) (tc:Nat) (wb:Option Addr) (wc':Nat) (lv:Nat→Bool) (tl:Nat→List Nat) (q:List (List Nat)) (B D:Nat→Option (Nat × Nat)) (ky W:Nat→Int),LX (fun k=>k=C) w w' b N lv tl q B D ky W lb tb wb∧
  Row w'.heap C Qal [.int .i64 (N:Nat),.slice lb N lc,.int .i64 (N:Nat),.slice tb N tc,.slice wb N wc']∧Row w'.heap A0 Qau [.int .i64 c0,.int .i64 c1],⟨LI J,LM J,⟨_,0,_,_,_,_,_,_,_,_,_,_,_,_,_,rfl,by omega,hst,rC,r06,rfl⟩,?_⟩,?_⟩
 ·clear hst rC r06
  intro _ i w49 hJ
  obtain ⟨i,lb,lc,tb,tc,wb,wc',lv,tl,q,B,D,ky,W,hvs,hi,hst,rC,rA,hj⟩:=hJ.at
  simp only [List.cons.injEq,Value.int.injEq,and_true,true_and] at hvs
  subst hvs
  refine Qaf (fun k1=>Qaf (fun k2=>?_) (fun k2=>⟨_,_,_,_,_,_,_,_,_,_,_,_,_,hst,rC,rA⟩)) (fun k1=>⟨_,_,_,_,_,_,_,_,_,_,_,_,_,hst,rC,rA⟩)
  have cd:=(Chg.refl Qab w49).drew
  have hsd:=hst.nob cd
  have rC:=cd.row (fun h=>h) rC
  have rA:=cd.row (fun h=>h) rA
  simp only [b1s] at k1 k2
  refine Qir rC ((hf.nob (hst.c.trans cd)).ld (by omega) ((c_do hg hsd (hfw i (by omega))).mono ?_))
  rintro e w6 ⟨_,rfl,c6,lb',lc',tb',tc',wb',wc'',lv',tl',q',B',D',ky',W',rfl,hst'⟩
  have hCb:¬b.ch C:=fun k=>hst.xo C rfl (Bk.sub k)
  have hAb:¬b.ch A0:=fun k=>h0b A0 (Bk.sub k) rfl
  refine ⟨_,_,_,_,_,_,_,_,_,_,_,_,rfl,sts_r (c6.row hCb rC) rfl (by simp [oneC]) fun w7 c7 rC'=>?_⟩
  rw [wrap64_in (by omega) (by omega)]
  exact LI.again (k:=30-(i+1)) ⟨i+1,_,_,_,_,_,_,_,_,_,_,_,_,_,rfl,by omega,hst'.put c7,rC',c7.row (by omega) (c6.row hAb rA),rfl⟩ (by rw [hj];omega)
 clear hst rC r06
 rintro _ w7 ⟨lb,lc,tb,tc,wb,wc',lv,tl,q,B,D,ky,W,hst,rC,rA⟩
 have c4:Chg Qab w7 w7.drew:=(Chg.refl Qab w7).drew
 have nd:=hst.a.cb.mp.toND
 have hx7:=hst.x
 have hm:=hst.a
 generalize w7.drew=w4 at *
 have cw7:=hst.c
 refine ⟨fun vs w'=>∃P Q p0 p1 q0 q1,vs=[.pointer (some ⟨P,0,none⟩),.pointer (some ⟨Q,0,none⟩)]∧Row w'.heap P Qau [.int .i64 p0,.int .i64 p1]∧Row w'.heap Q Qau [.int .i64 q0,.int .i64 q1]∧w7.heap.size≤P∧w7.heap.size≤Q∧Chg Qab w7 w',?_,?_⟩
 ·have cor:∀{w5:World} {x y:Int} {z:Bool} {K:Int→Int→World→Prop},Chg Qab w7 w5→(∀w6 x y,Chg Qab w5 w6→Chg Qab w7 w6→K x y w6)→Calls Pg Qai #[mV N lb lc tb tc wb wc',.agg #[.int .i64 x,.int .i64 y],.bool z] w5 fun e w'=>∃x y,e=.returned (.agg #[.int .i64 x,.int .i64 y])∧K x y w':=fun {w5 x y z K} c5 k=>by
   refine (c_corner (hx7.nob c5) nd NN).mono ?_
   rintro e w6 ⟨x,y,rfl,c6⟩
   exact ⟨x,y,rfl,k _ _ _ c6 (c5.trans c6)⟩
  have k2:∀{w5:World} {K:Prop},Chg Qab w7 w5→K→(w5.cell? ⟨A0,0+(0:Int).toNat*1,none⟩=some (.int .i64 c0)∧w5.cell? ⟨A0,0+(1:Int).toNat*1,none⟩=some (.int .i64 c1)∧kps w5 ⟨C,0,none⟩ 0 [.int .i64 (N:Nat),.slice lb N lc,.int .i64 (N:Nat),.slice tb N tc,.slice wb N wc'] K):=fun {w5 K} c5 k=>by
   have p1:=c5.row (fun h=>h) rC
   have p2:=c5.row (fun h=>h) rA
   exact ⟨by rw [p2.cell];rfl,by rw [p2.cell];rfl,kps_r p1 k⟩
  have k1:∀{w5:World} {K:Prop},Chg Qab w7 w5→K→(w5.cell? ⟨A0,0+(0:Int).toNat*1,none⟩=some (.int .i64 c0)∧w5.cell? ⟨A0,0,none⟩=some (.int .i64 c0)∧w5.cell? ⟨A0,0+1,none⟩=some (.int .i64 c1)∧kps w5 ⟨C,0,none⟩ 0 [.int .i64 (N:Nat),.slice lb N lc,.int .i64 (N:Nat),.slice tb N tc,.slice wb N wc'] K):=fun {w5 K} c5 k=>by
   have p1:=c5.row (fun h=>h) rC
   have p2:=c5.row (fun h=>h) rA
   exact ⟨by rw [p2.cell];rfl,by rw [p2.cell];rfl,by rw [p2.cell];rfl,kps_r p1 k⟩
  have al:∀{w5:World} {K:Addr→World→Prop},Chg Qab w7 w5→(∀P w6,w5.heap.size≤P→P<w6.heap.size→Chg Qab w5 w6→Chg Qab w7 w6→Row w6.heap P Qau [.int .i64 0,.int .i64 0]→K ⟨P,0,none⟩ w6)→alo #[.int .i64 0,.int .i64 0] Qau w5 K:=fun {w5 K} c5 k=>Qa4 fun P w6 hP c6 r6=>k _ _ hP r6.lt c6 (c5.trans c6) r6
  have leaf:∀{w5:World} {P Q:Nat} {x y u v:Int},Chg Qab w7 w5→(w7.heap.size≤P∧w7.heap.size≤Q∧P≠Q)→Row w5.heap P Qau [.int .i64 0,.int .i64 0]→Row w5.heap Q Qau [.int .i64 0,.int .i64 0]→
    sto ⟨P,0,none⟩ (.int .i64 x) w5 fun w1=>sto (Addr.add ⟨P,0,none⟩ 1) (.int .i64 y) w1 fun w2=>sto ⟨Q,0,none⟩ (.int .i64 u) w2 fun w3'=>sto (Addr.add ⟨Q,0,none⟩ 1) (.int .i64 v) w3' fun w'=>∃P' Q' p0 p1 q0 q1,[Value.pointer (some ⟨P,0,none⟩),.pointer (some ⟨Q,0,none⟩)]=[.pointer (some ⟨P',0,none⟩),.pointer (some ⟨Q',0,none⟩)]∧Row w'.heap P' Qau [.int .i64 p0,.int .i64 p1]∧Row w'.heap Q' Qau [.int .i64 q0,.int .i64 q1]∧w7.heap.size≤P'∧w7.heap.size≤Q'∧Chg Qab w7 w':=fun {w5 P Q x y u v} c5 hh rP rQ=>
   lf hh.2.2 rP rQ fun w' c6 rP' rQ'=>⟨_,_,_,_,_,_,rfl,rP',rQ',hh.1,hh.2.1,c5.trans' c6 fun i e=>.inr (by omega)⟩
  have sz:∀{w5 w6:World},Chg Qab w5 w6→w5.heap.size≤w6.heap.size:=fun c=>c.size
  have qC:=c4.row (fun h=>h) rC
  have qA:=c4.row (fun h=>h) rA
  rw [Qag]
  refine Qir qC (Qaj (n:=c0) qA rfl (Qaj (n:=c1) qA rfl (Qhj (i:=0) (by omega) (Qaj (n:=c0) qA rfl ⟨by decide,Qir qC (Qhj (i:=1) (by omega) (Qaj (n:=c1) qA rfl (Qhj (i:=0) (by omega) (Qaj (n:=c0) qA rfl ⟨?_,?_,?_⟩))))⟩))))
  ·refine cor c4 fun w5 x y _ h5=>k2 h5 ⟨cor h5 fun w6 u v _ h6=>⟨?_,?_⟩,al h5 fun P w6 hP lP _ h6 rP=>k2 h6 ⟨?_,?_⟩,al h5 fun P w6 hP lP _ h6 rP=>k2 h6 ⟨?_,?_⟩⟩
   ·exact al h6 fun P w7 hP lP _ h7 rP=>al h7 fun Q w8 hQ lQ c8 h8 rQ=>leaf h8 (by have:=sz h6;have:=sz h7;omega) (c8.row (fun h=>h) rP) rQ
   ·exact al h6 fun P w7 hP lP _ h7 rP=>al h7 fun Q w8 hQ lQ c8 h8 rQ=>leaf h8 (by have:=sz h6;have:=sz h7;omega) rQ (c8.row (fun h=>h) rP)
   ·exact cor h6 fun w7 u v c7 h7=>al h7 fun Q w8 hQ lQ c8 h8 rQ=>leaf h8 (by have:=sz h5;have:=sz h6;have:=sz c7;omega) ((c7.trans c8).row (fun h=>h) rP) rQ
   ·exact al h6 fun Q w7 hQ lQ c7 h7 rQ=>k2 h7 (cor h7 fun w8 u v c8 h8=>leaf h8 (by have:=sz h5;have:=sz h6;omega) ((c7.trans c8).row (fun h=>h) rP) (c8.row (fun h=>h) rQ))
   ·exact cor h6 fun w7 u v c7 h7=>al h7 fun Q w8 hQ lQ c8 h8 rQ=>leaf h8 (by have:=sz h5;have:=sz h6;have:=sz c7;omega) rQ ((c7.trans c8).row (fun h=>h) rP)
   ·exact al h6 fun Q w7 hQ lQ c7 h7 rQ=>k2 h7 (cor h7 fun w8 u v c8 h8=>leaf h8 (by have:=sz h5;have:=sz h6;omega) (c8.row (fun h=>h) rQ) ((c7.trans c8).row (fun h=>h) rP))
  ·refine al c4 fun P w5 hP lP _ h5 rP=>k2 h5 (k1 h5 ⟨cor h5 fun w6 x y c6 h6=>k2 h6 ⟨?_,?_⟩,al h5 fun Q w6 hQ lQ c6 h6 rQ=>k2 h6 (k1 h6 ?_)⟩)
   ·exact cor h6 fun w7 u v c7 h7=>al h7 fun Q w8 hQ lQ c8 h8 rQ=>leaf h8 (by have:=sz c4;have:=sz h6;have:=sz c6;have:=sz c7;omega) (((c6.trans c7).trans c8).row (fun h=>h) rP) rQ
   ·exact al h6 fun Q w7 hQ lQ c7 h7 rQ=>k2 h7 (cor h7 fun w8 u v c8 h8=>leaf h8 (by have:=sz c4;have:=sz c6;have:=sz h6;omega) (((c6.trans c7).trans c8).row (fun h=>h) rP) (c8.row (fun h=>h) rQ))
   ·exact cor h6 fun w7 x y c7 h7=>k2 h7 (cor h7 fun w8 u v c8 h8=>leaf h8 (by have:=sz c4;have:=sz h5;omega) (((c6.trans c7).trans c8).row (fun h=>h) rP) ((c7.trans c8).row (fun h=>h) rQ))
  ·refine al c4 fun P w5 hP lP _ h5 rP=>k2 h5 (k1 h5 ⟨cor h5 fun w6 x y c6 h6=>k2 h6 ⟨?_,?_⟩,al h5 fun Q w6 hQ lQ c6 h6 rQ=>k2 h6 (k1 h6 ?_)⟩)
   ·exact cor h6 fun w7 u v c7 h7=>al h7 fun Q w8 hQ lQ c8 h8 rQ=>leaf h8 (by have:=sz c4;have:=sz h6;have:=sz c6;have:=sz c7;omega) rQ (((c6.trans c7).trans c8).row (fun h=>h) rP)
   ·exact al h6 fun Q w7 hQ lQ c7 h7 rQ=>k2 h7 (cor h7 fun w8 u v c8 h8=>leaf h8 (by have:=sz c4;have:=sz c6;have:=sz h6;omega) (c8.row (fun h=>h) rQ) (((c6.trans c7).trans c8).row (fun h=>h) rP))
   ·exact cor h6 fun w7 x y c7 h7=>k2 h7 (cor h7 fun w8 u v c8 h8=>leaf h8 (by have:=sz c4;have:=sz h5;omega) ((c7.trans c8).row (fun h=>h) rQ) (((c6.trans c7).trans c8).row (fun h=>h) rP))
 rintro _ p q' w5 ⟨P,Q,u0,u1,v0,v1,hvs,rP,rQ,hP7,hQ7,c5⟩
 simp only [List.cons.injEq,Value.pointer.injEq,and_true] at hvs
 obtain ⟨rfl,rfl⟩:=hvs
 refine pt_i (Qhj (i:=0) (by omega) (Qaj (n:=u0) rP rfl (pt_i (Qhj (i:=1) (by omega) (Qaj (n:=u1) rP rfl (pt_i (Qhj (i:=0) (by omega) (Qaj (n:=v0) rQ rfl (pt_i (Qhj (i:=1) (by omega) (Qaj (n:=v1) rQ rfl ((x_Legal (hm.nob c5).a).mono ?_))))))))))))
 rintro r w6 ⟨z,rfl,gs,z1,z2⟩
 have hlow7:=hst.a.toMR.x.lowA
 have hCb:¬b.ch C:=fun k=>hst.xo C rfl (Bk.sub k)
 have hAb:¬b.ch A0:=fun k=>h0b A0 (Bk.sub k) rfl
 have hPb:¬b.ch P:=fun k=>by have:=hlow7 P (Bk.sub k);omega
 have hQb:¬b.ch Q:=fun k=>by have:=hlow7 Q (Bk.sub k);omega
 have rC6:=gs.c.row hCb (c5.row (fun h=>h) rC)
 have rA6:=gs.c.row hAb (c5.row (fun h=>h) rA)
 have rP6:=gs.c.row hPb rP
 have rQ6:=gs.c.row hQb rQ
 have hx6:=(hx7.nob c5).keep gs.c fun _ k=>.inl k
 have cw6:Chg Qab w w6:=(cw7.trans c5).trans' gs.c fun k j=>.inr (hst.lo k (Bk.sub j))
 refine ⟨_,_,rfl,Qir rC6 (pt_i ?_)⟩
 rw [Qag]
 refine Qaj (n:=u0) rP6 rfl (Qaj (n:=u1) rP6 rfl ((r_Check16 hx6 nd NN).mono ?_))
 rintro r w8 ⟨rfl,c8⟩
 refine ⟨_,rfl,fun vs w'=>vs=[.int .i64 (k2E lv tl N u0 u1 v0 v1)]∧Chg Qab w6 w',Qaf (fun k=>Qir (c8.row (fun h=>h) rC6) (pt_i ?_)) (fun k=>⟨?_,c8⟩),?_⟩
 ·rw [Qag]
  refine Qaj (n:=v0) (c8.row (fun h=>h) rQ6) rfl (Qaj (n:=v1) (c8.row (fun h=>h) rQ6) rfl ((r_Check16 (hx6.nob c8) nd NN).mono ?_))
  rintro r w9 ⟨rfl,c9⟩
  simp only [b1s] at k
  exact ⟨_,rfl,by unfold k2E;rw [if_pos k],c8.trans c9⟩
 ·simp only [b1s] at k
  unfold k2E;rw [if_neg k]
 rintro _ e2 w10 ⟨he2,c10⟩
 simp only [List.cons.injEq,Value.int.injEq,and_true,true_and] at he2
 subst he2
 have numw:∀{w5:World} {er:Int} {K:Int→World→Prop},Chg Qab w6 w5→(∀w7,Chg Qab w5 w7→Chg Qab w6 w7→K er w7)→Calls Pg Qao #[errV er] w5 fun e w'=>∃n,e=.returned (.int .i64 n)∧K n w':=fun {w5 er K} c k=>by
  refine (c_num16 (hg.chg (cw6.trans c) fun h=>h)).mono ?_
  rintro e w7 ⟨rfl,c7⟩
  exact ⟨_,rfl,k _ c7 (c.trans c7)⟩
 refine ⟨fun _ w'=>Chg Qab w6 w',numw c10 fun w11 _ h11=>Qaf (fun h=>by simp at h) fun _=>Qaf (fun k=>?_) (fun k=>Qaf (fun _=>Qaf (fun h=>?_) fun _=>h11) fun _=>h11),?_⟩
 ·simp only [b1s] at k
  have hk1:kE lv tl N u0 u1=0:=Classical.byContradiction fun j=>by unfold k2E at k;rw [if_neg j] at k;exact j k
  have hk2:kE lv tl N v0 v1=0:=by unfold k2E at k;rwa [if_pos hk1] at k
  have z1:=z1 k
  obtain ⟨x,rfl,hx1,_,hx2⟩:=kE_0 hk1
  obtain ⟨y,rfl,hy1,_,hy2⟩:=kE_0 hk2
  rw [Int.toNat_natCast,Int.toNat_natCast] at z1
  refine ldT2_r (h11.row (fun h=>h) rC6) (pt_i ?_)
  rw [Qag]
  refine Qaj (n:=(x:Int)) (h11.row (fun h=>h) rP6) rfl (Qaj (n:=u1) (h11.row (fun h=>h) rP6) rfl (pt_i ?_))
  rw [Qag]
  refine Qaj (n:=(y:Int)) (h11.row (fun h=>h) rQ6) rfl (Qaj (n:=v1) (h11.row (fun h=>h) rQ6) rfl ((r_Legal (hx6.t.nob h11) hm.cb hN1 NN hx1 hy1 hx2 hy2).mono ?_))
  rintro r w12 ⟨z',rfl,hz',c12⟩
  refine ⟨_,rfl,Qaf (fun h=>?_) fun _=>Qaf (fun h=>?_) fun _=>h11.trans c12⟩
  ·exfalso
   have:z=z':=by rw [Bool.eq_iff_iff,z1,hz']
   subst this
   simp at h
  ·rw [k] at h;simp at h
 ·rw [z2 (by simpa using k)] at h;cases h
 rintro _ w12 h12
 have c13:=h12.trans (Chg.refl Qab w12).drew
 generalize w12.drew=w13 at *
 have sg:=gs.trans (gs.a.nob c13)
 refine (c_Room sg.a.toMR).mono ?_
 rintro r w14 ⟨rfl,rfl⟩
 have rC14:=c13.row (fun h=>h) rC6
 have rA14:=c13.row (fun h=>h) rA6
 refine ⟨_,rfl,Qaf (fun _=>Qhj (i:=0) (by omega) (Qaj (n:=c0) rA14 rfl (Qhj (i:=1) (by omega) (Qaj (n:=c1) rA14 rfl (Qir rC14 (Qaj (n:=c0) rA14 rfl ?_)))))) fun h=>by simp at h⟩
 rw [Qag]
 refine Qaj (n:=c1) rA14 rfl ((x_Check sg.a.toMR.x).mono ?_)
 rintro r w15 ⟨rfl,c15⟩
 have h15:=c13.trans c15
 have keep:∀{w5:World} {K:Prop},Chg Qab w6 w5→K→(w5.cell? ⟨A0,0,none⟩=some (.int .i64 c0)∧w5.cell? ⟨A0,0+1,none⟩=some (.int .i64 c1)∧kps w5 ⟨C,0,none⟩ 0 [.int .i64 (N:Nat),.slice lb N lc,.int .i64 (N:Nat),.slice tb N tc,.slice wb N wc'] K):=fun {w5 K} c5 k=>by
  have p1:=c5.row (fun h=>h) rC6
  have p2:=c5.row (fun h=>h) rA6
  exact ⟨by rw [p2.cell];rfl,by rw [p2.cell];rfl,kps_r p1 k⟩
 refine ⟨_,rfl,keep h15 (numw h15 fun w16 _ h16=>keep h16 ((r_Check16 (hx6.nob h16) nd NN).mono ?_))⟩
 rintro r w17 ⟨rfl,c17⟩
 refine ⟨_,rfl,Qaf (fun _=>c_sure16.mono ?_) fun h=>by simp at h⟩
 rintro r w18 ⟨rfl,c18⟩
 exact ⟨_,rfl,rfl,((cw6.trans h16).trans c17).trans c18⟩
end Core
end Go.Proofs.YtpmicakdjhoafaaGreatDoor
