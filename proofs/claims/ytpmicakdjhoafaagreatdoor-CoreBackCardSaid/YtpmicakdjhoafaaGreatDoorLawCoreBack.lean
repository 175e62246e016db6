/-
The law CoreBack: laid and taken away, weighed and weighed again, all is as it was.
Conditions: those that each theorem states.
-/
import Derived.Test.YtpmicakdjhoafaaGreatDoorShPlaitlaw16CoreBack
import Derived.Test.YtpmicakdjhoafaaGreatDoorGLawC
import Derived.Test.YtpmicakdjhoafaaGreatDoorLawB16
import Derived.Test.YtpmicakdjhoafaaGreatDoorCoreY
set_option linter.unusedVariables false
set_option linter.unusedSimpArgs false
namespace Go.Proofs.YtpmicakdjhoafaaGreatDoor
open Go Go.RowKit
theorem AC.rd {w:World} {b:Option Addr} {l:Nat} {f:Nat→Nat→Int} (h:AC w b l f) {i:Nat} (hi:i<l) {K:Int→Prop} (k:K (f i 1)):ixS b l (i:Int) 7 fun a=>ldI .i64 (a.add 1) w K:=by
 rcases h with h0 | ⟨a,rfl,ha,hc⟩
 ·omega
 ·refine ⟨a,rfl,by omega,by omega,?_⟩
  have:(i:Int).toNat=i:=by omega
  rw [this]
  exact ⟨_,hc i 1 hi (by omega),k⟩
namespace Core
open Go.Proofs.YtpmicakdjhoafaaGreatDoor.Seq Go.Proofs.YtpmicakdjhoafaaGreatDoor.Cut Go.Proofs.YtpmicakdjhoafaaGreatDoor.Web
section
variable {w w':World} {b b':Bk} {N e:Nat} {lv lv':Nat→Bool} {tl:Nat→List Nat} {q q':List (List Nat)} {B D B' D':Nat→Option (Nat × Nat)} {ky ky':Nat→Int} {h0 h1:Array Obj}
theorem GM.oneK (h:GM h0 b N lv tl q B D ky) (h':GM h1 b' N lv' tl q' B' D' ky') (hk:∀i,Laid tl N i→ky' i=ky i) (hB:(B e).isSome):(B' e).isSome:=by
 obtain ⟨p,hB⟩:=Option.isSome_iff_exists.1 hB
 obtain ⟨hl,rfl,hne⟩:=h.cb.bB e p hB
 cases hB':B' e with
 | some p=>rfl
 | none=>
  exfalso
  have hD':=h'.tied hl hB'
  obtain ⟨f,x,y,k1,k2,k3⟩:=sepP (P:=LK [] (upd B e none)) (q:=[]) (fun _=>LK.refl) (fun _ _=>LK.symm) (fun _ _ _=>LK.trans) (fun _ _ ⟨A,hA,_⟩=>by cases hA) N B' _ _ h'.bN h'.cj'.fB (h'.cj'.hang hl) (h.cj'.fB e _ _ hB)
  obtain ⟨hf,k4,_⟩:=h'.cb.bB f _ k1
  have hfe:f≠e:=by rintro rfl;rw [hB'] at k1;cases k1
  cases k4
  have hfB:B f=none:=by
   cases k:B f with
   | none=>rfl
   | some r=>
    obtain ⟨_,rfl,_⟩:=h.cb.bB f r k
    exact absurd (LK.te (e:=f) (by rw [Qak _ _ hfe];exact k)) k3
  have h1:=h'.mm f e _ _ (fun h=>h) k1 hD' k2
  have h2:=h.mm e f _ _ (fun h=>h) hB (h.tied hf hfB) k3
  rw [hk f hf,hk e hl] at h1
  omega
theorem GM.onesK (h:GM h0 b N lv tl q B D ky) (h':GM h1 b' N lv' tl q' B' D' ky') (hk:∀i,Laid tl N i→ky' i=ky i) (e:Nat):(B' e).isSome=(B e).isSome:=by
 rw [Bool.eq_iff_iff];exact ⟨h'.oneK h fun i hi=>(hk i hi).symm,h.oneK h' hk⟩
end
theorem VA.ia {w:World} {b:Option Addr} {L:List Nat} (h:VA w b L.length 1 (ivs L)):Seq.IA w b L.length (L.map fun x:Nat=>(x:Int)):=by
 refine ⟨by simp,?_⟩
 rcases h.2 with h0 | ⟨g,o,e,cs,rfl,hr,hx⟩
 ·exact .inl h0
 ·refine .inr ⟨g,o,e,cs,rfl,hr,fun i hi=>?_⟩
  have h1:((cs.drop o).take (L.length*1))[i]?=(ivs L)[i]?:=by rw [hx]
  rw [List.getElem?_take_of_lt (by omega),List.getElem?_drop] at h1
  rw [h1]
  unfold ivs
  simp [List.getElem?_map]
  cases L[i]?<;>rfl
theorem LA.fresh {w:World} {bad bad':Nat→Prop} {X:Value} {Y:List Nat} (h:LA w bad X Y) (k:∀g,bad' g→bad g∨w.heap.size≤g):LA w bad' X Y:=by
 obtain ⟨b,c,rfl,h1,h2,h3⟩:=h
 refine ⟨b,c,rfl,h1,fun g hl e hb=>?_,h3⟩
 rcases k g hb with k | k
 ·exact h2 g hl e k
 ·obtain ⟨g',e',hlt⟩:=h1.blk hl
  rw [e'] at e;cases e;omega
theorem c_CoreBack {w:World} {n m0 m1 m2 m3 m4 m5 m6:Int} {sb:Option Addr} {sl sc:Nat} {f:Nat→Nat→Int} (hg:LaidG w) (hf:AC w sb sl f) (hfw:∀i,i<sl→-2147483648≤f i 6∧f i 6≤2147483647) (hm6:-2147483648≤m6∧m6≤2147483647) :
  Calls Pg Qix #[.int .i64 n,.slice sb sl sc,.agg #[.int .i64 m0,.int .i64 m1,.int .i64 m2,.int .i64 m3,.int .i64 m4,.int .i64 m5,.int .i32 m6]] w fun e w'=>e=.returned (.bool true)∧Chg Qac w w':=by
 refine (Qml _ _ _ _ _ _ _ _ _ _ _ _ (fun v' w'=>v'=.bool true∧Chg Qac w w') ?_).mono (by rintro e w' ⟨v,rfl,rfl,k⟩;exact ⟨rfl,k⟩)
 unfold Qiv
 obtain ⟨K,hm0,hm1,he⟩:=size_ex n 2 9 (by omega) (by omega) (by omega)
 obtain ⟨N,rfl⟩:∃N,K=N+1:=⟨K-1,by omega⟩
 have eN:IntKind.wrap .i64 (((N+1:Nat):Int)-1)=((N:Nat):Int):=by rw [wrap64_in (by omega) (by omega)];omega
 have e2:IntKind.wrap .i64 (IntKind.wrap .i64 (2*((N+1:Nat):Int))-2)=((2*N:Nat):Int):=by rw [wrap64_in (x:=2*((N+1:Nat):Int)) (by omega) (by omega),wrap64_in (by omega) (by omega)];omega
 rw [he,eN,e2]
 have NN:N≤1048576:=by omega
 have hN1:1≤N:=by omega
 refine Qa2 fun A9 w1 hA9 cA rA=>⟨by decide,(Qwp (N:=N+1) (by omega) (by omega)).mono ?_⟩
 rintro r w2 ⟨b,rfl,c2,hlo,hmr⟩
 refine ⟨_,_,rfl,fun _ w'=>w'=w2,Qan (fun e=>absurd rfl e) (fun _=>Qag (fun h=>by cases h) (fun _=>rfl)),?_⟩
 rintro _ w3 rfl
 refine (r_New16 (bad:=fun k=>k<w3.heap.size) hN1 NN fun k j=>j).mono ?_
 rintro r w4 ⟨lb,lc,tb,tc,wb,wc',rfl,c4,hx⟩
 refine ⟨_,_,_,_,_,_,_,_,_,_,_,rfl,Qa2 fun C w5 hC c5 r5=>Qr1 r5 rfl (by simp [oneC]) fun w6 c6 rC=>?_⟩
 have l9:=rA.lt
 have sA:=cA.size
 have s2:=c2.size
 have s4:=c4.size
 have s5:=c5.size
 have lC:=r5.lt
 have s6:=c6.size
 have hlow:=hmr.x.lowA
 have rA:=c6.row (by omega) ((c2.trans (c4.trans c5)).row (fun h=>h) rA)
 have c36:Chg Qac w3 w6:=(c4.trans c5).trans' c6 fun i e=>.inr (by omega)
 have hst:LB (fun k=>k=C) w w6 b N (fun _=>false) (fun _=>[]) (ones (3*(N+1))) (fun _=>none) (fun _=>none) (fun _=>0) (fun _=>0) lb tb wb:=by
  refine ⟨(cA.trans c2).trans c36,fun k j=>by have:=hlo k j;omega,((GM.new hmr).nob c36).a,?_,fun k j=>⟨by omega,by omega⟩,fun k j i=>by have:=hlow k i;omega,rfl,rfl,fun e k=>?_⟩
  ·have h4:=(hx.old (n:=w5.heap.size)).nob c5
   refine (h4.keep c6 fun i e=>.inr (by omega)).weak fun k j=>?_
   rcases j with j | j
   ·exact .inl (hmr.x.low k j)
   ·exact .inr (by omega)
  ·unfold Laid at k;rw [Qri] at k;cases k
 have h9b:∀k,b.has k→k≠A9:=fun k j=>by have:=hlo k j;omega
 have hAC:A9≠C:=by omega
 let J:Nat→List Value→World→Prop:=fun j vs w'=>∃(i:Nat) (lb:Option Addr) (lc:Nat) (tb:Option Addr) (tc:Nat) (wb:Option Addr) (wc':Nat) (lv:Nat→Bool) (tl:Nat→List Nat) (q:List (List Nat)) (B D:Nat→Option (Nat × Nat)) (ky W:Nat→Int),vs=[.int .i64 i]∧i≤40∧LB (fun k=>k=C) w w' b N lv tl q B D ky W lb tb wb∧
  Row w'.heap C Qal [.int .i64 (N:Nat),.slice lb N lc,.int .i64 (N:Nat),.slice tb N tc,.slice wb N wc']∧Row w'.heap A9 Qfi [.int .i64 m0,.int .i64 m1,.int .i64 m2,.int .i64 m3,.int .i64 m4,.int .i64 m5,.int .i32 m6]∧j=40-i
 refine ⟨fun _ w'=>∃(lb:Option Addr) (lc:Nat) (tb:Option Addr) (tc:Nat) (wb:Option Addr) (wc':Nat) (lv:Nat→Bool) (tl:Nat→List Nat) (q:List (List Nat)) (B D:Nat→Option (Nat × Nat)) (ky W:Nat→Int),LB (fun k=>k=C) w w' b N lv tl q B D ky W lb tb wb∧
  Row w'.heap C Qal [.int .i64 (N:Nat),.slice lb N lc,.int .i64 (N:Nat),.slice tb N tc,.slice wb N wc']∧Row w'.heap A9 Qfi [.int .i64 m0,.int .i64 m1,.int .i64 m2,.int .i64 m3,.int .i64 m4,.int .i64 m5,.int .i32 m6],⟨LI J,LM J,⟨_,0,_,_,_,_,_,_,_,_,_,_,_,_,_,rfl,by omega,hst,rC,rA,rfl⟩,?_⟩,?_⟩
 ·clear hst rC rA
  intro _ i w49 hJ
  obtain ⟨i,lb,lc,tb,tc,wb,wc',lv,tl,q,B,D,ky,W,hvs,hi,hst,rC,rA,hj⟩:=hJ.at
  simp only [List.cons.injEq,Value.int.injEq,and_true,true_and] at hvs
  subst hvs
  refine ⟨fun _ w'=>w'=w49∧i<sl∧i<40,Qag (fun k1=>Qag (fun k2=>⟨rfl,by simp only [b1s] at k1;omega,by simp only [b1s] at k2;omega⟩) (fun k2=>⟨_,_,_,_,_,_,_,_,_,_,_,_,_,hst,rC,rA⟩)) (fun k1=>⟨_,_,_,_,_,_,_,_,_,_,_,_,_,hst,rC,rA⟩),?_⟩
  rintro _ w50 ⟨rfl,hil,hi40⟩
  have again:∀{w':World} {lb:Option Addr} {lc:Nat} {tb:Option Addr} {tc:Nat} {wb:Option Addr} {wc':Nat} {lv:Nat→Bool} {tl:Nat→List Nat} {q:List (List Nat)} {B D:Nat→Option (Nat × Nat)} {ky W:Nat→Int},LB (fun k=>k=C) w w' b N lv tl q B D ky W lb tb wb→
    Row w'.heap C Qal [.int .i64 (N:Nat),.slice lb N lc,.int .i64 (N:Nat),.slice tb N tc,.slice wb N wc']→Row w'.heap A9 Qfi [.int .i64 m0,.int .i64 m1,.int .i64 m2,.int .i64 m3,.int .i64 m4,.int .i64 m5,.int .i32 m6]→LI J [.int .i64 (IntKind.wrap .i64 ((i:Int)+1))] w'∧LM J [.int .i64 (IntKind.wrap .i64 ((i:Int)+1))] w' < LM J [.int .i64 i] w50:=fun h1 h2 h3=>by
   rw [wrap64_in (x:=(i:Int)+1) (by omega) (by omega)]
   exact LI.again (k:=40-(i+1)) ⟨i+1,_,_,_,_,_,_,_,_,_,_,_,_,_,rfl,by omega,h1,h2,h3,rfl⟩ (by rw [hj];omega)
  have ac:=hf.nob hst.c
  refine ac.rd hil (Qag (fun k1=>ac.rd hil (Qag (fun k2=>?_) fun _=>again hst rC rA)) fun _=>again hst rC rA)
  have cd:=(Chg.refl Qac w50).drew
  have hsd:=hst.nob cd
  have rC:=cd.row (fun h=>h) rC
  have rA:=cd.row (fun h=>h) rA
  simp only [b1s] at k1 k2
  refine Qgp rC ((hf.nob (hst.c.trans cd)).ld hil ((c_doB hg hsd ⟨by omega,by omega⟩ (hfw i hil)).mono ?_))
  rintro e w6 ⟨_,rfl,c6,z,lb',lc',tb',tc',wb',wc'',lv',tl',q',B',D',ky',W',rfl,hst'⟩
  have hCb:¬b.ch C:=fun k=>hst.xo C rfl (Bk.sub k)
  have hAb:¬b.ch A9:=fun k=>h9b A9 (Bk.sub k) rfl
  exact ⟨_,_,_,_,_,_,_,_,_,_,_,_,rfl,Qr1 (c6.row hCb rC) rfl (by simp [oneC]) fun w7 c7 rC'=>again (hst'.put c7) rC' (c7.row hAC (c6.row hAb rA))⟩
 clear hst rC rA J
 rintro _ w7 ⟨lb,lc,tb,tc,wb,wc',lv,tl,q,B,D,ky,W,hst,rC,rA⟩
 have c4:Chg Qac w7 w7.drew:=(Chg.refl Qac w7).drew
 obtain ⟨qN,cbN⟩:=hst.a.cb.down hst.t hst.n
 have nd:=cbN.mp.toND
 have hx7:=hst.x
 generalize w7.drew=w8 at *
 have cw7:=hst.c
 refine ⟨fun vs w'=>∃P Q p0 p1 q0 q1,vs=[.pointer (some ⟨P,0,none⟩),.pointer (some ⟨Q,0,none⟩)]∧Row w'.heap P Qat [.int .i64 p0,.int .i64 p1]∧Row w'.heap Q Qat [.int .i64 q0,.int .i64 q1]∧w7.heap.size≤P∧w7.heap.size≤Q∧Chg Qac w7 w',?_,?_⟩
 ·have cor:∀{w5:World} {x y:Int} {z:Bool} {K:Int→Int→World→Prop},Chg Qac w7 w5→(∀w6 x y,Chg Qac w5 w6→Chg Qac w7 w6→K x y w6)→Calls Pg Qai #[mV N lb lc tb tc wb wc',.agg #[.int .i64 x,.int .i64 y],.bool z] w5 fun e w'=>∃x y,e=.returned (.agg #[.int .i64 x,.int .i64 y])∧K x y w':=fun {w5 x y z K} c5 k=>by
   refine (Qwt (hx7.nob c5) nd NN).mono ?_
   rintro e w6 ⟨x,y,rfl,c6⟩
   exact ⟨x,y,rfl,k _ _ _ c6 (c5.trans c6)⟩
  have k2:∀{w5:World} {K:Prop},Chg Qac w7 w5→K→(w5.cell? ⟨A9,4,none⟩=some (.int .i64 m4)∧w5.cell? ⟨A9,5,none⟩=some (.int .i64 m5)∧kps w5 ⟨C,0,none⟩ 0 [.int .i64 (N:Nat),.slice lb N lc,.int .i64 (N:Nat),.slice tb N tc,.slice wb N wc'] K):=fun {w5 K} c5 k=>by
   have p1:=c5.row (fun h=>h) rC
   have p2:=c5.row (fun h=>h) rA
   exact ⟨by rw [p2.cell];rfl,by rw [p2.cell];rfl,Qul p1 k⟩
  have k1:∀{w5:World} {K:Prop},Chg Qac w7 w5→K→(w5.cell? ⟨A9,2,none⟩=some (.int .i64 m2)∧w5.cell? ⟨A9,3,none⟩=some (.int .i64 m3)∧kps w5 ⟨C,0,none⟩ 0 [.int .i64 (N:Nat),.slice lb N lc,.int .i64 (N:Nat),.slice tb N tc,.slice wb N wc'] K):=fun {w5 K} c5 k=>by
   have p1:=c5.row (fun h=>h) rC
   have p2:=c5.row (fun h=>h) rA
   exact ⟨by rw [p2.cell];rfl,by rw [p2.cell];rfl,Qul p1 k⟩
  have al:∀{w5:World} {K:Addr→World→Prop},Chg Qac w7 w5→(∀P w6,w5.heap.size≤P→P<w6.heap.size→Chg Qac w5 w6→Chg Qac w7 w6→Row w6.heap P Qat [.int .i64 0,.int .i64 0]→K ⟨P,0,none⟩ w6)→alo #[.int .i64 0,.int .i64 0] Qat w5 K:=fun {w5 K} c5 k=>Qa2 fun P w6 hP c6 r6=>k _ _ hP r6.lt c6 (c5.trans c6) r6
  have leaf:∀{w5:World} {P Q:Nat} {x y u v:Int},Chg Qac w7 w5→(w7.heap.size≤P∧w7.heap.size≤Q∧P≠Q)→Row w5.heap P Qat [.int .i64 0,.int .i64 0]→Row w5.heap Q Qat [.int .i64 0,.int .i64 0]→
    sto ⟨P,0,none⟩ (.int .i64 x) w5 fun w1=>sto (Addr.add ⟨P,0,none⟩ 1) (.int .i64 y) w1 fun w2=>sto ⟨Q,0,none⟩ (.int .i64 u) w2 fun w3'=>sto (Addr.add ⟨Q,0,none⟩ 1) (.int .i64 v) w3' fun w'=>∃P' Q' p0 p1 q0 q1,[Value.pointer (some ⟨P,0,none⟩),.pointer (some ⟨Q,0,none⟩)]=[.pointer (some ⟨P',0,none⟩),.pointer (some ⟨Q',0,none⟩)]∧Row w'.heap P' Qat [.int .i64 p0,.int .i64 p1]∧Row w'.heap Q' Qat [.int .i64 q0,.int .i64 q1]∧w7.heap.size≤P'∧w7.heap.size≤Q'∧Chg Qac w7 w':=fun {w5 P Q x y u v} c5 hh rP rQ=>
   lf hh.2.2 rP rQ fun w' c6 rP' rQ'=>⟨_,_,_,_,_,_,rfl,rP',rQ',hh.1,hh.2.1,c5.trans' c6 fun i e=>.inr (by omega)⟩
  have sz:∀{w5 w6:World},Chg Qac w5 w6→w5.heap.size≤w6.heap.size:=fun c=>c.size
  rw [Qaf,Qaf,Qaf,Qaf]
  refine Qgp (c4.row (fun h=>h) rC) (Qaj (n:=m2) (c4.row (fun h=>h) rA) rfl (Qaj (n:=m3) (c4.row (fun h=>h) rA) rfl (Qgp (c4.row (fun h=>h) rC) (Qaj (n:=m4) (c4.row (fun h=>h) rA) rfl (Qaj (n:=m5) (c4.row (fun h=>h) rA) rfl ⟨?_,?_,?_⟩)))))
  ·refine cor c4 fun w5 x y _ h5=>k2 h5 ⟨cor h5 fun w6 u v _ h6=>⟨?_,?_⟩,al h5 fun P w6 hP lP _ h6 rP=>k2 h6 ⟨?_,?_⟩,al h5 fun P w6 hP lP _ h6 rP=>k2 h6 ⟨?_,?_⟩⟩
   ·exact al h6 fun P w7 hP lP _ h7 rP=>al h7 fun Q w8 hQ lQ c8 h8 rQ=>leaf h8 (by have:=sz h6;have:=sz h7;omega) (c8.row (fun h=>h) rP) rQ
   ·exact al h6 fun P w7 hP lP _ h7 rP=>al h7 fun Q w8 hQ lQ c8 h8 rQ=>leaf h8 (by have:=sz h6;have:=sz h7;omega) rQ (c8.row (fun h=>h) rP)
   ·exact cor h6 fun w7 u v c7 h7=>al h7 fun Q w8 hQ lQ c8 h8 rQ=>leaf h8 (by have:=sz h5;have:=sz h6;have:=sz c7;omega) ((c7.trans c8).row (fun h=>h) rP) rQ
   ·exact al h6 fun Q w7 hQ lQ c7 h7 rQ=>k2 h7 (cor h7 fun w8 u v c8 h8=>leaf h8 (by have:=sz h5;have:=sz h6;omega) ((c7.trans c8).row (fun h=>h) rP) (c8.row (fun h=>h) rQ))
   ·exact cor h6 fun w7 u v c7 h7=>al h7 fun Q w8 hQ lQ c8 h8 rQ=>leaf h8 (by have:=sz h5;have:=sz h6;have:=sz c7;omega) rQ ((c7.trans c8).row (fun h=>h) rP)
   ·exact al h6 fun Q w7 hQ lQ c7 h7 rQ=>k2 h7 (cor h7 fun w8 u v c8 h8=>leaf h8 (by have:=sz h5;have:=sz h6;omega) (c8.row (fun h=>h) rQ) ((c7.trans c8).row (fun h=>h) rP))
  ·refine al c4 fun P w5 hP lP _ h5 rP=>k2 h5 (k1 h5 ⟨cor h5 fun w6 x y c6 h6=>k2 h6 ⟨?_,?_⟩,al h5 fun Q w6 hQ lQ c6 h6 rQ=>k2 h6 (k1 h6 ?_)⟩)
   ·exact cor h6 fun w7 u v c7 h7=>al h7 fun Q w8 hQ lQ c8 h8 rQ=>leaf h8 (by have:=sz c4;have:=sz h6;have:=sz c6;have:=sz c7;omega) (((c6.trans c7).trans c8).row (fun h=>h) rP) rQ
   ·exact al h6 fun Q w7 hQ lQ c7 h7 rQ=>k2 h7 (cor h7 fun w8 u v c8 h8=>leaf h8 (by have:=sz c4;have:=sz c6;have:=sz h6;omega) (((c6.trans c7).trans c8).row (fun h=>h) rP) (c8.row (fun h=>h) rQ))
   ·exact cor h6 fun w7 x y c7 h7=>k2 h7 (cor h7 fun w8 u v c8 h8=>leaf h8 (by have:=sz c4;have:=sz h5;omega) (((c6.trans c7).trans c8).row (fun h=>h) rP) ((c7.trans c8).row (fun h=>h) rQ))
  ·refine al c4 fun P w5 hP lP _ h5 rP=>k2 h5 (k1 h5 ⟨cor h5 fun w6 x y c6 h6=>k2 h6 ⟨?_,?_⟩,al h5 fun Q w6 hQ lQ c6 h6 rQ=>k2 h6 (k1 h6 ?_)⟩)
   ·exact cor h6 fun w7 u v c7 h7=>al h7 fun Q w8 hQ lQ c8 h8 rQ=>leaf h8 (by have:=sz c4;have:=sz h6;have:=sz c6;have:=sz c7;omega) rQ (((c6.trans c7).trans c8).row (fun h=>h) rP)
   ·exact al h6 fun Q w7 hQ lQ c7 h7 rQ=>k2 h7 (cor h7 fun w8 u v c8 h8=>leaf h8 (by have:=sz c4;have:=sz c6;have:=sz h6;omega) (c8.row (fun h=>h) rQ) (((c6.trans c7).trans c8).row (fun h=>h) rP))
   ·exact cor h6 fun w7 x y c7 h7=>k2 h7 (cor h7 fun w8 u v c8 h8=>leaf h8 (by have:=sz c4;have:=sz h5;omega) ((c7.trans c8).row (fun h=>h) rQ) (((c6.trans c7).trans c8).row (fun h=>h) rP))
 rintro _ p q' w9 ⟨P,Q,u0,u1,v0,v1,hvs,rP,rQ,hP7,hQ7,c9⟩
 simp only [List.cons.injEq,Value.pointer.injEq,and_true] at hvs
 obtain ⟨rfl,rfl⟩:=hvs
 have hlow7:=hst.a.toMR.x.lowA
 have hlo':=hst.lo
 have hsz7:=cw7.size
 have h9ch:¬b.ch A9:=fun k=>h9b A9 (Bk.sub k) rfl
 have hPch:¬b.ch P:=fun k=>by have:=hlow7 P (Bk.sub k);omega
 have hQch:¬b.ch Q:=fun k=>by have:=hlow7 Q (Bk.sub k);omega
 have gm:=(hst.a.nob c9).a
 have cw9:=cw7.trans c9
 have rA:=c9.row (fun h=>h) rA
 have hnl:¬Laid tl (N+1) N:=fun k=>by have:=hst.n N ((Qmg hst.t).1 k);omega
 have s9:=c9.size
 clear hst c4 hx7 rC c9 cbN
 refine (x_Sum gm).mono ?_
 rintro r w10 ⟨rfl,rfl⟩
 refine ⟨_,rfl,(Qwu gm.toMR).mono ?_⟩
 rintro r w11 ⟨rfl,c11⟩
 refine ⟨_,_,_,_,rfl,Qa2 fun Ac w12 hAc c12 rc=>?_⟩
 rw [Qaf,Qaf,Qaf]
 refine Qdb rc (by simp) rfl fun w13 c13 rc=>Qdb rc (by simp) rfl fun w14 c14 rc=>Qdb rc (by simp) rfl fun w15 c15 rc=>Qdb rc (by simp) rfl fun w16 c16 rc=>?_
 have s11:=c11.size
 have ce:Chg Qac w10 w16:=(c11.trans c12).trans' (((c13.trans c14).trans c15).trans c16) fun i e=>.inr (by omega)
 have hcch:¬b.ch Ac:=fun k=>by have:=hlow7 Ac (Bk.sub k);omega
 have gm:=(gm.nob ce).a
 have rA:=ce.row (fun h=>h) rA
 have rP:=ce.row (fun h=>h) rP
 have rQ:=ce.row (fun h=>h) rQ
 have cw16:=cw9.trans ce
 have s16:=ce.size
 clear c11 c12 c13 c14 c15 c16 ce cw9 s11 hAc
 have hbch:∀k,b.ch k→k<w16.heap.size:=fun k j=>by have:=hlow7 k (Bk.sub j);omega
 have e22:∀{d:Nat},d<2*N→IntKind.wrap .i64 (Int.tdiv (d:Int) (2:Int))=((d/2:Nat):Int):=fun {d} hd=>by
  have:Int.tdiv (d:Int) (2:Int)=((d/2:Nat):Int):=rfl
  rw [this,wrap64_in (by omega) (by omega)]
 let fs:Nat→List Nat→Prop:=fun k L=>(dE tl (N+1) k=0→Orb tl (N+1) k L)∧(dE tl (N+1) k≠0→L=[])
 let ms:Nat→Bool→Prop:=fun k z=>(eE tl (N+1) ((k/2:Nat):Int)≠0→z=false)∧(eE tl (N+1) ((k/2:Nat):Int)=0→z=(B (k/2)).isSome)
 let J:Nat→List Value→World→Prop:=fun jj vs w'=>∃(i:Nat) (fb:Option Addr) (fc:Nat) (mb:Option Addr) (mc:Nat) (V:Nat→Value) (FL:Nat→List Nat) (mk:Nat→Bool),vs=[.slice fb i fc,.slice mb i mc,.int .i64 i]∧i≤2*N∧Chg b.ch w16 w'∧GM w'.heap b (N+1) lv tl q B D ky∧
  Own w' w16.heap.size Qam 1 fb i fc (recs (fun k=>[V k]) i)∧Own w' w16.heap.size Qna 1 mb i mc (recs (bc mk) i)∧(∀g,bk fb=some g→bk mb≠some g)∧(∀k,k<i→LA w' (fun g=>g<w16.heap.size∨bk fb=some g∨bk mb=some g) (V k) (FL k))∧(∀k,k<i→fs k (FL k))∧(∀k,k<i→ms k (mk k))∧jj=2*N-i
 refine ⟨LI J,LM J,⟨_,0,none,0,none,0,fun _=>.nilIface,fun _=>[],fun _=>false,rfl,by omega,Chg.refl _ _,gm,Own.nil,Own.nil,fun g e=>(by cases e),fun k hk=>(by omega),fun k hk=>(by omega),fun k hk=>(by omega),rfl⟩,?_⟩
 clear gm
 intro _ a1 a2 a3 b1 b2 b3 ii w17 hJ
 obtain ⟨i,fb,fc,mb,mc,V,FL,mk,hvs,hi,ck,gm,of,om,hne,hV,hFL,hmk,hj⟩:=hJ.at
 simp only [List.cons.injEq,Value.slice.injEq,Value.int.injEq,and_true,true_and] at hvs
 obtain ⟨⟨rfl,hI,rfl⟩,⟨rfl,hI2,rfl⟩,rfl⟩:=hvs
 replace hI:=hI.symm
 subst hI
 replace hI2:=hI2.symm
 subst hI2
 have s17:=ck.size
 refine Qag (fun k1=>?_) (fun k1=>?_)<;>simp only [b1s] at k1
 ·have hi2:i<2*N:=by omega
  refine (x_Face gm).mono ?_
  rintro r w18 ⟨L,ob,oc,rfl,vL,oL,gs,hL1,hL2,hLc⟩
  refine ⟨_,_,_,_,rfl,by decide,?_⟩
  rw [e22 hi2]
  refine (Qvv gs.a).mono ?_
  rintro r w19 ⟨rfl,z,rfl,z1,z2⟩
  refine ⟨_,_,rfl,Qa2 fun A2 w20 hA2 c20 r20=>?_⟩
  have s18:=gs.c.size
  have s20:=c20.size
  have of20:=(of.chg gs.c fun g h1 _ h2=>by have:=hbch g h2;omega).chg c20 fun _ _ _ h=>h
  have om20:=(om.chg gs.c fun g h1 _ h2=>by have:=hbch g h2;omega).chg c20 fun _ _ _ h=>h
  obtain ⟨fb',fc',w21,g21,of21,c21,hfb⟩:=Qek (sc:=1) Quz of20 (ty:=Qbp) (VA.Qoa (l:=1) (sz:=1) r20 rfl) (by simp [oneC]) (by omega) (by omega) (by omega) (by omega)
  refine ⟨_,_,_,_,g21,Qa2 fun A3 w22 hA3 c22 r22=>?_⟩
  have s21:=c21.size
  have s22:=c22.size
  have om21:=om20.keep c21 fun g h1 h2=>hne g h2 h1
  have om22:=om21.chg c22 fun _ _ _ h=>h
  obtain ⟨mb',mc',w23,g23,om23,c23,hmb⟩:=Qek (sc:=1) ET_bool om22 (ty:=Qjs) (VA.Qoa (l:=1) (sz:=1) r22 rfl) (by simp [oneC]) (by omega) (by omega) (by omega) (by omega)
  refine ⟨_,_,_,_,g23,?_⟩
  have s23:=c23.size
  have of22:=of21.chg c22 fun _ _ _ h=>h
  have hfne:∀g,bk fb'=some g→bk a1≠some g∨True:=fun _ _=>.inr trivial
  have of23:=of22.keep c23 fun g h1 h2=>by
   rcases hfb with h | h
   ·rw [h] at h1;exact hne g h1 h2
   ·rw [h] at h1
    have:=(om20.Qfb h2).2
    obtain rfl:w20.heap.size=g:=Option.some.inj h1
    omega
  have hne':∀g,bk fb'=some g→bk mb'≠some g:=fun g h1 h2=>by
   have h7:=(of22.Qfb h1).2
   rcases hmb with h9 | h9
   ·rw [h9] at h2
    rcases hfb with h8 | h8
    ·rw [h8] at h1;exact hne g h1 h2
    ·rw [h8] at h1
     have:=(om20.Qfb h2).2
     obtain rfl:w20.heap.size=g:=Option.some.inj h1
     omega
   ·rw [h9] at h2
    obtain rfl:w22.heap.size=g:=Option.some.inj h2
    omega
  have chain:∀{X:Value} {Y:List Nat},LA w20 (fun g=>g<w16.heap.size∨bk a1=some g∨bk b1=some g) X Y→LA w23 (fun g=>g<w16.heap.size∨bk fb'=some g∨bk mb'=some g) X Y:=fun {X Y} h=>by
   have h1:LA w20 (fun g=>(g<w16.heap.size∨bk a1=some g∨bk b1=some g)∨bk fb'=some g) X Y:=h.fresh fun g hg=>by
    rcases hg with hg | hg
    ·exact .inl hg
    ·rcases hfb with h8 | h8
     ·rw [h8] at hg;exact .inl (.inr (.inl hg))
     ·rw [h8] at hg
      obtain rfl:w20.heap.size=g:=Option.some.inj hg
      exact .inr (Nat.le_refl _)
   have h2:=(h1.keep c21 fun g hg=>.inl (.inr (.inl hg))).nob c22
   have h3:LA w22 (fun g=>((g<w16.heap.size∨bk a1=some g∨bk b1=some g)∨bk fb'=some g)∨bk mb'=some g) X Y:=h2.fresh fun g hg=>by
    rcases hg with hg | hg
    ·exact .inl hg
    ·rcases hmb with h8 | h8
     ·rw [h8] at hg;exact .inl (.inl (.inr (.inr hg)))
     ·rw [h8] at hg
      obtain rfl:w22.heap.size=g:=Option.some.inj hg
      exact .inr (Nat.le_refl _)
   refine (h3.keep c23 fun g hg=>.inl (.inl (.inr (.inr hg)))).weak fun g hg=>?_
   rcases hg with hg | hg | hg
   ·exact .inl (.inl (.inl hg))
   ·exact .inl (.inr hg)
   ·exact .inr hg
  have cc:Chg b.ch w16 w23:=((((ck.trans gs.c).trans c20.weak).trans' c21 fun g e=>.inr (of20.Qfb e).1).trans c22.weak).trans' c23 fun g e=>.inr (om22.Qfb e).1
  have gm23:GM w23.heap b (N+1) lv tl q B D ky:=by
   have g20:=(gs.a.nob c20).a
   have g21':=g20.keep c21 fun g e j=>by have:=hlow7 g j;have:=(of20.Qfb e).1;omega
   exact ((g21'.nob c22).a).keep c23 fun g e j=>by have:=hlow7 g j;have:=(om22.Qfb e).1;omega
  rw [wrap64_in (x:=(i:Int)+1) (by omega) (by omega)]
  let V':Nat→Value:=upd V i (.slice ob L.length oc)
  have eV:recs (fun k=>[V k]) i++[.slice ob L.length oc]=recs (fun k=>[V' k]) (i+1):=by
   rw [Qji]
   have:V' i=.slice ob L.length oc:=by show upd _ _ _ _=_;rw [Qab]
   rw [this,Qi4 (f:=fun k=>[V k]) (g:=fun k=>[V' k]) fun k hk=>by show [V k]=[upd _ _ _ _];rw [Qak _ _ (by omega)]]
  have eM:recs (bc mk) i++[.bool z]=recs (bc (upd mk i z)) (i+1):=by
   rw [Qji]
   have:bc (upd mk i z) i=[.bool z]:=by unfold bc;rw [Qab]
   rw [this,Qi4 (f:=bc mk) (g:=bc (upd mk i z)) fun k hk=>by unfold bc;rw [Qak _ _ (by omega)]]
  refine LI.again (k:=2*N-(i+1)) ⟨i+1,fb',fc',mb',mc',V',upd FL i L,upd mk i z,rfl,by omega,cc,gm23,by rw [←eV];exact of23,by rw [←eM];exact om23,hne',fun k hk=>?_,fun k hk=>?_,fun k hk=>?_,rfl⟩ (by rw [hj];omega)
  ·by_cases h:k=i
   ·subst h
    show LA w23 _ (upd _ _ _ _) _
    rw [Qab,Qab]
    refine chain (LA.nob ⟨ob,oc,rfl,vL,fun g hg e hb=>?_,?_⟩ c20)
    ·rcases hb with hb | hb | hb
     ·exact oL g hg e (by omega)
     ·exact oL g hg e (by have:=(of.Qfb hb).2;omega)
     ·exact oL g hg e (by have:=(om.Qfb hb).2;omega)
    ·exact hLc
   ·show LA w23 _ (upd _ _ _ _) _
    rw [Qak _ _ h,Qak _ _ h]
    exact chain (((hV k (by omega)).keep gs.c fun g hg=>.inl (hbch g hg)).nob c20)
  ·by_cases h:k=i
   ·subst h;rw [Qab]
    exact ⟨fun hh=>by have:=hL1 hh;rwa [Int.toNat_natCast] at this,hL2⟩
   ·rw [Qak _ _ h];exact hFL k (by omega)
  ·by_cases h:k=i
   ·subst h;rw [Qab]
    exact ⟨z1,fun hh=>by have:=z2 hh;rwa [Int.toNat_natCast] at this⟩
   ·rw [Qak _ _ h];exact hmk k (by omega)
 have:i=2*N:=by omega
 subst this
 have tf:TF w17 b.ch a1 (2*N) FL:=⟨V,VA.Qj9 of,fun g hg e hb=>by have:=(of.Qfb e).1;have:=hbch g hb;omega,fun k hk=>(hV k hk).weak fun g hg=>.inl (hbch g hg)⟩
 have mv:VA w17 b1 (2*N) 1 (recs (bc mk) (2*N)):=VA.Qj9 om
 have mo:∀g,bk b1=some g→¬b.ch g:=fun g e hb=>by have:=(om.Qfb e).1;have:=hbch g hb;omega
 have rA:=ck.row h9ch rA
 have rP:=ck.row hPch rP
 have rQ:=ck.row hQch rQ
 have rc:=ck.row hcch rc
 have cw17:Chg Qac w w17:=cw16.trans' ck fun k j=>.inr (hlo' k (Bk.sub j))
 clear of om hne hV hj hJ J ck
 have cb:=gm.cb
 have hM:=cb.mp
 have b1':=cV_bd (lv:=lv) (N:=N+1)
 refine ⟨fun _ w'=>∃q' B' D' ky',GM w'.heap b (N+1) lv tl q' B' D' ky'∧(∀e,Laid tl (N+1) e→ky' e=ky e)∧Chg b.ch w17 w',pt_i (Qhj (i:=0) (by omega) (Qaj (n:=u0) rP rfl (pt_i (Qhj (i:=1) (by omega) (Qaj (n:=u1) rP rfl (pt_i (Qhj (i:=0) (by omega) (Qaj (n:=v0) rQ rfl (pt_i (Qhj (i:=1) (by omega) (Qaj (n:=v1) rQ rfl ?_))))))))))),?_⟩
 ·rw [Qaf]
  refine Qaj (n:=m6) rA rfl ((Qy5 (e:=(N:Nat)) gm hm6).mono ?_)
  rintro r w18 ⟨rfl,k1,k2⟩
  refine ⟨_,rfl,err_j (fun ke=>?_) (fun ke=>⟨_,_,_,_,(k1 ke).a,fun _ _=>rfl,(k1 ke).c⟩)⟩
  obtain ⟨q1,B1,D1,gs⟩:=k2 ke
  obtain ⟨hu,hv⟩:=jE_0 ke
  rw [Int.toNat_natCast] at gs
  have hl:Laid (lay tl N u0.toNat u1 v0.toNat v1) (N+1) N:=(Qi7 hu hv).2 (.inr (.inl rfl))
  have hE:eE (lay tl N u0.toNat u1 v0.toNat v1) (N+1) (N:Nat)=0:=eE_of (by omega) hl
  refine (Qy4 (e:=(N:Nat)) gs.a).mono ?_
  rintro r w19 ⟨rfl,_,k3⟩
  obtain ⟨q2,B2,D2,gs2,_⟩:=k3 hE
  rw [Int.toNat_natCast,lift_lay hM hnl (by omega) hu hv] at gs2
  refine ⟨_,rfl,Qan (fun e=>absurd hE e) fun _=>⟨q2,B2,D2,_,gs2.a,fun e he=>?_,gs.c.trans gs2.c⟩⟩
  rw [Qak _ _ (by rintro rfl;exact hnl he)]
 rintro _ w18 ⟨q1,B1,D1,ky1,gm1,hk1,ck1⟩
 have rA1:=ck1.row h9ch rA
 rw [Qaf]
 refine Qaj (n:=m1) rA1 rfl ((x_Weight gm1).mono ?_)
 rintro r w19 ⟨rfl,z,rfl,_,hz⟩
 refine ⟨_,_,rfl,fun _ w'=>∃q' B' D' ky',GM w'.heap b (N+1) lv tl q' B' D' ky'∧(∀e,Laid tl (N+1) e→ky' e=ky e)∧Chg b.ch w17 w',err_j (fun ke=>?_) (fun _=>⟨_,_,_,_,gm1,hk1,ck1⟩),?_⟩
 ·have hz:=hz ke
  obtain ⟨x,rfl,hl⟩:=Qwm ke
  rw [Int.toNat_natCast] at hz
  refine Qaj (n:=(x:Int)) rA1 rfl ?_
  rw [Qaf]
  refine Qaj (n:=m6) rA1 rfl ((Qvu gm1 hm6).mono ?_)
  rintro r w20 ⟨rfl,_,k1⟩
  obtain ⟨B2,D2,gs⟩:=k1 ke
  refine ⟨_,rfl,Qan (fun e=>absurd ke e) fun _=>Qaj (n:=(x:Int)) (gs.c.row h9ch rA1) rfl ((Qvu gs.a (z:=z) ?_).mono ?_)⟩
  ·have:=gm1.kb x
   omega
  rintro r w21 ⟨rfl,_,k2⟩
  obtain ⟨B3,D3,gs2⟩:=k2 ke
  rw [Int.toNat_natCast,Qoi] at gs2
  refine ⟨_,rfl,Qan (fun e=>absurd ke e) fun _=>⟨_,B3,D3,_,gs2.a,fun e he=>?_,(ck1.trans gs.c).trans gs2.c⟩⟩
  by_cases h:e=x
  ·subst h
   rw [Qab,hz]
   obtain ⟨w0,_,_,hw0⟩:=gm1.ki e hl
   have:=hM.Qcb hl
   have:=hk1 e hl
   omega
  ·rw [Qak _ _ h];exact hk1 e he
 clear hz rA1 ck1 gm1 hk1
 rintro _ w20 ⟨q2,B2,D2,ky2,gm2,hk2,ck2⟩
 have hon:=gm.onesK gm2 hk2
 let J:Nat→List Value→World→Prop:=fun jj vs w'=>∃i:Nat,vs=[.int .i64 i]∧i≤2*N∧GM w'.heap b (N+1) lv tl q2 B2 D2 ky2∧Chg b.ch w17 w'∧jj=2*N-i
 refine ⟨LI J,LM J,⟨_,0,rfl,by omega,gm2,ck2,rfl⟩,?_⟩
 clear gm2 ck2
 intro _ ii w21 hJ
 obtain ⟨i,hvs,hi,gm2,ck,hj⟩:=hJ.at
 simp only [List.cons.injEq,Value.int.injEq,and_true,true_and] at hvs
 subst hvs
 refine Qag (fun k1=>?_) (fun k1=>?_)<;>simp only [b1s] at k1
 ·have hi2:i<2*N:=by omega
  refine (x_Face gm2).mono ?_
  rintro r w22 ⟨L,ob,oc,rfl,vL,oL,gs,hL1,hL2,hLc⟩
  refine ⟨_,_,_,_,rfl,by decide,?_⟩
  rw [e22 hi2]
  refine (Qvv gs.a).mono ?_
  rintro r w23 ⟨rfl,z,rfl,z1,z2⟩
  have ck3:=ck.trans gs.c
  refine ⟨_,_,rfl,(tf.keep ck3 fun _ h=>h).rd hi2 fun eb ec v1 v2 v3=>?_⟩
  have hLe:L=FL i:=by
   obtain ⟨f1,f2⟩:=hFL i hi2
   by_cases hd:dE tl (N+1) i=0
   ·have:=hL1 hd
    rw [Int.toNat_natCast] at this
    exact this.uniq (f1 hd)
   ·rw [hL2 hd,f2 hd]
  subst hLe
  refine (c_ints16 (VA.ia vL) (VA.ia v1) ?_).mono ?_
  ·by_cases hd:dE tl (N+1) i=0
   ·have:=(hL1 hd).len hM.toND
    omega
   ·rw [hL2 hd];simp
  rintro r w24 ⟨rfl,c24⟩
  refine ⟨_,rfl,Qag (fun h=>by simp at h) fun _=>?_⟩
  have ck4:=ck3.trans c24.weak
  refine (mv.keep ck4 fun g hg e h=>mo g e h).ix hi2 fun g o ty cs rg hbg hc=>ldB_r (n:=mk i) rg ?_ (Qag (fun h=>?_) fun _=>?_)
  ·have:=hc 0 (by omega)
   rw [Nat.add_zero,Nat.mul_one,Nat.add_zero,Qvr hi2] at this
   exact this
  ·exfalso
   obtain ⟨f1,f2⟩:=hmk i hi2
   have:z=mk i:=by
    by_cases hd:eE tl (N+1) ((i/2:Nat):Int)=0
    ·have:=z2 hd
     rw [Int.toNat_natCast] at this
     rw [this,f2 hd,hon]
    ·rw [z1 hd,f1 hd]
   rw [this] at h
   simp at h
  ·rw [wrap64_in (x:=(i:Int)+1) (by omega) (by omega)]
   exact LI.again (k:=2*N-(i+1)) ⟨i+1,rfl,by omega,(gs.a.nob c24).a,ck4,rfl⟩ (by rw [hj];omega)
 have:i=2*N:=by omega
 subst this
 have cd:Chg b.ch w17 w21.drew:=ck.trans ((Chg.refl Qac w21).drew).weak
 have gm3:=(gm2.nob (Chg.refl Qac w21).drew).a
 generalize w21.drew=w22 at *
 have eS:sB B2 ky2 (N+1)=sB B ky (N+1):=Qk2 fun e he=>by
  rw [hon e]
  cases hB:B e with
  | none=>rfl
  | some p=>rw [hk2 e (cb.bB e p hB).1]
 have eC:cB B2 (N+1)=cB B (N+1):=Qk2 fun e he=>by rw [hon e]
 refine (x_Sum gm3).mono ?_
 rintro r w23 ⟨rfl,rfl⟩
 rw [eS]
 have rc2:=cd.row hcch rc
 refine ⟨_,rfl,Qag (fun _=>Qaj (n:=cV lv (N+1)) rc2 rfl (Qaj (n:=cE tl (N+1)) rc2 rfl (Qaj (n:=2*(cV lv (N+1)-cB B (N+1))-cV lv (N+1)+cE tl (N+1)) rc2 rfl (Qaj (n:=cV lv (N+1)-cB B (N+1)) rc2 rfl ((Qwu gm3.toMR).mono ?_))))) fun h=>by simp at h⟩
 rintro r w24 ⟨rfl,c24⟩
 rw [eC]
 have rc3:=c24.row (fun h=>h) rc2
 refine ⟨_,_,_,_,rfl,by rw [rc3.cell];rfl,by rw [rc3.cell];rfl,by rw [rc3.cell];rfl,by rw [rc3.cell];rfl,_,_,(Qv5 (k:=.i64) (offs:=[0,1,2,3]) (X:=fun o=>if o=0 then cV lv (N+1) else if o=1 then cE tl (N+1) else if o=2 then 2*(cV lv (N+1)-cB B (N+1))-cV lv (N+1)+cE tl (N+1) else cV lv (N+1)-cB B (N+1)) (Y:=fun o=>if o=0 then cV lv (N+1) else if o=1 then cE tl (N+1) else if o=2 then 2*(cV lv (N+1)-cB B (N+1))-cV lv (N+1)+cE tl (N+1) else cV lv (N+1)-cB B (N+1)) (by kernel_rfl) (by kernel_rfl) (by kernel_rfl) (by kernel_rfl) (by kernel_rfl) ?_).1,Qag (fun _=>c_sure16.mono ?_) fun h=>by simp at h⟩
 ·intro o ho
  simp only [List.mem_cons,List.not_mem_nil,or_false] at ho
  rcases ho with rfl | rfl | rfl | rfl<;>exact ⟨rfl,rfl⟩
 rintro r w25 ⟨rfl,c25⟩
 exact ⟨_,rfl,rfl,((cw17.trans' cd fun k j=>.inr (hlo' k (Bk.sub j))).trans c24).trans c25⟩
end Core
end Go.Proofs.YtpmicakdjhoafaaGreatDoor
