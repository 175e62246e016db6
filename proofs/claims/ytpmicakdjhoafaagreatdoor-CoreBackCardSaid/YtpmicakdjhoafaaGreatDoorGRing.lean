/-
The cycles of layer 5 over the sequences of layer 4; Go's slices.Index and slices.Concat.
Conditions: those that each theorem states.
-/
import Derived.Test.YtpmicakdjhoafaaGreatDoorGLaw
import Derived.Test.YtpmicakdjhoafaaGreatDoorGRef
import Derived.Test.YtpmicakdjhoafaaGreatDoorShRing
import Derived.Test.YtpmicakdjhoafaaGreatDoorShSeq
import Derived.Lib.AppendZeros
import Derived.Deep.Upon
set_option linter.unusedVariables false
set_option linter.unusedSimpArgs false
namespace Go.Proofs.YtpmicakdjhoafaaGreatDoor
open Go Go.RowKit
namespace Seq
theorem Qyk {P:Program} {w:World} {base:Nat} {t e:TypeId} {by_:Nat} {b sb:Option Addr} {l c sc:Nat} {xs:List Value} (T:ET P t e 1 by_) (h:Own w base e 1 b l c xs) {ty:TypeId} :
  (Builtin.append_ #[t,t] ty #[.slice b l c,.slice sb 0 sc]).run P w=.ok (.slice b l c) w:=by
 obtain ⟨i,z,hi,hz,hsz,hby,hzs⟩:=T.info
 refine run_append_nothing w t t ty e i T.und hi b l c h.cap.1 _ ⟨.inl ⟨e,T.und⟩,fun _=>rfl,?_,?_,by simp,by simp⟩
 ·cases sb with
  | none=>rfl
  | some a=>simp [Builtin.firstCells];rfl
 ·cases sb with
  | none=>rfl
  | some a=>simp [Builtin.firstCells];rfl
theorem c_Index {w:World} {b:Option Addr} {l c i:Nat} {x:Int} {A:List Int} (h:IA w b l A) (hi:A[i]?=some x) (hf:∀j,j<i→A[j]?≠some x) (hl:l≤1000000000) :
  Calls Pg Qe5 #[.slice b l c,.int .i64 x] w fun e w'=>e=.returned (.int .i64 i)∧Chg Qac w w':=by
 refine (Qkz _ _ _ _ _ (fun v' w'=>v'=.int .i64 i∧Chg Qac w w') ?_).mono (by rintro e w' ⟨v,rfl,rfl,k⟩;exact ⟨rfl,k⟩)
 unfold Qhz
 have hil:i<l:=by rw [←h.1];exact (List.getElem?_eq_some_iff.1 hi).1
 let J:Nat→List Value→World→Prop:=fun j vs w'=>∃k:Nat,vs=[.int .i64 k]∧k≤i∧Chg Qac w w'∧j=l-k
 refine ⟨LI J,LM J,⟨_,0,rfl,by omega,Chg.refl _ _,rfl⟩,?_⟩
 intro _ n4 w5 hJ
 obtain ⟨k,hvs,hk,hch,hj⟩:=hJ.at
 simp only [List.cons.injEq,Value.int.injEq,and_true,true_and] at hvs
 subst hvs
 refine Qag (fun hc=>?_) (fun hc=>?_)<;>simp only [b1s] at hc
 ·obtain ⟨u,hu⟩:∃u,A[k]?=some u:=⟨_,List.getElem?_eq_getElem (by rw [h.1];omega)⟩
  refine (h.nob hch).rd hu ?_
  refine Qag (fun hc2=>?_) (fun hc2=>?_)<;>simp only [b1s] at hc2
  ·subst hc2
   have:k=i:=by
    rcases Nat.lt_or_ge k i with h' | h'
    ·exact absurd hu (hf k h')
    ·omega
   subst this
   exact ⟨rfl,hch⟩
  ·rw [wrap64_in (by omega) (by omega)]
   refine LI.again (k:=l-(k+1)) ⟨k+1,rfl,?_,hch,rfl⟩ (by rw [hj];omega)
   have:k≠i:=by rintro rfl;rw [hi] at hu;injection hu with hu;exact hc2 hu
   omega
 ·omega
theorem c_Grow {w:World} {n:Nat} (hn:n≤1000000000) :
  Calls Pg Qfk #[.slice none 0 0,.int .i64 n] w fun e w'=>∃b c,e=.returned (.slice b 0 c)∧Own w' w.heap.size Qbl 1 b 0 c []∧Chg Qac w w':=by
 refine (Qmj _ _ _ _ _ (fun v' w'=>∃b c,v'=.slice b 0 c∧Own w' w.heap.size Qbl 1 b 0 c []∧Chg Qac w w') ?_).mono (by rintro e w' ⟨v,rfl,b,c,rfl,k⟩;exact ⟨b,c,rfl,k⟩)
 unfold Qit
 have e1:IntKind.wrap .i64 ((n:Int)-(IntKind.wrap .i64 (((0:Nat):Int)-((0:Nat):Int))))=n:=by
  rw [wrap64_in (x:=((0:Nat):Int)-((0:Nat):Int)) (by omega) (by omega),wrap64_in (by omega) (by omega)];omega
 rw [e1]
 refine Qag (fun hc=>?_) (fun hc=>?_)
 ·simp only [b1s] at hc;omega
 refine Qag (fun hc=>?_) (fun hc=>?_)<;>simp only [b1s] at hc
 ·obtain ⟨i,z,hi,hz,hsz,hby,hzs⟩:=Qke.info
  have hr:=Lib.run_append_nil_zeros w Qam Qbl Qam Qbl i z .i64 .i64 Qke.und (by kernel_rfl) hi hz n (by omega) (by omega) (by omega) (by rw [hby];omega)
  refine ⟨by omega,by omega,?_⟩
  have hcap:n≤grownCap w n 0 Qbl:=grownCap_ge w n 0 Qbl
  have hmx:grownCap w n 0 Qbl≤maxLen:=grownCap_le_maxLen w n 0 Qbl (by unfold maxLen;omega)
  refine ⟨_,_,_,_,hr,by omega,by omega,?_⟩
  refine ⟨_,_,rfl,?_,((Chg.refl _ w).drew).alloc _⟩
  rw [if_neg (by omega),Nat.sub_zero]
  refine ⟨by simp,.inr ⟨w.heap.size,grownCap w n 0 Qbl,Builtin.zeroCells z.cells n++Builtin.zeroCells z.cells (grownCap w n 0 Qbl-n),rfl,Nat.le_refl _,?_,by omega,hmx,?_,by simp⟩⟩
  ·show (w.heap.push _)[w.heap.size]?=_
   simp
  ·simp [size_zeroCells,hzs];omega
 ·have:n=0:=by omega
  subst this
  exact ⟨none,0,rfl,Own.nil,Chg.refl _ _⟩
theorem c_Concat2 {w:World} {g:Nat} {b1 b2:Option Addr} {l1 c1 l2 c2:Nat} {A B:List Int} (hr:Row w.heap g Qam [.slice b1 l1 c1,.slice b2 l2 c2]) (h1:IA w b1 l1 A) (h2:IA w b2 l2 B) (hl1:l1≤100000000) (hl2:l2≤100000000) :
  Calls Pg Qex #[.slice (some ⟨g,0,none⟩) 2 2] w fun e w'=>∃b c,e=.returned (.slice b (l1+l2) c)∧Own w' w.heap.size Qbl 1 b (l1+l2) c ((A++B).map (Value.int .i64))∧Chg Qac w w':=by
 refine (Qkv _ _ _ _ (fun v' w'=>∃b c,v'=.slice b (l1+l2) c∧Own w' w.heap.size Qbl 1 b (l1+l2) c ((A++B).map (Value.int .i64))∧Chg Qac w w') ?_).mono (by rintro e w' ⟨v,rfl,b,c,rfl,k⟩;exact ⟨b,c,rfl,k⟩)
 unfold Qhr
 let ls:Nat→Nat:=fun k=>if k=0 then 0 else if k=1 then l1 else l1+l2
 let J:Nat→List Value→World→Prop:=fun j vs w'=>∃k:Nat,vs=[.int .i64 (ls k:Nat),.int .i64 k]∧k≤2∧w'=w∧j=2-k
 refine ⟨LI J,LM J,⟨_,0,rfl,by omega,rfl,rfl⟩,?_⟩
 intro _ n3 n4 w5 hJ
 obtain ⟨k,hvs,hk,rfl,hj⟩:=hJ.at
 simp only [List.cons.injEq,Value.int.injEq,and_true,true_and] at hvs
 obtain ⟨rfl,rfl⟩:=hvs
 refine Qag (fun hc=>?_) (fun hc=>?_)<;>simp only [b1s] at hc
 ·refine Qb3 (by omega) ?_
  have step:∀(b:Option Addr) (l c:Nat),[Value.slice b1 l1 c1,.slice b2 l2 c2][k]?=some (.slice b l c)→l≤100000000→ls (k+1)=ls k+l→ldS ⟨g,0+k*1,none⟩ w5 (fun s14_7b s14_7l s14_7c=>
    bif (decide ((IntKind.wrap .i64 ((ls k:Nat)+(s14_7l:Int)))<(0:Int))) then False
    else (LI J [(Value.int .i64 (IntKind.wrap .i64 ((ls k:Nat)+(s14_7l:Int)))),(Value.int .i64 (IntKind.wrap .i64 ((k:Int)+(1:Int))))] w5∧LM J [(Value.int .i64 (IntKind.wrap .i64 ((ls k:Nat)+(s14_7l:Int)))),(Value.int .i64 (IntKind.wrap .i64 ((k:Int)+(1:Int))))] w5<LM J [(Value.int .i64 (ls k:Nat)),(Value.int .i64 (k:Int))] w5)):=by
   intro b l c hcell hl hls
   have hlk:ls k≤200000000:=by simp only [ls];split;omega;split<;>omega
   refine Qba hr (by rw [Nat.zero_add,Nat.mul_one];exact hcell) ?_
   rw [wrap64_in (x:=(ls k:Int)+(l:Int)) (by omega) (by omega),wrap64_in (x:=(k:Int)+1) (by omega) (by omega)]
   refine Qag (fun h=>?_) (fun _=>?_)
   ·simp only [b1s] at h;omega
   exact LI.again (k:=2-(k+1)) ⟨k+1,by rw [hls];rfl,by omega,rfl,rfl⟩ (by rw [hj];omega)
  have hk01:k=0∨k=1:=by omega
  rcases hk01 with rfl | rfl
  ·exact step b1 l1 c1 rfl hl1 (by simp [ls])
  ·exact step b2 l2 c2 rfl hl2 (by simp [ls])
 ·have hk2:k=2:=by omega
  subst hk2
  have hls:ls 2=l1+l2:=by simp [ls]
  rw [hls]
  refine (c_Grow (n:=l1+l2) (by omega)).mono ?_
  rintro e w9 ⟨b0,c0,rfl,ho0,hc0⟩
  refine ⟨_,_,_,rfl,?_⟩
  let Xs:Nat→List Int:=fun k=>if k=0 then [] else if k=1 then A else A++B
  have hA:=h1.1
  have hB:=h2.1
  have hXl:∀k,k≤2→(Xs k).length=ls k:=by
   intro k hk
   simp only [Xs,ls]
   split
   ·rfl
   ·split
    ·exact hA
    ·simp [hA,hB]
  let J2:Nat→List Value→World→Prop:=fun j vs w'=>∃(k:Nat) (b:Option Addr) (c:Nat),vs=[.slice b (ls k) c,.int .i64 k]∧k≤2∧Chg Qac w5 w'∧Own w' w5.heap.size Qbl 1 b (ls k) c ((Xs k).map (Value.int .i64))∧j=2-k
  refine ⟨LI J2,LM J2,⟨_,0,b0,c0,rfl,by omega,hc0,ho0,rfl⟩,?_⟩
  intro _ sb sl sc n14 w15 hJ2
  obtain ⟨k,b,c,hvs,hk,hch,ho,hj2⟩:=hJ2.at
  simp only [List.cons.injEq,Value.slice.injEq,Value.int.injEq,and_true,true_and] at hvs
  obtain ⟨⟨rfl,rfl,rfl⟩,rfl⟩:=hvs
  refine Qag (fun hc=>?_) (fun hc=>?_)<;>simp only [b1s] at hc
  ·have hr15:=hch.row (fun h=>h) hr
   have hlk:ls k≤200000000:=by simp only [ls];split;omega;split<;>omega
   refine Qb3 (by omega) ?_
   have step:∀(b':Option Addr) (l' c':Nat) (X:List Int),[Value.slice b1 l1 c1,.slice b2 l2 c2][k]?=some (.slice b' l' c')→IA w5 b' l' X→l'≤100000000→ls (k+1)=ls k+l'→Xs (k+1)=Xs k++X→
     ldS ⟨g,0+k*1,none⟩ w15 (fun s30_17b s30_17l s30_17c=>∃s33_18b:Option Addr,∃s33_18l:Nat,∃s33_18c:Nat,∃w19:World,(Builtin.append_ #[Qam,Qam] Qam #[(Value.slice sb (ls k) sc),(Value.slice s30_17b s30_17l s30_17c)]).run Pg w15=.ok (Value.slice s33_18b s33_18l s33_18c) w19∧
      (LI J2 [(Value.slice s33_18b s33_18l s33_18c),(Value.int .i64 (IntKind.wrap .i64 ((k:Int)+(1:Int))))] w19∧LM J2 [(Value.slice s33_18b s33_18l s33_18c),(Value.int .i64 (IntKind.wrap .i64 ((k:Int)+(1:Int))))] w19<LM J2 [(Value.slice sb (ls k) sc),(Value.int .i64 (k:Int))] w15)):=by
    intro b' l' c' X hcell hX hl' hls hXs
    refine Qba hr15 (by rw [Nat.zero_add,Nat.mul_one];exact hcell) ?_
    rw [wrap64_in (x:=(k:Int)+1) (by omega) (by omega)]
    by_cases h0:l'=0
    ·subst h0
     have hX0:X=[]:=List.length_eq_zero_iff.1 hX.1
     subst hX0
     refine ⟨_,_,_,w15,Qyk (ty:=Qam) Qke ho (sb:=b') (sc:=c'),?_⟩
     refine LI.again (k:=2-(k+1)) ⟨k+1,_,_,by rw [hls];rfl,by omega,hch,?_,rfl⟩ (by rw [hj2];omega)
     rw [hls,hXs,Nat.add_zero,List.append_nil];exact ho
    ·obtain ⟨b'',c'',w19,hrun,ho',hc',_⟩:=Qyj (sc:=c') (ty:=Qam) Qke ho (hX.nob hch) (by omega) hch.size (by omega) (by omega)
     refine ⟨_,_,_,w19,hrun,?_⟩
     refine LI.again (k:=2-(k+1)) ⟨k+1,_,_,by rw [hls];rfl,by omega,hch.trans' hc' (fun i hi=>.inr (ho.Qfb hi).1),?_,rfl⟩ (by rw [hj2];omega)
     rw [hls,hXs,List.map_append];exact ho'
   have hk01:k=0∨k=1:=by omega
   rcases hk01 with rfl | rfl
   ·exact step b1 l1 c1 A rfl h1 hl1 (by simp [ls]) (by simp [Xs])
   ·exact step b2 l2 c2 B rfl h2 hl2 (by simp [ls]) (by simp [Xs])
  ·have hk2:k=2:=by omega
   subst hk2
   exact ⟨sb,sc,by rw [hls],by rw [←hls];exact ho,hch⟩
end Seq
end Go.Proofs.YtpmicakdjhoafaaGreatDoor
namespace Go.Proofs.YtpmicakdjhoafaaGreatDoor
open Go Go.RowKit
namespace Seq
structure AR (h:Array Obj) (R F L n:Nat) (v:Nat→Int) (q:List (List Nat)):Prop where
 r:Row h R Qmd [.pointer (some ⟨F,0,none⟩)]
 a:AF h F L n v q
 nF:R≠F
 nL:R≠L
structure RS (w₀ w:World) (R F L n:Nat) (v:Nat→Int) (q:List (List Nat)):Prop where
 s:AS w₀ w F L n v q
 r:Row w.heap R Qmd [.pointer (some ⟨F,0,none⟩)]
 nF:R≠F
 nL:R≠L
section
variable {w₀ w w':World} {R F L n a b x:Nat} {v v':Nat→Int} {q q':List (List Nat)} {A B pre post pra poa prb pob:List Nat}
theorem RS.ar (h:RS w₀ w R F L n v q):AR w.heap R F L n v q:=⟨h.r,h.s.af,h.nF,h.nL⟩
theorem RS.chg (h:RS w₀ w R F L n v q):Chg (·=L) w₀ w:=h.s.chg
theorem AR.rs (h:AR w.heap R F L n v q) (k:AS w w' F L n v' q'):RS w w' R F L n v' q':=⟨k,k.chg.row (fun e=>h.nL e) h.r,h.nF,h.nL⟩
theorem RS.trans (h:RS w₀ w R F L n v q) (k:RS w w' R F L n v' q'):RS w₀ w' R F L n v' q':=⟨h.s.trans k.s,k.r,k.nF,k.nL⟩
theorem RS.as (h:RS w₀ w R F L n v q) (k:AS w w' F L n v' q'):RS w₀ w' R F L n v' q':=h.trans (h.ar.rs k)
theorem AR.perm {h:Array Obj} (k:AR h R F L n v q) (p:q.Perm q'):AR h R F L n v q':=⟨k.r,k.a.perm p,k.nF,k.nL⟩
theorem RS.perm (k:RS w₀ w R F L n v q) (p:q.Perm q'):RS w₀ w R F L n v q':=⟨k.s.perm p,k.r,k.nF,k.nL⟩
theorem RS.drew (k:RS w₀ w R F L n v q):RS w₀ w.drew R F L n v q:=⟨k.s.drew,k.r,k.nF,k.nL⟩
theorem RS.nob (h:RS w₀ w R F L n v q) (k:Chg Qac w w'):RS w₀ w' R F L n v q:=by
 obtain ⟨s,ts,a,b,c⟩:=h.s
 exact ⟨⟨s,ts,⟨a.i.chg k (fun h=>h) (fun h=>h),a.c.trans' k (fun i hi=>hi.elim),a.lt⟩,b,c⟩,k.row (fun h=>h) h.r,h.nF,h.nL⟩
theorem AR.keep (h:AR w.heap R F L n v q) {S:Nat→Prop} (c:Chg S w w') (hR:¬S R) (hF:¬S F) (hL:¬S L):AR w'.heap R F L n v q:=⟨c.row hR h.r,h.a.keep c hF hL,h.nF,h.nL⟩
theorem Qnd (h:Row w.heap R Qmd [.pointer (some ⟨F,0,none⟩)]):Calls Pg Qch #[.pointer (some ⟨R,0,none⟩)] w fun e w'=>e=.returned (.pointer (some ⟨F,0,none⟩))∧w'=w:=by
 refine (Qjp _ _ (fun v' w'=>v'=.pointer (some ⟨F,0,none⟩)∧w'=w) ?_).mono (by rintro e w' ⟨v,rfl,rfl,k⟩;exact ⟨rfl,k⟩)
 unfold Qh2
 exact Qag (fun h=>by cases h) (fun _=>pt_i (Qa7 h rfl ⟨rfl,rfl⟩))
theorem Qne (h:AR w.heap R F L n v (A::q)) (ha:a∈A) (hb:b∈A) :
  Calls Pg Qbz #[.pointer (some ⟨R,0,none⟩),.int .i64 a,.int .i64 b] w fun e w'=>e=.returned (.tuple #[.bool true,errV 0])∧RS w w' R F L n v (A::q):=by
 refine (Qeh _ _ _ _ (fun v' w'=>v'=.tuple #[.bool true,errV 0]∧RS w w' R F L n v (A::q)) ?_).mono (by rintro e w' ⟨v,rfl,rfl,k⟩;exact ⟨rfl,k⟩)
 unfold Qd0
 refine (Qnd h.r).mono ?_
 rintro e w4 ⟨rfl,rfl⟩
 refine ⟨_,rfl,(c_Same_yes h.a ha hb).mono ?_⟩
 rintro e w8 ⟨rfl,has⟩
 exact ⟨_,_,rfl,rfl,h.rs has⟩
theorem Qs0 (h:AR w.heap R F L n v (A::B::q)) (ha:a∈A) (hb:b∈B) :
  Calls Pg Qbz #[.pointer (some ⟨R,0,none⟩),.int .i64 a,.int .i64 b] w fun e w'=>e=.returned (.tuple #[.bool false,errV 0])∧RS w w' R F L n v (A::B::q):=by
 refine (Qeh _ _ _ _ (fun v' w'=>v'=.tuple #[.bool false,errV 0]∧RS w w' R F L n v (A::B::q)) ?_).mono (by rintro e w' ⟨v,rfl,rfl,k⟩;exact ⟨rfl,k⟩)
 unfold Qd0
 refine (Qnd h.r).mono ?_
 rintro e w4 ⟨rfl,rfl⟩
 refine ⟨_,rfl,(c_Same_no h.a ha hb).mono ?_⟩
 rintro e w8 ⟨rfl,has⟩
 exact ⟨_,_,rfl,rfl,h.rs has⟩
theorem rg_Len (h:AR w.heap R F L n v (A::q)) (hx:x∈A) :
  Calls Pg Qdh #[.pointer (some ⟨R,0,none⟩),.int .i64 x] w fun e w'=>e=.returned (.tuple #[.int .i64 A.length,errV 0])∧RS w w' R F L n v (A::q):=by
 refine (Qg3 _ _ _ (fun v' w'=>v'=.tuple #[.int .i64 A.length,errV 0]∧RS w w' R F L n v (A::q)) ?_).mono (by rintro e w' ⟨v,rfl,rfl,k⟩;exact ⟨rfl,k⟩)
 unfold Qgm
 refine (Qnd h.r).mono ?_
 rintro e w4 ⟨rfl,rfl⟩
 refine ⟨_,rfl,(c_Size h.a hx).mono ?_⟩
 rintro e w8 ⟨rfl,has⟩
 exact ⟨_,_,rfl,rfl,h.rs has⟩
theorem Qtx {y:Nat} {A':List Nat} (h:AR w.heap R F L n v ((y::A')::q)) (hx:x∈y::A') :
  Calls Pg Qcw #[.pointer (some ⟨R,0,none⟩),.int .i64 x] w fun e w'=>e=.returned (.tuple #[.int .i64 y,errV 0])∧RS w w' R F L n v ((y::A')::q):=by
 refine (Qfo _ _ _ (fun v' w'=>v'=.tuple #[.int .i64 y,errV 0]∧RS w w' R F L n v ((y::A')::q)) ?_).mono (by rintro e w' ⟨v,rfl,rfl,k⟩;exact ⟨rfl,k⟩)
 unfold Qe4
 refine (Qnd h.r).mono ?_
 rintro e w4 ⟨rfl,rfl⟩
 refine ⟨_,rfl,(c_At h.a hx (i:=0) (by omega)).mono ?_⟩
 rintro e w8 ⟨⟨z,hz⟩,has⟩
 rcases hz with ⟨_,h2,rfl⟩ | ⟨h1,_⟩
 ·simp at h2;subst h2
  exact ⟨_,_,rfl,rfl,h.rs has⟩
 ·exact absurd ⟨by omega,by simp⟩ h1
theorem AR.bds (h:AR w.heap R F L n v (A::q)):A.Nodup∧(∀x∈A,x<n)∧A.length≤n∧n≤8388608∧A≠[]:=by
 obtain ⟨h1,h2,h3,_,h5,_⟩:=h.a.nodup
 simp only [List.flatten_cons,List.nodup_append] at h1
 exact ⟨h1.1,h2 A (by simp),Qjj h1.1 (h2 A (by simp)),h5,h3 A (by simp)⟩
theorem rg_step {by_:Int} {i k y:Nat} (h:AR w.heap R F L n v (A::q)) (hx:A[i]?=some x) (hb:by_=1∨by_=-1) (hk:A[k]?=some y) (hik:(k:Int)=Int.tmod ((i:Int)+by_+A.length) A.length) :
  Calls Pg Qc4 #[.pointer (some ⟨R,0,none⟩),.int .i64 x,.int .i64 by_] w fun e w'=>e=.returned (.tuple #[.int .i64 y,errV 0])∧RS w w' R F L n v (A::q):=by
 obtain ⟨b1,b2,b3,b4,b5⟩:=h.bds
 have hxA:=List.mem_of_getElem? hx
 have hi:=(List.getElem?_eq_some_iff.1 hx).1
 have hkl:=(List.getElem?_eq_some_iff.1 hk).1
 refine (Qge _ _ _ _ (fun v' w'=>v'=.tuple #[.int .i64 y,errV 0]∧RS w w' R F L n v (A::q)) ?_).mono (by rintro e w' ⟨v,rfl,rfl,k⟩;exact ⟨rfl,k⟩)
 unfold Qfs
 refine (rg_Len h hxA).mono ?_
 rintro e w5 ⟨rfl,hrs⟩
 refine ⟨_,_,rfl,Qan (fun e=>absurd rfl e) (fun _=>?_)⟩
 refine pt_i (Qa7 hrs.r rfl ?_)
 have hsplit:A=A.take i++x::A.drop (i+1):=by
  conv=>lhs;rw [←List.take_append_drop i A]
  congr 1
  rw [List.drop_eq_getElem_cons hi]
  congr 1
  exact (List.getElem?_eq_some_iff.1 hx).2
 have hrank:=c_Rank (w:=w5) (F:=F) (L:=L) (n:=n) (v:=v) (x:=x) (pre:=A.take i) (post:=A.drop (i+1)) (q:=q) (by rw [←hsplit];exact hrs.ar.a)
 rw [←hsplit] at hrank
 refine hrank.mono ?_
 rintro e w11 ⟨rfl,has⟩
 have hrs:=hrs.as has
 refine ⟨_,_,rfl,Qan (fun e=>absurd rfl e) (fun _=>?_)⟩
 refine pt_i (Qa7 hrs.r rfl ?_)
 have hle:((A.take i).length:Int)=i:=by rw [List.length_take];omega
 rw [hle,wrap64_in (x:=(i:Int)+by_) (by omega) (by omega),wrap64_in (x:=(i:Int)+by_+(A.length:Int)) (by omega) (by omega),←hik]
 refine ⟨by omega,?_⟩
 refine (c_At hrs.drew.ar.a hxA (i:=(k:Int)) (by omega)).mono ?_
 rintro e w17 ⟨⟨z,hz⟩,has⟩
 rcases hz with ⟨_,h2,rfl⟩ | ⟨h1,_⟩
 ·have:(k:Int).toNat=k:=by omega
  rw [this,hk] at h2
  injection h2 with h2
  subst h2
  exact ⟨_,_,rfl,rfl,hrs.drew.as has⟩
 ·exact absurd ⟨by omega,by omega⟩ h1
theorem rg_Next {i k y:Nat} (h:AR w.heap R F L n v (A::q)) (hx:A[i]?=some x) (hk:k=if i+1=A.length then 0 else i+1) (hy:A[k]?=some y) :
  Calls Pg Qd8 #[.pointer (some ⟨R,0,none⟩),.int .i64 x] w fun e w'=>e=.returned (.tuple #[.int .i64 y,errV 0])∧RS w w' R F L n v (A::q):=by
 refine (Qgh _ _ _ (fun v' w'=>v'=.tuple #[.int .i64 y,errV 0]∧RS w w' R F L n v (A::q)) ?_).mono (by rintro e w' ⟨v,rfl,rfl,k⟩;exact ⟨rfl,k⟩)
 unfold Qfv
 have hi:=(List.getElem?_eq_some_iff.1 hx).1
 refine (rg_step h hx (.inl rfl) hy ?_).mono ?_
 ·rw [Int.tmod_eq_emod_of_nonneg (by omega)]
  split at hk
  ·rename_i e
   have:(i:Int)+1+A.length=0+A.length*2:=by omega
   rw [this,Int.add_mul_emod_self_left,Int.zero_emod];omega
  ·have:(i:Int)+1+A.length=(i+1)+A.length*1:=by omega
   rw [this,Int.add_mul_emod_self_left,Int.emod_eq_of_lt (by omega) (by omega)];omega
 ·rintro e w5 ⟨rfl,hrs⟩
  exact ⟨_,_,rfl,rfl,hrs⟩
theorem Qv9 {i k y:Nat} (h:AR w.heap R F L n v (A::q)) (hx:A[i]?=some x) (hk:i=if k+1=A.length then 0 else k+1) (hy:A[k]?=some y) :
  Calls Pg Qci #[.pointer (some ⟨R,0,none⟩),.int .i64 x] w fun e w'=>e=.returned (.tuple #[.int .i64 y,errV 0])∧RS w w' R F L n v (A::q):=by
 refine (Qjq _ _ _ (fun v' w'=>v'=.tuple #[.int .i64 y,errV 0]∧RS w w' R F L n v (A::q)) ?_).mono (by rintro e w' ⟨v,rfl,rfl,k⟩;exact ⟨rfl,k⟩)
 unfold Qh3
 have hi:=(List.getElem?_eq_some_iff.1 hx).1
 have hkl:=(List.getElem?_eq_some_iff.1 hy).1
 refine (rg_step h hx (.inr rfl) hy ?_).mono ?_
 ·rw [Int.tmod_eq_emod_of_nonneg (by omega)]
  split at hk
  ·subst hk
   rw [Int.emod_eq_of_lt (by omega) (by omega)];omega
  ·have:(i:Int)+-1+A.length=k+A.length*1:=by omega
   rw [this,Int.add_mul_emod_self_left,Int.emod_eq_of_lt (by omega) (by omega)]
 ·rintro e w5 ⟨rfl,hrs⟩
  exact ⟨_,_,rfl,rfl,hrs⟩
theorem map_add0 (b:Option Addr):Option.map (fun a=>Addr.add a (0*1)) b=b:=by cases b<;>rfl
theorem rg_Walk (h:AR w.heap R F L n v ((pre++x::post)::q)) :
  Calls Pg Qd7 #[.pointer (some ⟨R,0,none⟩),.int .i64 x] w fun e w'=>∃ob oc,e=.returned (.tuple #[.slice ob (pre++x::post).length oc,errV 0])∧Own w' w.heap.size Qbl 1 ob (pre++x::post).length oc (ivs (x::post++pre))∧RS w w' R F L n v ((pre++x::post)::q):=by
 obtain ⟨b1,b2,b3,b4,b5⟩:=h.bds
 refine (Qgf _ _ _ (fun v' w'=>∃ob oc,v'=.tuple #[.slice ob (pre++x::post).length oc,errV 0]∧Own w' w.heap.size Qbl 1 ob (pre++x::post).length oc (ivs (x::post++pre))∧RS w w' R F L n v ((pre++x::post)::q)) ?_).mono (by rintro e w' ⟨v,rfl,b,c,rfl,k⟩;exact ⟨b,c,rfl,k⟩)
 unfold Qft
 refine (Qnd h.r).mono ?_
 rintro e w4 ⟨rfl,rfl⟩
 refine ⟨_,rfl,(c_List h.a (x:=x) (by simp)).mono ?_⟩
 rintro e w7 ⟨lb,lc,rfl,hown,has⟩
 have hrs:=h.rs has
 refine ⟨_,_,_,_,rfl,Qan (fun e=>absurd rfl e) (fun _=>?_)⟩
 have hcap:=hown.cap
 have hia:IA w7 lb (pre++x::post).length (ints (pre++x::post)):=IA.Qj9 hown (by simp [ivs,Function.comp_def])
 have hpl:pre.length<(pre++x::post).length:=by simp
 refine (c_Index (i:=pre.length) (c:=lc) hia (by simp) ?_ (by omega)).mono ?_
 ·intro j hj e
  rw [List.getElem?_map,List.getElem?_append_left hj] at e
  obtain ⟨u,hu,e⟩:=Option.map_eq_some_iff.1 e
  have:u=x:=by omega
  subst this
  have:=List.mem_of_getElem? hu
  simp only [List.nodup_append] at b1
  exact b1.2.2 u this u (by simp) rfl
 rintro e w10 ⟨rfl,hc⟩
 refine ⟨_,rfl,by omega,by omega,by omega,by omega,?_⟩
 have ei:Int.toNat (pre.length:Int)=pre.length:=by omega
 rw [ei,map_add0,ite_self,Nat.sub_zero,Nat.sub_zero]
 refine Qa9 fun hrow=>?_
 have hia:=(hia.nob hc).drew.alloc (.cells #[.slice (if lc=pre.length then lb else Option.map (fun a=>Addr.add a (pre.length*1)) lb) ((pre++x::post).length-pre.length) (lc-pre.length),.slice lb pre.length lc] Qam)
 have hrs:=(hrs.nob hc).drew.nob ((Chg.refl _ _).alloc (.cells #[.slice (if lc=pre.length then lb else Option.map (fun a=>Addr.add a (pre.length*1)) lb) ((pre++x::post).length-pre.length) (lc-pre.length),.slice lb pre.length lc] Qam))
 rw [if_neg (by omega)] at hrow hia hrs ⊢
 have h1:=hia.post (k:=pre.length) (by omega)
 have h2:=hia.pre (k:=pre.length) (by omega)
 have hs7:=has.chg.size
 have hs10:=hc.size
 generalize w10.drew.alloc (.cells #[.slice (Option.map (fun a=>Addr.add a (pre.length*1)) lb) ((pre++x::post).length-pre.length) (lc-pre.length),.slice lb pre.length lc] Qam)=w13 at *
 refine (c_Concat2 hrow h1 h2 (by omega) (by omega)).mono ?_
 rintro e w15 ⟨ob,oc,rfl,ho,hc2⟩
 have hl:(pre++x::post).length-pre.length+pre.length=(pre++x::post).length:=by omega
 rw [hl] at ho ⊢
 have hsz13:=hrow.lt
 refine ⟨_,_,_,rfl,ob,oc,rfl,?_,hrs.nob hc2⟩
 have e2:((ints (pre++x::post)).drop pre.length++(ints (pre++x::post)).take pre.length).map (Value.int .i64)=ivs (x::post++pre):=by
  rw [←List.map_drop,←List.map_take,List.drop_left,List.take_left]
  simp [ivs,Function.comp_def]
 rw [e2] at ho
 have hdr:w10.drew.heap.size=w10.heap.size:=rfl
 exact ho.mono (by omega)
theorem Qv8 (h:AR w.heap R F L n v ((pre++x::post)::q)) :
  Calls Pg Qby #[.pointer (some ⟨R,0,none⟩),.int .i64 x] w fun e w'=>e=.returned (errV 0)∧RS w w' R F L n v ((x::post++pre)::q):=by
 obtain ⟨b1,b2,b3,b4,b5⟩:=h.bds
 refine (Qgg _ _ _ (fun v' w'=>v'=errV 0∧RS w w' R F L n v ((x::post++pre)::q)) ?_).mono (by rintro e w' ⟨v,rfl,rfl,k⟩;exact ⟨rfl,k⟩)
 unfold Qfu
 cases pre with
 | nil=>
  refine (Qtx (y:=x) (A':=post) (x:=x) h (by simp)).mono ?_
  rintro e w4 ⟨rfl,hrs⟩
  refine ⟨_,_,rfl,Qan (fun e=>absurd rfl e) (fun _=>?_)⟩
  refine Qag (fun _=>⟨rfl,by simpa using hrs⟩) (fun h=>?_)
  simp at h
 | cons y pre=>
  refine (Qtx (y:=y) (A':=pre++x::post) (x:=x) h (by simp)).mono ?_
  rintro e w4 ⟨rfl,hrs⟩
  refine ⟨_,_,rfl,Qan (fun e=>absurd rfl e) (fun _=>?_)⟩
  have hyx:y≠x:=by
   rintro rfl
   simp at b1
  refine Qag (fun h=>?_) (fun _=>?_)
  ·simp only [b1s] at h;omega
  refine pt_i (Qa7 hrs.r rfl ?_)
  refine (Quy (pre:=y::pre) (post:=post) hrs.ar.a (by simp)).mono ?_
  rintro e w10 ⟨rfl,has⟩
  have hrs:=hrs.as has
  refine ⟨_,_,rfl,Qan (fun e=>absurd rfl e) (fun _=>?_)⟩
  refine pt_i (Qa7 hrs.r rfl ?_)
  have hrs:=hrs.perm (List.Perm.swap _ _ _)
  refine (c_Join (a:=x) (b:=y) hrs.ar.a (by simp) (by simp)).mono ?_
  rintro e w16 ⟨rfl,has⟩
  exact ⟨_,rfl,rfl,hrs.as has⟩
theorem rg_Split {mid rest:List Nat} (h:AR w.heap R F L n v ((pre++a::post)::q)) (hs:post++pre=mid++b::rest) :
  Calls Pg Qb4 #[.pointer (some ⟨R,0,none⟩),.int .i64 a,.int .i64 b] w fun e w'=>e=.returned (errV 0)∧RS w w' R F L n v ((a::mid)::(b::rest)::q):=by
 refine (Qcs _ _ _ _ (fun v' w'=>v'=errV 0∧RS w w' R F L n v ((a::mid)::(b::rest)::q)) ?_).mono (by rintro e w' ⟨v,rfl,rfl,k⟩;exact ⟨rfl,k⟩)
 unfold Qct
 obtain ⟨b1,b2,b3,b4,b5⟩:=h.bds
 have hbm:b∈post++pre:=by rw [hs];simp
 have hba:b∈pre++a::post:=by
  rcases List.mem_append.1 hbm with h | h<;>simp [h]
 have hne:a≠b:=by
  rintro rfl
  simp only [List.nodup_append,List.nodup_cons] at b1
  rcases List.mem_append.1 hbm with h | h
  ·exact b1.2.1.1 h
  ·exact b1.2.2 a h a (by simp) rfl
 refine (Qne h (a:=a) (b:=b) (by simp) hba).mono ?_
 rintro e w4 ⟨rfl,hrs⟩
 refine ⟨_,_,rfl,Qan (fun e=>absurd rfl e) (fun _=>?_)⟩
 refine Qag (fun h=>?_) (fun _=>Qag (fun h=>by cases h) (fun _=>?_))
 ·simp only [b1s] at h;omega
 refine (Qv8 hrs.ar).mono ?_
 rintro e w8 ⟨rfl,hrs2⟩
 have hrs:=hrs.trans hrs2
 refine ⟨_,rfl,Qan (fun e=>absurd rfl e) (fun _=>?_)⟩
 refine pt_i (Qa7 hrs.r rfl ?_)
 have e1:a::post++pre=(a::mid)++b::rest:=by simp [hs]
 rw [e1] at hrs
 refine (Quy (pre:=a::mid) (post:=rest) hrs.ar.a (by simp)).mono ?_
 rintro e w14 ⟨rfl,has⟩
 exact ⟨_,_,rfl,rfl,hrs.as has⟩
theorem rg_Merge (h:AR w.heap R F L n v ((pra++a::poa)::(prb++b::pob)::q)) :
  Calls Pg Qcv #[.pointer (some ⟨R,0,none⟩),.int .i64 a,.int .i64 b] w fun e w'=>e=.returned (errV 0)∧RS w w' R F L n v (((a::poa++pra)++(b::pob++prb))::q):=by
 refine (Qds _ _ _ _ (fun v' w'=>v'=errV 0∧RS w w' R F L n v (((a::poa++pra)++(b::pob++prb))::q)) ?_).mono (by rintro e w' ⟨v,rfl,rfl,k⟩;exact ⟨rfl,k⟩)
 unfold Qdl
 refine (Qs0 h (by simp) (by simp)).mono ?_
 rintro e w4 ⟨rfl,hrs⟩
 refine ⟨_,_,rfl,Qan (fun e=>absurd rfl e) (fun _=>?_)⟩
 refine Qag (fun h=>by cases h) (fun _=>?_)
 refine (Qv8 hrs.ar).mono ?_
 rintro e w8 ⟨rfl,hrs2⟩
 have hrs:=(hrs.trans hrs2).perm (List.Perm.swap _ _ _)
 refine ⟨_,rfl,Qan (fun e=>absurd rfl e) (fun _=>?_)⟩
 refine (Qv8 hrs.ar).mono ?_
 rintro e w11 ⟨rfl,hrs2⟩
 have hrs:=(hrs.trans hrs2).perm (List.Perm.swap _ _ _)
 refine ⟨_,rfl,Qan (fun e=>absurd rfl e) (fun _=>?_)⟩
 refine pt_i (Qa7 hrs.r rfl ?_)
 refine (c_Join (a:=a) (b:=b) hrs.ar.a (by simp) (by simp)).mono ?_
 rintro e w16 ⟨rfl,has⟩
 exact ⟨_,rfl,rfl,hrs.as has⟩
theorem rg_New {n:Nat} (h1:1≤n) (hn:n≤8388608) :
  Calls Pg Qni #[.int .i64 n] w fun e w'=>∃R F L,e=.returned (.tuple #[.pointer (some ⟨R,0,none⟩),errV 0])∧Chg Qac w w'∧w.heap.size≤R∧w.heap.size≤F∧w.heap.size≤L∧AR w'.heap R F L n (fun _=>0) (ones n):=by
 refine (Qq4 _ _ (fun v' w'=>∃R F L,v'=.tuple #[.pointer (some ⟨R,0,none⟩),errV 0]∧Chg Qac w w'∧w.heap.size≤R∧w.heap.size≤F∧w.heap.size≤L∧AR w'.heap R F L n (fun _=>0) (ones n)) ?_).mono (by rintro e w' ⟨v,rfl,R,F,L,rfl,k⟩;exact ⟨R,F,L,rfl,k⟩)
 unfold Qrb
 refine (c_New h1 hn).mono ?_
 rintro e w3 ⟨F,L,rfl,hc,hF,hL,ha⟩
 refine ⟨_,_,rfl,Qan (fun e=>absurd rfl e) (fun _=>?_)⟩
 refine Qa9 fun hrow=>?_
 have hlt:=ha.lt
 exact ⟨w3.heap.size,F,L,rfl,hc.alloc _,hc.size,hF,hL,hrow,ha.alloc _,by omega,by omega⟩
end
end Seq
end Go.Proofs.YtpmicakdjhoafaaGreatDoor
